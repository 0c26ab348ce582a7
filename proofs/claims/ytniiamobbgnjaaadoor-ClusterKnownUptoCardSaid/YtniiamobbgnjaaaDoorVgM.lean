/-
  Verification conditions, printed by a program out of the specifications beside this text: each theorem says that the condition suffices. (Lean's kernel compares the printed condition with what 'wpE' computes.)
-/
import Derived.Test.YtniiamobbgnjaaaDoorSpM
import Derived.Test.YtniiamobbgnjaaaDoorProg
import Derived.KernelRfl
set_option linter.unusedVariables false
namespace Go.Proofs.YtniiamobbgnjaaaDoor
open Go Go.RowKit Vc Ut Tb Cl

set_option maxRecDepth 1000000 in
theorem lawAll_vc (hsp : SpecsOk Tryd.prog spLawAll) (h : ∀ (g : ByteArray × Int) (w : World),
U8 w ∧ g.fst.size ≤ (1048576 : Nat) ∧ (-9223372036854775808 : Int) ≤ g.snd ∧ g.snd ≤ (9223372036854775807 : Int) →
∃ (g1 : Unit),
(#[] : Array Value) = #[] ∧
U8 w ∧
∀ (x : Unit) (w' : World),
Ext w w' →
∃ (g2 : ByteArray),
#[Value.string g.fst] = #[Value.string g2] ∧
(U8 w' ∧ g2.size ≤ (67108864 : Nat)) ∧
∀ (x1 : Option Addr × Nat × Nat) (w'1 : World),
x1.snd.fst = ncl g2 ∧
Made w' w'1 (51 : TypeId) (2 : Nat) x1.fst x1.snd.fst (List.flatMap (pcV g2) (List.range (ncl g2))) x1.snd.snd →
∃ (g3 : ByteArray),
#[Value.string g.fst] = #[Value.string g3] ∧
True ∧
∀ (x2 : Nat) (w'2 : World),
w'1.heap.size ≤ x2 ∧ w'2.heap[x2]? = some (Obj.cells #[Value.string g3] (9 : TypeId)) ∧ Ext w'1 w'2 →
∃ (g4 : GTold),
#[Value.func (Fn.func (47 : Nat)) #[] #[Value.pointer (some { block := x2, off := (0 : Nat) })],
Value.slice x1.fst x1.snd.fst x1.snd.snd, Value.bool false, Value.int IntKind.i64 g.snd] =
#[Value.func (Fn.func g4.it.f) #[] g4.it.caps, Value.slice g4.a g4.want.length g4.c, Value.bool g4.back,
Value.int IntKind.i64 g4.leave] ∧
(g4.it.ok w'2 ∧
CellsAt w'2 g4.a (List.flatMap encPc g4.want) ∧ g4.it.xs = if g4.back = true then g4.want.reverse else g4.want) ∧
∀ (x3 : Unit) (w'3 : World),
Ext w'2 w'3 →
∃ (g5 : ByteArray),
#[Value.string g.fst] = #[Value.string g5] ∧
(U8 w'3 ∧ g5.size ≤ (67108864 : Nat)) ∧
∀ (x4 : GBk) (w'4 : World),
x4.s = g5 ∧
BkAt x4 w'4 ∧
w'3.heap.size ≤ x4.bl ∧ w'3.heap.size ≤ x4.bs ∧ (∀ (q : Nat), blk x4.a = some q → w'3.heap.size ≤ q) ∧ Ext w'3 w'4 →
∃ (g6 : GTold),
#[Value.func (Fn.func (33 : FuncId)) #[]
#[Value.pointer (some { block := x4.bl, off := (0 : Nat) }), Value.pointer (some { block := x4.bs, off := (0 : Nat) })],
Value.slice x1.fst x1.snd.fst x1.snd.snd, Value.bool true, Value.int IntKind.i64 g.snd] =
#[Value.func (Fn.func g6.it.f) #[] g6.it.caps, Value.slice g6.a g6.want.length g6.c, Value.bool g6.back,
Value.int IntKind.i64 g6.leave] ∧
(g6.it.ok w'4 ∧
CellsAt w'4 g6.a (List.flatMap encPc g6.want) ∧ g6.it.xs = if g6.back = true then g6.want.reverse else g6.want) ∧
∀ (x5 : Unit) (w'5 : World),
Ext w'4 w'5 →
∃ (g7 : ByteArray),
#[Value.string g.fst] = #[Value.string g7] ∧
(U8 w'5 ∧ g7.size ≤ (67108864 : Nat)) ∧
∀ (x6 : Nat) (w'6 : World),
x6 = nextL g7 ∧ Ext w'5 w'6 →
∃ (g8 : ByteArray),
#[Value.string g.fst] = #[Value.string g8] ∧
(U8 w'6 ∧ g8.size ≤ (67108864 : Nat)) ∧
∀ (x7 : Nat) (w'7 : World),
x7 = nextL g8 ∧ Ext w'6 w'7 →
bcase ((↑x6 : Int) == (↑x7 : Int))
(∃ (g9 : ByteArray),
#[Value.string g.fst] = #[Value.string g9] ∧
(U8 w'7 ∧ g9.size ≤ (67108864 : Nat)) ∧
∀ (x8 : Nat) (w'8 : World),
x8 = lastL g9 ∧ Ext w'7 w'8 →
∃ (g10 : ByteArray),
#[Value.string g.fst] = #[Value.string g10] ∧
(U8 w'8 ∧ g10.size ≤ (67108864 : Nat)) ∧
∀ (x9 : Nat) (w'9 : World),
x9 = lastL g10 ∧ Ext w'8 w'9 →
bcase ((↑x8 : Int) == (↑x9 : Int))
(∃ (g11 : ByteArray),
#[Value.string g.fst] = #[Value.string g11] ∧
(U8 w'9 ∧ g11.size ≤ (67108864 : Nat)) ∧
∀ (x10 : Nat) (w'10 : World),
x10 = ncl g11 ∧ Ext w'9 w'10 →
bcase ((↑x10 : Int) == (↑x1.snd.fst : Int))
(∃ (g12 : Unit),
(#[] : Array Value) = #[] ∧
U8 w'10 ∧ ∀ (x11 : Unit) (w'11 : World), Ext w'10 w'11 → ∃ (x12 : Unit), Value.bool true = Value.bool true ∧ Ext w w'11)
(∃ (x11 : Unit), Value.bool false = Value.bool true ∧ Ext w w'10))
(∃ (x10 : Unit), Value.bool false = Value.bool true ∧ Ext w w'9))
(∃ (x8 : Unit), Value.bool false = Value.bool true ∧ Ext w w'7)) :
    (sLawSI).Ok Tryd.prog 3 :=
  ok_of_vc sLawSI (annOf spLawAll) spLawAll (fun _ _ => rfl) (fun _ _ => rfl) hsp Tryd.func3 rfl (n := 2) (fun _ => rfl) (by kernel_rfl) (vcast (by kernel_rfl) h)

set_option maxRecDepth 1000000 in
theorem lawAt_vc (hsp : SpecsOk Tryd.prog spLawAt) (h : ∀ (g : GSn) (w : World),
U8 w ∧ g.s.size ≤ (1048576 : Nat) ∧ GSl.at IntKind.i64 g.l w ∧ g.l.xs.length ≤ (1048576 : Nat) →
∃ (g1 : Unit),
(#[] : Array Value) = #[] ∧
U8 w ∧
∀ (x : Unit) (w' : World),
Ext w w' →
∃ (a' : Option Addr),
∃ (c' : Nat),
∃ (w'1 : World),
AppRun Tryd.prog #[(31 : Nat), (31 : Nat)] (31 : Nat) (Value.slice none (0 : Nat) (0 : Nat))
(Value.slice g.l.ad g.l.xs.length g.l.c) w' a' ((0 : Nat) + g.l.xs.length) c' w'1 ∧
KO w' w'1 ∧
((∃ (x1 : GLa),
Value.int IntKind.i64 (-1 : Int) = Value.int IntKind.i64 ((↑x1.j : Int) - (1 : Int)) ∧
Value.slice a' ((0 : Nat) + g.l.xs.length) c' = Value.slice x1.a x1.xs.length x1.c ∧
x1.j ≤ g.s.size + (3 : Nat) ∧
((0 : Nat) < x1.j → g.s.size < (200 : Nat)) ∧
x1.xs.length = g.l.xs.length + x1.j ∧
Made w w'1 (3 : TypeId) (1 : Nat) x1.a x1.xs.length (List.map (Value.int IntKind.i64) x1.xs) x1.c) ∧
∀ (u : Nat → Value) (x1 : GLa) (w'2 : World),
x1.j ≤ g.s.size + (3 : Nat) ∧
((0 : Nat) < x1.j → g.s.size < (200 : Nat)) ∧
x1.xs.length = g.l.xs.length + x1.j ∧
Made w w'2 (3 : TypeId) (1 : Nat) x1.a x1.xs.length (List.map (Value.int IntKind.i64) x1.xs) x1.c →
InR IntKind.i64 ((↑g.s.size : Int) + (1 : Int)) ∧
bcase (decide ((↑x1.j : Int) - (1 : Int) ≤ (↑g.s.size : Int) + (1 : Int)))
(bcase (decide ((↑g.s.size : Int) < (200 : Int)))
(∀ (b : Nat) (w1 : World),
New w'2 (Obj.cells #[Value.int IntKind.i64 ((↑x1.j : Int) - (1 : Int))] (3 : Nat)) b w1 →
∃ (a'1 : Option Addr),
∃ (c'1 : Nat),
∃ (w'3 : World),
AppRun Tryd.prog #[(31 : Nat), (31 : Nat)] (31 : Nat) (Value.slice x1.a x1.xs.length x1.c)
(Value.slice (some { block := b, off := (0 : Nat) }) (1 : Nat) (1 : Nat)) w1 a'1 (x1.xs.length + (1 : Nat)) c'1 w'3 ∧
KO w1 w'3 ∧
InR IntKind.i64 ((↑x1.j : Int) - (1 : Int) + (1 : Int)) ∧
∃ (y : GLa),
Value.int IntKind.i64 ((↑x1.j : Int) - (1 : Int) + (1 : Int)) = Value.int IntKind.i64 ((↑y.j : Int) - (1 : Int)) ∧
Value.slice a'1 (x1.xs.length + (1 : Nat)) c'1 = Value.slice y.a y.xs.length y.c ∧
(y.j ≤ g.s.size + (3 : Nat) ∧
((0 : Nat) < y.j → g.s.size < (200 : Nat)) ∧
y.xs.length = g.l.xs.length + y.j ∧
Made w w'3 (3 : TypeId) (1 : Nat) y.a y.xs.length (List.map (Value.int IntKind.i64) y.xs) y.c) ∧
g.s.size + (3 : Nat) - y.j < g.s.size + (3 : Nat) - x1.j)
(∃ (c : GLa),
Value.slice x1.a x1.xs.length x1.c = Value.slice c.a c.xs.length c.c ∧
c.xs.length ≤ (2000000 : Nat) ∧
Made w w'2 (3 : TypeId) (1 : Nat) c.a c.xs.length (List.map (Value.int IntKind.i64) c.xs) c.c))
(∃ (c : GLa),
Value.slice x1.a x1.xs.length x1.c = Value.slice c.a c.xs.length c.c ∧
c.xs.length ≤ (2000000 : Nat) ∧
Made w w'2 (3 : TypeId) (1 : Nat) c.a c.xs.length (List.map (Value.int IntKind.i64) c.xs) c.c)) ∧
∀ (u : Nat → Value) (c : GLa) (w'2 : World),
c.xs.length ≤ (2000000 : Nat) ∧
Made w w'2 (3 : TypeId) (1 : Nat) c.a c.xs.length (List.map (Value.int IntKind.i64) c.xs) c.c →
(∃ (x1 : Nat), Value.int IntKind.i64 (0 : Int) = Value.int IntKind.i64 (↑x1 : Int) ∧ x1 ≤ c.xs.length ∧ Ext w'2 w'2) ∧
∀ (u1 : Nat → Value) (x1 : Nat) (w'3 : World),
x1 ≤ c.xs.length ∧ Ext w'2 w'3 →
bcase
(decide ((↑x1 : Int) < (↑c.xs.length : Int)) &&
(decide ((↑x1 : Int) < (400 : Int)) && (decide ((↑x1 : Int) < (5 : Int)) || decide ((↑g.s.size : Int) < (4000 : Int)))))
(∃ (k : Nat),
(↑x1 : Int) = (↑k : Int) ∧
k < c.xs.length ∧
ptrE c.a fun (b o : Nat) =>
∃ (n : Int),
w'3.cell? { block := b, off := o + k } = some (Value.int IntKind.i64 n) ∧
∃ (g2 : ByteArray × Int),
#[Value.string g.s, Value.int IntKind.i64 n] = #[Value.string g2.fst, Value.int IntKind.i64 g2.snd] ∧
(U8 w'3 ∧ g2.fst.size ≤ (67108864 : Nat)) ∧
∀ (x2 : Nat × Nat) (w'4 : World),
x2 = (bp g2.fst (ixP g2.fst (clampN g2.fst g2.snd)), bp g2.fst (ixP g2.fst (clampN g2.fst g2.snd) + (1 : Nat))) ∧
Ext w'3 w'4 →
∃ (k1 : Nat),
(↑x1 : Int) = (↑k1 : Int) ∧
k1 < c.xs.length ∧
ptrE c.a fun (b1 o1 : Nat) =>
∃ (n1 : Int),
w'4.cell? { block := b1, off := o1 + k1 } = some (Value.int IntKind.i64 n1) ∧
∃ (g3 : ByteArray × Int),
#[Value.string g.s, Value.int IntKind.i64 n1] = #[Value.string g3.fst, Value.int IntKind.i64 g3.snd] ∧
(U8 w'4 ∧ g3.fst.size ≤ (67108864 : Nat)) ∧
∀ (x3 : Nat × Nat) (w'5 : World),
x3 = (bp g3.fst (ixP g3.fst (clampN g3.fst g3.snd)), bp g3.fst (ixP g3.fst (clampN g3.fst g3.snd) + (1 : Nat))) ∧
Ext w'4 w'5 →
∀ (w1 : World),
Drew w'5 w1 →
bcase ((↑x2.fst : Int) != (↑x3.fst : Int)) (∃ (x4 : Unit), Value.bool false = Value.bool true ∧ Ext w w1)
(bcase ((↑x2.snd : Int) != (↑x3.snd : Int)) (∃ (x4 : Unit), Value.bool false = Value.bool true ∧ Ext w w1)
(∃ (k2 : Nat),
(↑x1 : Int) = (↑k2 : Int) ∧
k2 < c.xs.length ∧
ptrE c.a fun (b2 o2 : Nat) =>
∃ (n2 : Int),
w'5.cell? { block := b2, off := o2 + k2 } = some (Value.int IntKind.i64 n2) ∧
∃ (k3 : Nat),
(↑x1 : Int) = (↑k3 : Int) ∧
k3 < c.xs.length ∧
ptrE c.a fun (b3 o3 : Nat) =>
∃ (n3 : Int),
w'5.cell? { block := b3, off := o3 + k3 } = some (Value.int IntKind.i64 n3) ∧
∃ (g4 : ByteArray × Int),
#[Value.string g.s, Value.int IntKind.i64 n2] = #[Value.string g4.fst, Value.int IntKind.i64 g4.snd] ∧
(U8 w1 ∧ g4.fst.size ≤ (67108864 : Nat)) ∧
∀ (x4 : Bool) (w'6 : World),
x4 = isB g4.fst g4.snd ∧ Ext w1 w'6 →
Below w1.heap.size w1 w'6 ∧
∃ (g5 : ByteArray × Int),
#[Value.string g.s, Value.int IntKind.i64 n3] = #[Value.string g5.fst, Value.int IntKind.i64 g5.snd] ∧
(U8 w'6 ∧ g5.fst.size ≤ (67108864 : Nat)) ∧
∀ (x5 : Bool) (w'7 : World),
x5 = isB g5.fst g5.snd ∧ Ext w'6 w'7 →
bcase (!x4 == x5) (∃ (x6 : Unit), Value.bool false = Value.bool true ∧ Ext w w'7)
(InR IntKind.i64 ((↑x1 : Int) + (1 : Int)) ∧
∃ (y : Nat),
Value.int IntKind.i64 ((↑x1 : Int) + (1 : Int)) = Value.int IntKind.i64 (↑y : Int) ∧
(y ≤ c.xs.length ∧ Ext w'2 w'7) ∧ c.xs.length - y < c.xs.length - x1))))
(∃ (g2 : Unit),
(#[] : Array Value) = #[] ∧
U8 w'3 ∧ ∀ (x2 : Unit) (w'4 : World), Ext w'3 w'4 → ∃ (x3 : Unit), Value.bool true = Value.bool true ∧ Ext w w'4)) :
    (sLawSL).Ok Tryd.prog 4 :=
  ok_of_vc sLawSL annLawAt spLawAt (fun _ _ => rfl) (fun _ _ => rfl) hsp Tryd.func4 rfl (n := 2) (fun _ => rfl) (by kernel_rfl) (vcast (by kernel_rfl) h)

set_option maxRecDepth 1000000 in
theorem lawCut_vc (hsp : SpecsOk Tryd.prog spLawCut) (h : ∀ (g : ByteArray × Int) (w : World),
U8 w ∧ g.fst.size ≤ (1048576 : Nat) ∧ (-9223372036854775808 : Int) ≤ g.snd ∧ g.snd ≤ (9223372036854775807 : Int) →
∃ (g1 : Unit),
(#[] : Array Value) = #[] ∧
U8 w ∧
∀ (x : Unit) (w' : World),
Ext w w' →
∃ (g2 : ByteArray),
#[Value.string g.fst] = #[Value.string g2] ∧
True ∧
∀ (x1 : Nat) (w'1 : World),
w'.heap.size ≤ x1 ∧ w'1.heap[x1]? = some (Obj.cells #[Value.string g2] (9 : TypeId)) ∧ Ext w' w'1 →
∃ (g3 : GIt),
#[Value.func (Fn.func (47 : Nat)) #[] #[Value.pointer (some { block := x1, off := (0 : Nat) })]] =
#[Value.func (Fn.func g3.f) #[] g3.caps] ∧
g3.ok w'1 ∧
∀ (x2 : Option Addr × Nat × Nat) (w'2 : World),
x2.snd.fst = g3.xs.length ∧
Made w'1 w'2 (38 : TypeId) (2 : Nat) x2.fst x2.snd.fst (List.flatMap encPc g3.xs) x2.snd.snd →
∃ (g4 : ByteArray),
#[Value.string g.fst] = #[Value.string g4] ∧
(U8 w'2 ∧ g4.size ≤ (67108864 : Nat)) ∧
∀ (x3 : GBk) (w'3 : World),
x3.s = g4 ∧
BkAt x3 w'3 ∧
w'2.heap.size ≤ x3.bl ∧ w'2.heap.size ≤ x3.bs ∧ (∀ (q : Nat), blk x3.a = some q → w'2.heap.size ≤ q) ∧ Ext w'2 w'3 →
∃ (g5 : GIt),
#[Value.func (Fn.func (33 : FuncId)) #[]
#[Value.pointer (some { block := x3.bl, off := (0 : Nat) }),
Value.pointer (some { block := x3.bs, off := (0 : Nat) })]] =
#[Value.func (Fn.func g5.f) #[] g5.caps] ∧
g5.ok w'3 ∧
∀ (x4 : Option Addr × Nat × Nat) (w'4 : World),
x4.snd.fst = g5.xs.length ∧
Made w'3 w'4 (38 : TypeId) (2 : Nat) x4.fst x4.snd.fst (List.flatMap encPc g5.xs) x4.snd.snd →
bcase ((↑x4.snd.fst : Int) != (↑x2.snd.fst : Int)) (∃ (x5 : Unit), Value.bool false = Value.bool true ∧ Ext w w'4)
(∃ (g6 : ByteArray),
#[Value.string g.fst] = #[Value.string g6] ∧
(U8 w'4 ∧ g6.size ≤ (67108864 : Nat)) ∧
∀ (x5 : Nat) (w'5 : World),
x5 = ncl g6 ∧ Ext w'4 w'5 →
bcase ((↑x5 : Int) != (↑x2.snd.fst : Int)) (∃ (x6 : Unit), Value.bool false = Value.bool true ∧ Ext w w'5)
(∃ (g7 : Unit),
(#[] : Array Value) = #[] ∧
U8 w'5 ∧
∀ (x6 : Unit) (w'6 : World),
Ext w'5 w'6 →
(∃ (x7 : Nat),
Value.int IntKind.i64 (0 : Int) = Value.int IntKind.i64 (↑x7 : Int) ∧
Value.int IntKind.i64 (0 : Int) = Value.int IntKind.i64 (↑(bp g.fst x7) : Int) ∧ x7 ≤ ncl g.fst ∧ Ext w'6 w'6) ∧
∀ (u : Nat → Value) (x7 : Nat) (w'7 : World),
x7 ≤ ncl g.fst ∧ Ext w'6 w'7 →
bcase (decide ((↑x7 : Int) < (↑x2.snd.fst : Int)))
(∀ (w1 : World),
Drew w'7 w1 →
InR IntKind.i64 ((↑x2.snd.fst : Int) - (1 : Int)) ∧
InR IntKind.i64 ((↑x2.snd.fst : Int) - (1 : Int) - (↑x7 : Int)) ∧
∃ (k : Nat),
(↑x2.snd.fst : Int) - (1 : Int) - (↑x7 : Int) = (↑k : Int) ∧
k < x4.snd.fst ∧
ptrE x4.fst fun (b o : Nat) =>
∃ (n : Int),
w'7.cell? { block := b, off := o + k * (2 : Nat) } = some (Value.int IntKind.i64 n) ∧
∃ (s : ByteArray),
w'7.cell? { block := b, off := o + k * (2 : Nat) + (1 : Nat) } = some (Value.string s) ∧
∃ (k1 : Nat),
(↑x7 : Int) = (↑k1 : Int) ∧
k1 < x2.snd.fst ∧
ptrE x2.fst fun (b1 o1 : Nat) =>
∃ (n1 : Int),
w'7.cell? { block := b1, off := o1 + k1 * (2 : Nat) } = some (Value.int IntKind.i64 n1) ∧
∃ (s1 : ByteArray),
w'7.cell? { block := b1, off := o1 + k1 * (2 : Nat) + (1 : Nat) } = some (Value.string s1) ∧
bcase (!(n == n1 && (s.toList == s1.toList && true))) (∃ (x8 : Unit), Value.bool false = Value.bool true ∧ Ext w w1)
(∃ (k2 : Nat),
(↑x7 : Int) = (↑k2 : Int) ∧
k2 < x2.snd.fst ∧
ptrE x2.fst fun (b2 o2 : Nat) =>
∃ (n2 : Int),
w'7.cell? { block := b2, off := o2 + k2 * (2 : Nat) } = some (Value.int IntKind.i64 n2) ∧
bcase (n2 != (↑(bp g.fst x7) : Int)) (∃ (x8 : Unit), Value.bool false = Value.bool true ∧ Ext w w1)
(∃ (k3 : Nat),
(↑x7 : Int) = (↑k3 : Int) ∧
k3 < x2.snd.fst ∧
ptrE x2.fst fun (b3 o3 : Nat) =>
∃ (s2 : ByteArray),
w'7.cell? { block := b3, off := o3 + k3 * (2 : Nat) + (1 : Nat) } = some (Value.string s2) ∧
bcase (s2.toList == (ByteArray.mk #[]).toList) (∃ (x8 : Unit), Value.bool false = Value.bool true ∧ Ext w w1)
(∃ (k4 : Nat),
(↑x7 : Int) = (↑k4 : Int) ∧
k4 < x2.snd.fst ∧
ptrE x2.fst fun (b4 o4 : Nat) =>
∃ (s3 : ByteArray),
w1.cell? { block := b4, off := o4 + k4 * (2 : Nat) + (1 : Nat) } = some (Value.string s3) ∧
InR IntKind.i64 ((↑(bp g.fst x7) : Int) + (↑s3.size : Int)) ∧
InR IntKind.i64 ((↑x7 : Int) + (1 : Int)) ∧
∃ (y : Nat),
Value.int IntKind.i64 ((↑x7 : Int) + (1 : Int)) = Value.int IntKind.i64 (↑y : Int) ∧
Value.int IntKind.i64 ((↑(bp g.fst x7) : Int) + (↑s3.size : Int)) = Value.int IntKind.i64 (↑(bp g.fst y) : Int) ∧
(y ≤ ncl g.fst ∧ Ext w'6 w1) ∧ ncl g.fst - y < ncl g.fst - x7))))
(bcase ((↑(bp g.fst x7) : Int) != (↑g.fst.size : Int)) (∃ (x8 : Unit), Value.bool false = Value.bool true ∧ Ext w w'7)
(IntKind.i64.wrap ((↑x2.snd.fst : Int) + (1 : Int)) ≠ (0 : Int) ∧
bcase (decide (g.snd.tmod (IntKind.i64.wrap ((↑x2.snd.fst : Int) + (1 : Int))) < (0 : Int)))
(InR IntKind.i64 (g.snd.tmod (IntKind.i64.wrap ((↑x2.snd.fst : Int) + (1 : Int))) + (↑x2.snd.fst : Int)) ∧
InR IntKind.i64 (g.snd.tmod (IntKind.i64.wrap ((↑x2.snd.fst : Int) + (1 : Int))) + (↑x2.snd.fst : Int) + (1 : Int)) ∧
∃ (c : Nat),
Value.int IntKind.i64
(g.snd.tmod (IntKind.i64.wrap ((↑x2.snd.fst : Int) + (1 : Int))) + (↑x2.snd.fst : Int) + (1 : Int)) =
Value.int IntKind.i64 (↑c : Int) ∧
c ≤ ncl g.fst ∧ Ext w'7 w'7)
(∃ (c : Nat),
Value.int IntKind.i64 (g.snd.tmod (IntKind.i64.wrap ((↑x2.snd.fst : Int) + (1 : Int)))) =
Value.int IntKind.i64 (↑c : Int) ∧
c ≤ ncl g.fst ∧ Ext w'7 w'7) ∧
∀ (u1 : Nat → Value) (c : Nat) (w'8 : World),
c ≤ ncl g.fst ∧ Ext w'7 w'8 →
bcase (decide ((↑c : Int) < (↑x2.snd.fst : Int)))
(∃ (k : Nat),
(↑c : Int) = (↑k : Int) ∧
k < x2.snd.fst ∧
ptrE x2.fst fun (b o : Nat) =>
∃ (n : Int),
w'8.cell? { block := b, off := o + k * (2 : Nat) } = some (Value.int IntKind.i64 n) ∧
∃ (c1 : Nat),
Value.int IntKind.i64 n = Value.int IntKind.i64 (↑(bp g.fst c1) : Int) ∧ (↑c : Int) = (↑c1 : Int) ∧ Ext w'8 w'8)
(∃ (c1 : Nat),
Value.int IntKind.i64 (↑g.fst.size : Int) = Value.int IntKind.i64 (↑(bp g.fst c1) : Int) ∧
(↑c : Int) = (↑c1 : Int) ∧ Ext w'8 w'8) ∧
∀ (u2 : Nat → Value) (c1 : Nat) (w'9 : World),
(↑c : Int) = (↑c1 : Int) ∧ Ext w'8 w'9 →
∃ (k : Nat),
(↑(bp g.fst c1) : Int) = (↑k : Int) ∧
(0 : Nat) ≤ k ∧
k ≤ g.fst.size ∧
∃ (g8 : ByteArray),
#[Value.string (g.fst.extract (0 : Nat) k)] = #[Value.string g8] ∧
True ∧
∀ (x8 : Nat) (w'10 : World),
w'9.heap.size ≤ x8 ∧ w'10.heap[x8]? = some (Obj.cells #[Value.string g8] (9 : TypeId)) ∧ Ext w'9 w'10 →
∃ (g9 : GIt),
#[Value.func (Fn.func (47 : Nat)) #[] #[Value.pointer (some { block := x8, off := (0 : Nat) })]] =
#[Value.func (Fn.func g9.f) #[] g9.caps] ∧
g9.ok w'10 ∧
∀ (x9 : Option Addr × Nat × Nat) (w'11 : World),
x9.snd.fst = g9.xs.length ∧
Made w'10 w'11 (38 : TypeId) (2 : Nat) x9.fst x9.snd.fst (List.flatMap encPc g9.xs) x9.snd.snd →
∃ (k1 : Nat),
(↑(bp g.fst c1) : Int) = (↑k1 : Int) ∧
k1 ≤ g.fst.size ∧
g.fst.size ≤ g.fst.size ∧
∃ (g10 : ByteArray),
#[Value.string (g.fst.extract k1 g.fst.size)] = #[Value.string g10] ∧
True ∧
∀ (x10 : Nat) (w'12 : World),
w'11.heap.size ≤ x10 ∧ w'12.heap[x10]? = some (Obj.cells #[Value.string g10] (9 : TypeId)) ∧ Ext w'11 w'12 →
∃ (g11 : GIt),
#[Value.func (Fn.func (47 : Nat)) #[] #[Value.pointer (some { block := x10, off := (0 : Nat) })]] =
#[Value.func (Fn.func g11.f) #[] g11.caps] ∧
g11.ok w'12 ∧
∀ (x11 : Option Addr × Nat × Nat) (w'13 : World),
x11.snd.fst = g11.xs.length ∧
Made w'12 w'13 (38 : TypeId) (2 : Nat) x11.fst x11.snd.fst (List.flatMap encPc g11.xs) x11.snd.snd →
∃ (hn : Nat),
(↑c : Int) = (↑hn : Int) ∧
hn ≤ x2.snd.snd ∧
∃ (g12 : GPp),
#[Value.slice x2.fst hn x2.snd.snd, Value.slice x9.fst x9.snd.fst x9.snd.snd, Value.int IntKind.i64 (0 : Int)] =
#[Value.slice g12.a g12.l.length g12.ac, Value.slice g12.b g12.m.length g12.bc, Value.int IntKind.i64 (↑g12.k : Int)] ∧
(CellsAt w'13 g12.a (List.flatMap encPc g12.l) ∧
CellsAt w'13 g12.b (List.flatMap encPc g12.m) ∧
g12.l.length ≤ (67108864 : Nat) ∧
g12.k ≤ (67108864 : Nat) ∧ ∀ (p : Nat × ByteArray), p ∈ g12.m → p.fst ≤ (67108864 : Nat)) ∧
∀ (x12 : Bool) (w'14 : World),
x12 = decide (g12.l = List.map (upP g12.k) g12.m) ∧ Ext w'13 w'14 →
bcase (!x12) (∃ (x13 : Unit), Value.bool false = Value.bool true ∧ Ext w w'14)
(∃ (ln : Nat),
(↑c : Int) = (↑ln : Int) ∧
ln ≤ x2.snd.fst ∧
∀ (ad' : Option Addr),
SlAt x2.fst ad' x2.snd.snd ln (2 : Nat) →
∃ (g13 : GPp),
#[Value.slice ad' (x2.snd.fst - ln) (x2.snd.snd - ln), Value.slice x11.fst x11.snd.fst x11.snd.snd,
Value.int IntKind.i64 (↑(bp g.fst c1) : Int)] =
#[Value.slice g13.a g13.l.length g13.ac, Value.slice g13.b g13.m.length g13.bc, Value.int IntKind.i64 (↑g13.k : Int)] ∧
(CellsAt w'14 g13.a (List.flatMap encPc g13.l) ∧
CellsAt w'14 g13.b (List.flatMap encPc g13.m) ∧
g13.l.length ≤ (67108864 : Nat) ∧
g13.k ≤ (67108864 : Nat) ∧ ∀ (p : Nat × ByteArray), p ∈ g13.m → p.fst ≤ (67108864 : Nat)) ∧
∀ (x13 : Bool) (w'15 : World),
x13 = decide (g13.l = List.map (upP g13.k) g13.m) ∧ Ext w'14 w'15 →
bcase (!x13) (∃ (x14 : Unit), Value.bool false = Value.bool true ∧ Ext w w'15)
(∃ (g14 : ByteArray × Int),
#[Value.string g.fst, Value.int IntKind.i64 (↑(bp g.fst c1) : Int)] =
#[Value.string g14.fst, Value.int IntKind.i64 g14.snd] ∧
(U8 w'15 ∧ g14.fst.size ≤ (67108864 : Nat)) ∧
∀ (x14 : Bool) (w'16 : World),
x14 = isB g14.fst g14.snd ∧ Ext w'15 w'16 →
bcase (!x14) (∃ (x15 : Unit), Value.bool false = Value.bool true ∧ Ext w w'16)
(bcase (decide ((↑c : Int) < (↑x2.snd.fst : Int)))
(∃ (k2 : Nat),
(↑c : Int) = (↑k2 : Int) ∧
k2 < x2.snd.fst ∧
ptrE x2.fst fun (b o : Nat) =>
∃ (s : ByteArray),
w'16.cell? { block := b, off := o + k2 * (2 : Nat) + (1 : Nat) } = some (Value.string s) ∧
InR IntKind.i64 ((↑(bp g.fst c1) : Int) + (↑s.size : Int)) ∧
InR IntKind.i64 ((↑(bp g.fst c1) : Int) + (↑s.size : Int) - (1 : Int)) ∧
∃ (g15 : ByteArray × Int),
#[Value.string g.fst, Value.int IntKind.i64 ((↑(bp g.fst c1) : Int) + (↑s.size : Int) - (1 : Int))] =
#[Value.string g15.fst, Value.int IntKind.i64 g15.snd] ∧
(U8 w'16 ∧ g15.fst.size ≤ (67108864 : Nat)) ∧
∀ (x15 : Nat × Nat) (w'17 : World),
x15 =
(bp g15.fst (ixP g15.fst (clampN g15.fst g15.snd)), bp g15.fst (ixP g15.fst (clampN g15.fst g15.snd) + (1 : Nat))) ∧
Ext w'16 w'17 →
∀ (w1 : World),
Drew w'17 w1 →
bcase ((↑x15.fst : Int) == (↑(bp g.fst c1) : Int))
(∃ (k3 : Nat),
(↑c : Int) = (↑k3 : Int) ∧
k3 < x2.snd.fst ∧
ptrE x2.fst fun (b1 o1 : Nat) =>
∃ (s1 : ByteArray),
w'17.cell? { block := b1, off := o1 + k3 * (2 : Nat) + (1 : Nat) } = some (Value.string s1) ∧
InR IntKind.i64 ((↑(bp g.fst c1) : Int) + (↑s1.size : Int)) ∧
bcase ((↑x15.snd : Int) == (↑(bp g.fst c1) : Int) + (↑s1.size : Int))
(∃ (k4 : Nat),
(↑(bp g.fst c1) : Int) = (↑k4 : Int) ∧
k4 ≤ g.fst.size ∧
g.fst.size ≤ g.fst.size ∧
∃ (k5 : Nat),
(↑c : Int) = (↑k5 : Int) ∧
k5 < x2.snd.fst ∧
ptrE x2.fst fun (b2 o2 : Nat) =>
∃ (s2 : ByteArray),
w'17.cell? { block := b2, off := o2 + k5 * (2 : Nat) + (1 : Nat) } = some (Value.string s2) ∧
∃ (g16 : ByteArray),
#[Value.string (g.fst.extract k4 g.fst.size)] = #[Value.string g16] ∧
(U8 w1 ∧ g16.size ≤ (67108864 : Nat)) ∧
∀ (x16 : Nat) (w'18 : World),
x16 = nextL g16 ∧ Ext w1 w'18 →
Below w1.heap.size w1 w'18 ∧
∃ (x17 : Unit), Value.bool ((↑x16 : Int) == (↑s2.size : Int)) = Value.bool true ∧ Ext w w'18)
(∃ (x16 : Unit), Value.bool false = Value.bool true ∧ Ext w w1))
(∃ (x16 : Unit), Value.bool false = Value.bool true ∧ Ext w w1))
(∃ (g15 : ByteArray × Int),
#[Value.string g.fst, Value.int IntKind.i64 (↑(bp g.fst c1) : Int)] =
#[Value.string g15.fst, Value.int IntKind.i64 g15.snd] ∧
(U8 w'16 ∧ g15.fst.size ≤ (67108864 : Nat)) ∧
∀ (x15 : Nat × Nat) (w'17 : World),
x15 =
(bp g15.fst (ixP g15.fst (clampN g15.fst g15.snd)), bp g15.fst (ixP g15.fst (clampN g15.fst g15.snd) + (1 : Nat))) ∧
Ext w'16 w'17 →
∃ (x16 : Unit),
Value.bool ((↑x15.fst : Int) == (↑(bp g.fst c1) : Int) && (↑x15.snd : Int) == (↑(bp g.fst c1) : Int)) =
Value.bool true ∧
Ext w w'17))))))))) :
    (sLawSI).Ok Tryd.prog 5 :=
  ok_of_vc sLawSI annLawCut spLawCut (fun _ _ => rfl) (fun _ _ => rfl) hsp Tryd.func5 rfl (n := 2) (fun _ => rfl) (by kernel_rfl) (vcast (by kernel_rfl) h)

set_option maxRecDepth 1000000 in
theorem lawOne_vc (hsp : SpecsOk Tryd.prog spLawOne) (h : ∀ (g : ByteArray) (w : World),
U8 w ∧ g.size ≤ (1048576 : Nat) →
∃ (g1 : Unit),
(#[] : Array Value) = #[] ∧
U8 w ∧
∀ (x : Unit) (w' : World),
Ext w w' →
∃ (g2 : ByteArray),
#[Value.string g] = #[Value.string g2] ∧
True ∧
∀ (x1 : Nat) (w'1 : World),
w'.heap.size ≤ x1 ∧ w'1.heap[x1]? = some (Obj.cells #[Value.string g2] (9 : TypeId)) ∧ Ext w' w'1 →
∃ (g3 : GIt),
#[Value.func (Fn.func (47 : Nat)) #[] #[Value.pointer (some { block := x1, off := (0 : Nat) })]] =
#[Value.func (Fn.func g3.f) #[] g3.caps] ∧
g3.ok w'1 ∧
∀ (x2 : Option Addr × Nat × Nat) (w'2 : World),
x2.snd.fst = g3.xs.length ∧
Made w'1 w'2 (38 : TypeId) (2 : Nat) x2.fst x2.snd.fst (List.flatMap encPc g3.xs) x2.snd.snd →
(∃ (x3 : Nat), Value.int IntKind.i64 (0 : Int) = Value.int IntKind.i64 (↑x3 : Int) ∧ x3 ≤ ncl g ∧ Ext w'2 w'2) ∧
∀ (u : Nat → Value) (x3 : Nat) (w'3 : World),
x3 ≤ ncl g ∧ Ext w'2 w'3 →
bcase (decide ((↑x3 : Int) < (↑x2.snd.fst : Int)))
(∃ (k : Nat),
(↑x3 : Int) = (↑k : Int) ∧
k < x2.snd.fst ∧
ptrE x2.fst fun (b o : Nat) =>
∃ (s : ByteArray),
w'3.cell? { block := b, off := o + k * (2 : Nat) + (1 : Nat) } = some (Value.string s) ∧
(∃ (g4 : ByteArray),
#[Value.string s] = #[Value.string g4] ∧
(U8 w'3 ∧ g4.size ≤ (67108864 : Nat)) ∧
∀ (x4 : Nat) (w'4 : World),
x4 = nextL g4 ∧ Ext w'3 w'4 →
bcase ((↑x4 : Int) != (↑s.size : Int)) (∃ (x5 : Unit), Value.bool false = Value.bool true ∧ Ext w w'4)
(∃ (g5 : ByteArray),
#[Value.string s] = #[Value.string g5] ∧
(U8 w'4 ∧ g5.size ≤ (67108864 : Nat)) ∧
∀ (x5 : Nat) (w'5 : World),
x5 = lastL g5 ∧ Ext w'4 w'5 →
bcase ((↑x5 : Int) != (↑s.size : Int)) (∃ (x6 : Unit), Value.bool false = Value.bool true ∧ Ext w w'5)
(∃ (g6 : ByteArray),
#[Value.string s] = #[Value.string g6] ∧
(U8 w'5 ∧ g6.size ≤ (67108864 : Nat)) ∧
∀ (x6 : Nat) (w'6 : World),
x6 = cnt g6 ∧ Ext w'5 w'6 →
bcase (decide ((↑x6 : Int) < (1 : Int))) (∃ (x7 : Unit), Value.bool false = Value.bool true ∧ Ext w w'6)
(∃ (g7 : ByteArray),
#[Value.string s] = #[Value.string g7] ∧
(U8 w'6 ∧ g7.size ≤ (67108864 : Nat)) ∧
∀ (x7 : Nat) (w'7 : World),
x7 = cnt g7 ∧ Ext w'6 w'7 →
bcase (decide ((↑x7 : Int) > (32 : Int))) (∃ (x8 : Unit), Value.bool false = Value.bool true ∧ Ext w w'7)
(∃ (g8 : ByteArray),
#[Value.string s] = #[Value.string g8] ∧
(U8 w'7 ∧ g8.size ≤ (67108864 : Nat)) ∧
∀ (x8 : Option Addr × Nat × Nat) (w'8 : World),
x8.snd.fst = (badL g8).length ∧
Made w'7 w'8 (3 : TypeId) (1 : Nat) x8.fst x8.snd.fst (List.map (Value.int IntKind.i64) (badL g8)) x8.snd.snd →
bcase (decide ((↑x8.snd.fst : Int) > (0 : Int)))
(bcase ((↑s.size : Int) != (1 : Int)) (∃ (x9 : Unit), Value.bool false = Value.bool true ∧ Ext w w'8)
(∃ (c : Unit), Ext w'3 w'8))
(∃ (c : Unit), Ext w'3 w'8)))))) ∧
∀ (u1 : Nat → Value) (c : Unit) (w'4 : World),
Ext w'3 w'4 →
(∃ (x4 : Nat),
Value.int IntKind.i64 (1 : Int) = Value.int IntKind.i64 (↑x4 : Int) ∧
(1 : Nat) ≤ x4 ∧ x4 ≤ g.size + (1 : Nat) ∧ Ext w'4 w'4) ∧
∀ (u2 : Nat → Value) (x4 : Nat) (w'5 : World),
(1 : Nat) ≤ x4 ∧ x4 ≤ g.size + (1 : Nat) ∧ Ext w'4 w'5 →
bcase (decide ((↑x4 : Int) < (↑s.size : Int)) && decide ((↑g.size : Int) < (200 : Int)))
(∃ (k1 : Nat),
(↑x3 : Int) = (↑k1 : Int) ∧
k1 < x2.snd.fst ∧
ptrE x2.fst fun (b1 o1 : Nat) =>
∃ (n : Int),
w'5.cell? { block := b1, off := o1 + k1 * (2 : Nat) } = some (Value.int IntKind.i64 n) ∧
InR IntKind.i64 (n + (↑x4 : Int)) ∧
∃ (g4 : ByteArray × Int),
#[Value.string g, Value.int IntKind.i64 (n + (↑x4 : Int))] = #[Value.string g4.fst, Value.int IntKind.i64 g4.snd] ∧
(U8 w'5 ∧ g4.fst.size ≤ (67108864 : Nat)) ∧
∀ (x5 : Nat × Nat) (w'6 : World),
x5 = (bp g4.fst (ixP g4.fst (clampN g4.fst g4.snd)), bp g4.fst (ixP g4.fst (clampN g4.fst g4.snd) + (1 : Nat))) ∧
Ext w'5 w'6 →
∃ (k2 : Nat),
(↑x3 : Int) = (↑k2 : Int) ∧
k2 < x2.snd.fst ∧
ptrE x2.fst fun (b2 o2 : Nat) =>
∃ (n1 : Int),
w'6.cell? { block := b2, off := o2 + k2 * (2 : Nat) } = some (Value.int IntKind.i64 n1) ∧
InR IntKind.i64 (n1 + (↑x4 : Int)) ∧
∃ (g5 : ByteArray × Int),
#[Value.string g, Value.int IntKind.i64 (n1 + (↑x4 : Int))] = #[Value.string g5.fst, Value.int IntKind.i64 g5.snd] ∧
(U8 w'6 ∧ g5.fst.size ≤ (67108864 : Nat)) ∧
∀ (x6 : Bool) (w'7 : World),
x6 = isB g5.fst g5.snd ∧ Ext w'6 w'7 →
bcase x6 (∃ (x7 : Unit), Value.bool false = Value.bool true ∧ Ext w w'7)
(∃ (k3 : Nat),
(↑x3 : Int) = (↑k3 : Int) ∧
k3 < x2.snd.fst ∧
ptrE x2.fst fun (b3 o3 : Nat) =>
∃ (n2 : Int),
w'7.cell? { block := b3, off := o3 + k3 * (2 : Nat) } = some (Value.int IntKind.i64 n2) ∧
bcase ((↑x5.fst : Int) != n2) (∃ (x7 : Unit), Value.bool false = Value.bool true ∧ Ext w w'7)
(∃ (k4 : Nat),
(↑x3 : Int) = (↑k4 : Int) ∧
k4 < x2.snd.fst ∧
ptrE x2.fst fun (b4 o4 : Nat) =>
∃ (n3 : Int),
w'7.cell? { block := b4, off := o4 + k4 * (2 : Nat) } = some (Value.int IntKind.i64 n3) ∧
InR IntKind.i64 (n3 + (↑s.size : Int)) ∧
bcase ((↑x5.snd : Int) != n3 + (↑s.size : Int)) (∃ (x7 : Unit), Value.bool false = Value.bool true ∧ Ext w w'7)
(InR IntKind.i64 ((↑x4 : Int) + (1 : Int)) ∧
∃ (y : Nat),
Value.int IntKind.i64 ((↑x4 : Int) + (1 : Int)) = Value.int IntKind.i64 (↑y : Int) ∧
((1 : Nat) ≤ y ∧ y ≤ g.size + (1 : Nat) ∧ Ext w'4 w'7) ∧ g.size + (1 : Nat) - y < g.size + (1 : Nat) - x4))))
(InR IntKind.i64 ((↑x3 : Int) + (1 : Int)) ∧
∃ (y : Nat),
Value.int IntKind.i64 ((↑x3 : Int) + (1 : Int)) = Value.int IntKind.i64 (↑y : Int) ∧
(y ≤ ncl g ∧ Ext w'2 w'5) ∧ ncl g - y < ncl g - x3))
(∃ (g4 : Unit),
(#[] : Array Value) = #[] ∧
U8 w'3 ∧ ∀ (x4 : Unit) (w'4 : World), Ext w'3 w'4 → ∃ (x5 : Unit), Value.bool true = Value.bool true ∧ Ext w w'4)) :
    (sLawS).Ok Tryd.prog 8 :=
  ok_of_vc sLawS annLawOne spLawOne (fun _ _ => rfl) (fun _ _ => rfl) hsp Tryd.func8 rfl (n := 1) (fun _ => rfl) (by kernel_rfl) (vcast (by kernel_rfl) h)

set_option maxRecDepth 1000000 in
theorem lawPart_vc (hsp : SpecsOk Tryd.prog spLawPart) (h : ∀ (g : GSb) (w : World),
U8 w ∧ g.a.size ≤ (1048576 : Nat) ∧ g.b.size ≤ (1048576 : Nat) ∧ g.k ≤ (255 : Nat) →
∃ (g1 : Unit),
(#[] : Array Value) = #[] ∧
U8 w ∧
∀ (x : Unit) (w' : World),
Ext w w' →
(0 : Int) ≤ (↑g.k : Int) ∧
(0 : Int) < (11 : Int) ∧
InR IntKind.u8 ((245 : Int) + (↑g.k : Int) % (11 : Int)) ∧
∀ (b : Nat) (w1 : World),
New w' (Obj.cells #[Value.int IntKind.u8 ((245 : Int) + (↑g.k : Int) % (11 : Int))] (5 : Nat)) b w1 →
∃ (str : ByteArray),
BytesIn w1 (some { block := b, off := (0 : Nat) }) (1 : Nat) str ∧
g.a.size + str.size ≤ (9223372036854775807 : Nat) ∧
(g.a ++ str).size + g.b.size ≤ (9223372036854775807 : Nat) ∧
∃ (g2 : ByteArray),
#[Value.string (g.a ++ str ++ g.b)] = #[Value.string g2] ∧
True ∧
∀ (x1 : Nat) (w'1 : World),
w1.heap.size ≤ x1 ∧ w'1.heap[x1]? = some (Obj.cells #[Value.string g2] (9 : TypeId)) ∧ Ext w1 w'1 →
∃ (g3 : GIt),
#[Value.func (Fn.func (47 : Nat)) #[] #[Value.pointer (some { block := x1, off := (0 : Nat) })]] =
#[Value.func (Fn.func g3.f) #[] g3.caps] ∧
g3.ok w'1 ∧
∀ (x2 : Option Addr × Nat × Nat) (w'2 : World),
x2.snd.fst = g3.xs.length ∧
Made w'1 w'2 (38 : TypeId) (2 : Nat) x2.fst x2.snd.fst (List.flatMap encPc g3.xs) x2.snd.snd →
∃ (g4 : ByteArray),
#[Value.string g.a] = #[Value.string g4] ∧
True ∧
∀ (x3 : Nat) (w'3 : World),
w'2.heap.size ≤ x3 ∧ w'3.heap[x3]? = some (Obj.cells #[Value.string g4] (9 : TypeId)) ∧ Ext w'2 w'3 →
∃ (g5 : GIt),
#[Value.func (Fn.func (47 : Nat)) #[] #[Value.pointer (some { block := x3, off := (0 : Nat) })]] =
#[Value.func (Fn.func g5.f) #[] g5.caps] ∧
g5.ok w'3 ∧
∀ (x4 : Option Addr × Nat × Nat) (w'4 : World),
x4.snd.fst = g5.xs.length ∧
Made w'3 w'4 (38 : TypeId) (2 : Nat) x4.fst x4.snd.fst (List.flatMap encPc g5.xs) x4.snd.snd →
∃ (g6 : ByteArray),
#[Value.string g.b] = #[Value.string g6] ∧
True ∧
∀ (x5 : Nat) (w'5 : World),
w'4.heap.size ≤ x5 ∧ w'5.heap[x5]? = some (Obj.cells #[Value.string g6] (9 : TypeId)) ∧ Ext w'4 w'5 →
∃ (g7 : GIt),
#[Value.func (Fn.func (47 : Nat)) #[] #[Value.pointer (some { block := x5, off := (0 : Nat) })]] =
#[Value.func (Fn.func g7.f) #[] g7.caps] ∧
g7.ok w'5 ∧
∀ (x6 : Option Addr × Nat × Nat) (w'6 : World),
x6.snd.fst = g7.xs.length ∧
Made w'5 w'6 (38 : TypeId) (2 : Nat) x6.fst x6.snd.fst (List.flatMap encPc g7.xs) x6.snd.snd →
InR IntKind.i64 ((↑x4.snd.fst : Int) + (1 : Int)) ∧
InR IntKind.i64 ((↑x4.snd.fst : Int) + (1 : Int) + (↑x6.snd.fst : Int)) ∧
bcase ((↑x2.snd.fst : Int) != (↑x4.snd.fst : Int) + (1 : Int) + (↑x6.snd.fst : Int))
(∃ (x7 : Unit), Value.bool false = Value.bool true ∧ Ext w w'6)
(∃ (k : Nat),
(↑x4.snd.fst : Int) = (↑k : Int) ∧
k < x2.snd.fst ∧
ptrE x2.fst fun (b1 o : Nat) =>
∃ (s : ByteArray),
w'6.cell? { block := b1, off := o + k * (2 : Nat) + (1 : Nat) } = some (Value.string s) ∧
bcase (!s.toList == str.toList) (∃ (x7 : Unit), Value.bool false = Value.bool true ∧ Ext w w'6)
(∃ (k1 : Nat),
(↑x4.snd.fst : Int) = (↑k1 : Int) ∧
k1 < x2.snd.fst ∧
ptrE x2.fst fun (b2 o1 : Nat) =>
∃ (n : Int),
w'6.cell? { block := b2, off := o1 + k1 * (2 : Nat) } = some (Value.int IntKind.i64 n) ∧
bcase (n != (↑g.a.size : Int)) (∃ (x7 : Unit), Value.bool false = Value.bool true ∧ Ext w w'6)
(∃ (hn : Nat),
(↑x4.snd.fst : Int) = (↑hn : Int) ∧
hn ≤ x2.snd.snd ∧
∃ (g8 : GPp),
#[Value.slice x2.fst hn x2.snd.snd, Value.slice x4.fst x4.snd.fst x4.snd.snd, Value.int IntKind.i64 (0 : Int)] =
#[Value.slice g8.a g8.l.length g8.ac, Value.slice g8.b g8.m.length g8.bc, Value.int IntKind.i64 (↑g8.k : Int)] ∧
(CellsAt w'6 g8.a (List.flatMap encPc g8.l) ∧
CellsAt w'6 g8.b (List.flatMap encPc g8.m) ∧
g8.l.length ≤ (67108864 : Nat) ∧
g8.k ≤ (67108864 : Nat) ∧ ∀ (p : Nat × ByteArray), p ∈ g8.m → p.fst ≤ (67108864 : Nat)) ∧
∀ (x7 : Bool) (w'7 : World),
x7 = decide (g8.l = List.map (upP g8.k) g8.m) ∧ Ext w'6 w'7 →
bcase x7
(InR IntKind.i64 ((↑x4.snd.fst : Int) + (1 : Int)) ∧
∃ (ln : Nat),
(↑x4.snd.fst : Int) + (1 : Int) = (↑ln : Int) ∧
ln ≤ x2.snd.fst ∧
∀ (ad' : Option Addr),
SlAt x2.fst ad' x2.snd.snd ln (2 : Nat) →
InR IntKind.i64 ((↑g.a.size : Int) + (1 : Int)) ∧
∃ (g9 : GPp),
#[Value.slice ad' (x2.snd.fst - ln) (x2.snd.snd - ln), Value.slice x6.fst x6.snd.fst x6.snd.snd,
Value.int IntKind.i64 ((↑g.a.size : Int) + (1 : Int))] =
#[Value.slice g9.a g9.l.length g9.ac, Value.slice g9.b g9.m.length g9.bc, Value.int IntKind.i64 (↑g9.k : Int)] ∧
(CellsAt w'7 g9.a (List.flatMap encPc g9.l) ∧
CellsAt w'7 g9.b (List.flatMap encPc g9.m) ∧
g9.l.length ≤ (67108864 : Nat) ∧
g9.k ≤ (67108864 : Nat) ∧ ∀ (p : Nat × ByteArray), p ∈ g9.m → p.fst ≤ (67108864 : Nat)) ∧
∀ (x8 : Bool) (w'8 : World),
x8 = decide (g9.l = List.map (upP g9.k) g9.m) ∧ Ext w'7 w'8 →
bcase x8
(∃ (g10 : Unit),
(#[] : Array Value) = #[] ∧
U8 w'8 ∧ ∀ (x9 : Unit) (w'9 : World), Ext w'8 w'9 → ∃ (x10 : Unit), Value.bool true = Value.bool true ∧ Ext w w'9)
(∃ (x9 : Unit), Value.bool false = Value.bool true ∧ Ext w w'8))
(∃ (x8 : Unit), Value.bool false = Value.bool true ∧ Ext w w'7))))) :
    (sLawSSB).Ok Tryd.prog 6 :=
  ok_of_vc sLawSSB (annOf spLawPart) spLawPart (fun _ _ => rfl) (fun _ _ => rfl) hsp Tryd.func6 rfl (n := 3) (fun _ => rfl) (by kernel_rfl) (vcast (by kernel_rfl) h)

set_option maxRecDepth 1000000 in
theorem lawKn_vc (hsp : SpecsOk Tryd.prog spLawKn) (h : ∀ (g : Unit) (w : World),
U8 w →
∃ (g1 : Unit),
(#[] : Array Value) = #[] ∧
U8 w ∧
∀ (x : Unit) (w' : World),
Ext w w' →
(∀ (b : Nat) (w1 : World),
New w'
(Obj.cells
#[Value.string (ByteArray.mk #[(97 : UInt8), (204 : UInt8), (129 : UInt8), (204 : UInt8), (129 : UInt8)]),
Value.string (ByteArray.mk #[(98 : UInt8)])]
(9 : Nat))
b w1 →
∃ (g2 : GRow),
#[Value.string (ByteArray.mk #[(97 : UInt8), (204 : UInt8), (129 : UInt8), (204 : UInt8), (129 : UInt8), (98 : UInt8)]),
Value.slice (some { block := b, off := (0 : Nat) }) (2 : Nat) (2 : Nat)] =
#[Value.string g2.s, Value.slice g2.a g2.want.length g2.c] ∧
(U8 w1 ∧
g2.s.size ≤ (67108864 : Nat) ∧ CellsAt w1 g2.a (List.map Value.string g2.want) ∧ g2.want.length ≤ (1000000 : Nat)) ∧
∀ (x1 : Bool) (w'1 : World),
x1 = rowB g2.s g2.want ∧ Ext w1 w'1 →
bcase x1
(∀ (b1 : Nat) (w11 : World),
New w'1
(Obj.cells #[Value.string (ByteArray.mk #[(204 : UInt8), (129 : UInt8)]), Value.string (ByteArray.mk #[(97 : UInt8)])]
(9 : Nat))
b1 w11 →
∃ (g3 : GRow),
#[Value.string (ByteArray.mk #[(204 : UInt8), (129 : UInt8), (97 : UInt8)]),
Value.slice (some { block := b1, off := (0 : Nat) }) (2 : Nat) (2 : Nat)] =
#[Value.string g3.s, Value.slice g3.a g3.want.length g3.c] ∧
(U8 w11 ∧
g3.s.size ≤ (67108864 : Nat) ∧ CellsAt w11 g3.a (List.map Value.string g3.want) ∧ g3.want.length ≤ (1000000 : Nat)) ∧
∀ (x2 : Bool) (w'2 : World),
x2 = rowB g3.s g3.want ∧ Ext w11 w'2 →
bcase x2
(∀ (b2 : Nat) (w12 : World),
New w'2
(Obj.cells
#[Value.string (ByteArray.mk #[(13 : UInt8), (10 : UInt8)]), Value.string (ByteArray.mk #[(10 : UInt8)]),
Value.string (ByteArray.mk #[(13 : UInt8)]), Value.string (ByteArray.mk #[(97 : UInt8), (204 : UInt8), (129 : UInt8)])]
(9 : Nat))
b2 w12 →
∃ (g4 : GRow),
#[Value.string
(ByteArray.mk #[(13 : UInt8), (10 : UInt8), (10 : UInt8), (13 : UInt8), (97 : UInt8), (204 : UInt8), (129 : UInt8)]),
Value.slice (some { block := b2, off := (0 : Nat) }) (4 : Nat) (4 : Nat)] =
#[Value.string g4.s, Value.slice g4.a g4.want.length g4.c] ∧
(U8 w12 ∧
g4.s.size ≤ (67108864 : Nat) ∧ CellsAt w12 g4.a (List.map Value.string g4.want) ∧ g4.want.length ≤ (1000000 : Nat)) ∧
∀ (x3 : Bool) (w'3 : World),
x3 = rowB g4.s g4.want ∧ Ext w12 w'3 →
bcase x3
(∀ (b3 : Nat) (w13 : World),
New w'3
(Obj.cells #[Value.string (ByteArray.mk #[(10 : UInt8)]), Value.string (ByteArray.mk #[(204 : UInt8), (129 : UInt8)])]
(9 : Nat))
b3 w13 →
∃ (g5 : GRow),
#[Value.string (ByteArray.mk #[(10 : UInt8), (204 : UInt8), (129 : UInt8)]),
Value.slice (some { block := b3, off := (0 : Nat) }) (2 : Nat) (2 : Nat)] =
#[Value.string g5.s, Value.slice g5.a g5.want.length g5.c] ∧
(U8 w13 ∧
g5.s.size ≤ (67108864 : Nat) ∧ CellsAt w13 g5.a (List.map Value.string g5.want) ∧ g5.want.length ≤ (1000000 : Nat)) ∧
∀ (x4 : Bool) (w'4 : World),
x4 = rowB g5.s g5.want ∧ Ext w13 w'4 →
bcase x4
(∃ (g6 : GRow),
#[Value.string (ByteArray.mk #[]), Value.slice none (0 : Nat) (0 : Nat)] =
#[Value.string g6.s, Value.slice g6.a g6.want.length g6.c] ∧
(U8 w'4 ∧
g6.s.size ≤ (67108864 : Nat) ∧ CellsAt w'4 g6.a (List.map Value.string g6.want) ∧ g6.want.length ≤ (1000000 : Nat)) ∧
∀ (x5 : Bool) (w'5 : World),
x5 = rowB g6.s g6.want ∧ Ext w'4 w'5 → ∃ (c : Unit), Value.bool x5 = Value.bool true ∧ Ext w' w'5)
(∃ (c : Unit), Value.bool false = Value.bool true ∧ Ext w' w'4))
(∃ (c : Unit), Value.bool false = Value.bool true ∧ Ext w' w'3))
(∃ (c : Unit), Value.bool false = Value.bool true ∧ Ext w' w'2))
(∃ (c : Unit), Value.bool false = Value.bool true ∧ Ext w' w'1)) ∧
∀ (u : Nat → Value) (c : Unit) (w'1 : World),
Ext w' w'1 →
(∀ (b : Nat) (w1 : World),
New w'1
(Obj.cells
#[Value.string
{
data :=
#[(240 : UInt8), (159 : UInt8), (135 : UInt8), (166 : UInt8), (240 : UInt8), (159 : UInt8), (135 : UInt8),
(167 : UInt8)] },
Value.string (ByteArray.mk #[(240 : UInt8), (159 : UInt8), (135 : UInt8), (168 : UInt8), (204 : UInt8), (129 : UInt8)]),
Value.string (ByteArray.mk #[(240 : UInt8), (159 : UInt8), (135 : UInt8), (169 : UInt8)])]
(9 : Nat))
b w1 →
∃ (g2 : GRow),
#[Value.string
{
data :=
#[(240 : UInt8), (159 : UInt8), (135 : UInt8), (166 : UInt8), (240 : UInt8), (159 : UInt8), (135 : UInt8),
(167 : UInt8), (240 : UInt8), (159 : UInt8), (135 : UInt8), (168 : UInt8), (204 : UInt8), (129 : UInt8), (240 : UInt8),
(159 : UInt8), (135 : UInt8), (169 : UInt8)] },
Value.slice (some { block := b, off := (0 : Nat) }) (3 : Nat) (3 : Nat)] =
#[Value.string g2.s, Value.slice g2.a g2.want.length g2.c] ∧
(U8 w1 ∧
g2.s.size ≤ (67108864 : Nat) ∧ CellsAt w1 g2.a (List.map Value.string g2.want) ∧ g2.want.length ≤ (1000000 : Nat)) ∧
∀ (x1 : Bool) (w'2 : World),
x1 = rowB g2.s g2.want ∧ Ext w1 w'2 →
bcase x1
(∀ (b1 : Nat) (w11 : World),
New w'2
(Obj.cells
#[Value.string
{
data :=
#[(240 : UInt8), (159 : UInt8), (145 : UInt8), (169 : UInt8), (226 : UInt8), (128 : UInt8), (141 : UInt8),
(240 : UInt8), (159 : UInt8), (146 : UInt8), (187 : UInt8), (226 : UInt8), (128 : UInt8), (141 : UInt8)] },
Value.string (ByteArray.mk #[(97 : UInt8)])]
(9 : Nat))
b1 w11 →
∃ (g3 : GRow),
#[Value.string
{
data :=
#[(240 : UInt8), (159 : UInt8), (145 : UInt8), (169 : UInt8), (226 : UInt8), (128 : UInt8), (141 : UInt8),
(240 : UInt8), (159 : UInt8), (146 : UInt8), (187 : UInt8), (226 : UInt8), (128 : UInt8), (141 : UInt8),
(97 : UInt8)] },
Value.slice (some { block := b1, off := (0 : Nat) }) (2 : Nat) (2 : Nat)] =
#[Value.string g3.s, Value.slice g3.a g3.want.length g3.c] ∧
(U8 w11 ∧
g3.s.size ≤ (67108864 : Nat) ∧ CellsAt w11 g3.a (List.map Value.string g3.want) ∧ g3.want.length ≤ (1000000 : Nat)) ∧
∀ (x2 : Bool) (w'3 : World),
x2 = rowB g3.s g3.want ∧ Ext w11 w'3 →
bcase x2
(∀ (b2 : Nat) (w12 : World),
New w'3
(Obj.cells
#[Value.string (ByteArray.mk #[(97 : UInt8), (226 : UInt8), (128 : UInt8), (141 : UInt8)]),
Value.string (ByteArray.mk #[(240 : UInt8), (159 : UInt8), (146 : UInt8), (187 : UInt8)])]
(9 : Nat))
b2 w12 →
∃ (g4 : GRow),
#[Value.string
{
data :=
#[(97 : UInt8), (226 : UInt8), (128 : UInt8), (141 : UInt8), (240 : UInt8), (159 : UInt8), (146 : UInt8),
(187 : UInt8)] },
Value.slice (some { block := b2, off := (0 : Nat) }) (2 : Nat) (2 : Nat)] =
#[Value.string g4.s, Value.slice g4.a g4.want.length g4.c] ∧
(U8 w12 ∧
g4.s.size ≤ (67108864 : Nat) ∧ CellsAt w12 g4.a (List.map Value.string g4.want) ∧ g4.want.length ≤ (1000000 : Nat)) ∧
∀ (x3 : Bool) (w'4 : World),
x3 = rowB g4.s g4.want ∧ Ext w12 w'4 → ∃ (c1 : Unit), Value.bool x3 = Value.bool true ∧ Ext w'1 w'4)
(∃ (c1 : Unit), Value.bool false = Value.bool true ∧ Ext w'1 w'3))
(∃ (c1 : Unit), Value.bool false = Value.bool true ∧ Ext w'1 w'2)) ∧
∀ (u1 : Nat → Value) (c1 : Unit) (w'2 : World),
Ext w'1 w'2 →
(∀ (b : Nat) (w1 : World),
New w'2
(Obj.cells
#[Value.string
{
data :=
#[(225 : UInt8), (132 : UInt8), (128 : UInt8), (225 : UInt8), (133 : UInt8), (161 : UInt8), (225 : UInt8),
(134 : UInt8), (168 : UInt8)] },
Value.string (ByteArray.mk #[(234 : UInt8), (176 : UInt8), (128 : UInt8), (225 : UInt8), (134 : UInt8), (168 : UInt8)])]
(9 : Nat))
b w1 →
∃ (g2 : GRow),
#[Value.string
{
data :=
#[(225 : UInt8), (132 : UInt8), (128 : UInt8), (225 : UInt8), (133 : UInt8), (161 : UInt8), (225 : UInt8),
(134 : UInt8), (168 : UInt8), (234 : UInt8), (176 : UInt8), (128 : UInt8), (225 : UInt8), (134 : UInt8),
(168 : UInt8)] },
Value.slice (some { block := b, off := (0 : Nat) }) (2 : Nat) (2 : Nat)] =
#[Value.string g2.s, Value.slice g2.a g2.want.length g2.c] ∧
(U8 w1 ∧
g2.s.size ≤ (67108864 : Nat) ∧ CellsAt w1 g2.a (List.map Value.string g2.want) ∧ g2.want.length ≤ (1000000 : Nat)) ∧
∀ (x1 : Bool) (w'3 : World),
x1 = rowB g2.s g2.want ∧ Ext w1 w'3 →
bcase x1
(∀ (b1 : Nat) (w11 : World),
New w'3
(Obj.cells
#[Value.string (ByteArray.mk #[(234 : UInt8), (176 : UInt8), (129 : UInt8)]),
Value.string (ByteArray.mk #[(225 : UInt8), (133 : UInt8), (161 : UInt8)])]
(9 : Nat))
b1 w11 →
∃ (g3 : GRow),
#[Value.string (ByteArray.mk #[(234 : UInt8), (176 : UInt8), (129 : UInt8), (225 : UInt8), (133 : UInt8), (161 : UInt8)]),
Value.slice (some { block := b1, off := (0 : Nat) }) (2 : Nat) (2 : Nat)] =
#[Value.string g3.s, Value.slice g3.a g3.want.length g3.c] ∧
(U8 w11 ∧
g3.s.size ≤ (67108864 : Nat) ∧ CellsAt w11 g3.a (List.map Value.string g3.want) ∧ g3.want.length ≤ (1000000 : Nat)) ∧
∀ (x2 : Bool) (w'4 : World),
x2 = rowB g3.s g3.want ∧ Ext w11 w'4 →
bcase x2
(∀ (b2 : Nat) (w12 : World),
New w'4
(Obj.cells
#[Value.string (ByteArray.mk #[(225 : UInt8), (133 : UInt8), (161 : UInt8), (204 : UInt8), (129 : UInt8)]),
Value.string (ByteArray.mk #[(225 : UInt8), (134 : UInt8), (168 : UInt8)])]
(9 : Nat))
b2 w12 →
∃ (g4 : GRow),
#[Value.string
{
data :=
#[(225 : UInt8), (133 : UInt8), (161 : UInt8), (204 : UInt8), (129 : UInt8), (225 : UInt8), (134 : UInt8),
(168 : UInt8)] },
Value.slice (some { block := b2, off := (0 : Nat) }) (2 : Nat) (2 : Nat)] =
#[Value.string g4.s, Value.slice g4.a g4.want.length g4.c] ∧
(U8 w12 ∧
g4.s.size ≤ (67108864 : Nat) ∧ CellsAt w12 g4.a (List.map Value.string g4.want) ∧ g4.want.length ≤ (1000000 : Nat)) ∧
∀ (x3 : Bool) (w'5 : World),
x3 = rowB g4.s g4.want ∧ Ext w12 w'5 →
bcase x3
(∀ (b3 : Nat) (w13 : World),
New w'5
(Obj.cells
#[Value.string (ByteArray.mk #[(97 : UInt8)]), Value.string (ByteArray.mk #[(128 : UInt8)]),
Value.string (ByteArray.mk #[(204 : UInt8), (129 : UInt8)])]
(9 : Nat))
b3 w13 →
∃ (g5 : GRow),
#[Value.string (ByteArray.mk #[(97 : UInt8), (128 : UInt8), (204 : UInt8), (129 : UInt8)]),
Value.slice (some { block := b3, off := (0 : Nat) }) (3 : Nat) (3 : Nat)] =
#[Value.string g5.s, Value.slice g5.a g5.want.length g5.c] ∧
(U8 w13 ∧
g5.s.size ≤ (67108864 : Nat) ∧ CellsAt w13 g5.a (List.map Value.string g5.want) ∧ g5.want.length ≤ (1000000 : Nat)) ∧
∀ (x4 : Bool) (w'6 : World),
x4 = rowB g5.s g5.want ∧ Ext w13 w'6 →
bcase x4
(∀ (b4 : Nat) (w14 : World),
New w'6
(Obj.cells
#[Value.string (ByteArray.mk #[(226 : UInt8), (128 : UInt8), (174 : UInt8)]),
Value.string (ByteArray.mk #[(204 : UInt8), (129 : UInt8)])]
(9 : Nat))
b4 w14 →
∃ (g6 : GRow),
#[Value.string (ByteArray.mk #[(226 : UInt8), (128 : UInt8), (174 : UInt8), (204 : UInt8), (129 : UInt8)]),
Value.slice (some { block := b4, off := (0 : Nat) }) (2 : Nat) (2 : Nat)] =
#[Value.string g6.s, Value.slice g6.a g6.want.length g6.c] ∧
(U8 w14 ∧
g6.s.size ≤ (67108864 : Nat) ∧ CellsAt w14 g6.a (List.map Value.string g6.want) ∧ g6.want.length ≤ (1000000 : Nat)) ∧
∀ (x5 : Bool) (w'7 : World),
x5 = rowB g6.s g6.want ∧ Ext w14 w'7 →
bcase x5
(∀ (b5 : Nat) (w15 : World),
New w'7
(Obj.cells
#[Value.string (ByteArray.mk #[(226 : UInt8), (128 : UInt8), (168 : UInt8)]),
Value.string (ByteArray.mk #[(204 : UInt8), (129 : UInt8)])]
(9 : Nat))
b5 w15 →
∃ (g7 : GRow),
#[Value.string (ByteArray.mk #[(226 : UInt8), (128 : UInt8), (168 : UInt8), (204 : UInt8), (129 : UInt8)]),
Value.slice (some { block := b5, off := (0 : Nat) }) (2 : Nat) (2 : Nat)] =
#[Value.string g7.s, Value.slice g7.a g7.want.length g7.c] ∧
(U8 w15 ∧
g7.s.size ≤ (67108864 : Nat) ∧ CellsAt w15 g7.a (List.map Value.string g7.want) ∧ g7.want.length ≤ (1000000 : Nat)) ∧
∀ (x6 : Bool) (w'8 : World),
x6 = rowB g7.s g7.want ∧ Ext w15 w'8 →
bcase x6
(∀ (b6 : Nat) (w16 : World),
New w'8 (Obj.cells #[Value.string (ByteArray.mk #[(228 : UInt8)]), Value.string (ByteArray.mk #[(184 : UInt8)])] (9 : Nat)) b6
w16 →
∃ (g8 : GRow),
#[Value.string (ByteArray.mk #[(228 : UInt8), (184 : UInt8)]),
Value.slice (some { block := b6, off := (0 : Nat) }) (2 : Nat) (2 : Nat)] =
#[Value.string g8.s, Value.slice g8.a g8.want.length g8.c] ∧
(U8 w16 ∧
g8.s.size ≤ (67108864 : Nat) ∧ CellsAt w16 g8.a (List.map Value.string g8.want) ∧ g8.want.length ≤ (1000000 : Nat)) ∧
∀ (x7 : Bool) (w'9 : World),
x7 = rowB g8.s g8.want ∧ Ext w16 w'9 → ∃ (c2 : Unit), Value.bool x7 = Value.bool true ∧ Ext w'2 w'9)
(∃ (c2 : Unit), Value.bool false = Value.bool true ∧ Ext w'2 w'8))
(∃ (c2 : Unit), Value.bool false = Value.bool true ∧ Ext w'2 w'7))
(∃ (c2 : Unit), Value.bool false = Value.bool true ∧ Ext w'2 w'6))
(∃ (c2 : Unit), Value.bool false = Value.bool true ∧ Ext w'2 w'5))
(∃ (c2 : Unit), Value.bool false = Value.bool true ∧ Ext w'2 w'4))
(∃ (c2 : Unit), Value.bool false = Value.bool true ∧ Ext w'2 w'3)) ∧
∀ (u2 : Nat → Value) (c2 : Unit) (w'3 : World),
Ext w'2 w'3 →
(∀ (b : Nat) (w1 : World),
New w'3
(Obj.cells
#[Value.string (ByteArray.mk #[(226 : UInt8), (128 : UInt8), (169 : UInt8)]),
Value.string (ByteArray.mk #[(204 : UInt8), (129 : UInt8)])]
(9 : Nat))
b w1 →
∃ (g2 : GRow),
#[Value.string (ByteArray.mk #[(226 : UInt8), (128 : UInt8), (169 : UInt8), (204 : UInt8), (129 : UInt8)]),
Value.slice (some { block := b, off := (0 : Nat) }) (2 : Nat) (2 : Nat)] =
#[Value.string g2.s, Value.slice g2.a g2.want.length g2.c] ∧
(U8 w1 ∧
g2.s.size ≤ (67108864 : Nat) ∧ CellsAt w1 g2.a (List.map Value.string g2.want) ∧ g2.want.length ≤ (1000000 : Nat)) ∧
∀ (x1 : Bool) (w'4 : World),
x1 = rowB g2.s g2.want ∧ Ext w1 w'4 →
bcase x1
(∀ (b1 : Nat) (w11 : World),
New w'4
(Obj.cells
#[Value.string
{
data :=
#[(225 : UInt8), (132 : UInt8), (128 : UInt8), (225 : UInt8), (132 : UInt8), (128 : UInt8), (225 : UInt8),
(133 : UInt8), (161 : UInt8), (225 : UInt8), (133 : UInt8), (161 : UInt8), (225 : UInt8), (134 : UInt8), (168 : UInt8),
(225 : UInt8), (134 : UInt8), (168 : UInt8)] },
Value.string (ByteArray.mk #[(97 : UInt8)])]
(9 : Nat))
b1 w11 →
∃ (g3 : GRow),
#[Value.string
{
data :=
#[(225 : UInt8), (132 : UInt8), (128 : UInt8), (225 : UInt8), (132 : UInt8), (128 : UInt8), (225 : UInt8),
(133 : UInt8), (161 : UInt8), (225 : UInt8), (133 : UInt8), (161 : UInt8), (225 : UInt8), (134 : UInt8), (168 : UInt8),
(225 : UInt8), (134 : UInt8), (168 : UInt8), (97 : UInt8)] },
Value.slice (some { block := b1, off := (0 : Nat) }) (2 : Nat) (2 : Nat)] =
#[Value.string g3.s, Value.slice g3.a g3.want.length g3.c] ∧
(U8 w11 ∧
g3.s.size ≤ (67108864 : Nat) ∧ CellsAt w11 g3.a (List.map Value.string g3.want) ∧ g3.want.length ≤ (1000000 : Nat)) ∧
∀ (x2 : Bool) (w'5 : World),
x2 = rowB g3.s g3.want ∧ Ext w11 w'5 →
bcase x2
(∀ (b2 : Nat) (w12 : World),
New w'5
(Obj.cells
#[Value.string
{
data :=
#[(234 : UInt8), (176 : UInt8), (156 : UInt8), (225 : UInt8), (133 : UInt8), (161 : UInt8), (225 : UInt8),
(134 : UInt8), (168 : UInt8)] }]
(9 : Nat))
b2 w12 →
∃ (g4 : GRow),
#[Value.string
{
data :=
#[(234 : UInt8), (176 : UInt8), (156 : UInt8), (225 : UInt8), (133 : UInt8), (161 : UInt8), (225 : UInt8),
(134 : UInt8), (168 : UInt8)] },
Value.slice (some { block := b2, off := (0 : Nat) }) (1 : Nat) (1 : Nat)] =
#[Value.string g4.s, Value.slice g4.a g4.want.length g4.c] ∧
(U8 w12 ∧
g4.s.size ≤ (67108864 : Nat) ∧ CellsAt w12 g4.a (List.map Value.string g4.want) ∧ g4.want.length ≤ (1000000 : Nat)) ∧
∀ (x3 : Bool) (w'6 : World),
x3 = rowB g4.s g4.want ∧ Ext w12 w'6 →
bcase x3
(∀ (b3 : Nat) (w13 : World),
New w'6
(Obj.cells
#[Value.string (ByteArray.mk #[(225 : UInt8), (132 : UInt8), (128 : UInt8), (234 : UInt8), (176 : UInt8), (129 : UInt8)]),
Value.string (ByteArray.mk #[(225 : UInt8), (132 : UInt8), (128 : UInt8)])]
(9 : Nat))
b3 w13 →
∃ (g5 : GRow),
#[Value.string
{
data :=
#[(225 : UInt8), (132 : UInt8), (128 : UInt8), (234 : UInt8), (176 : UInt8), (129 : UInt8), (225 : UInt8),
(132 : UInt8), (128 : UInt8)] },
Value.slice (some { block := b3, off := (0 : Nat) }) (2 : Nat) (2 : Nat)] =
#[Value.string g5.s, Value.slice g5.a g5.want.length g5.c] ∧
(U8 w13 ∧
g5.s.size ≤ (67108864 : Nat) ∧ CellsAt w13 g5.a (List.map Value.string g5.want) ∧ g5.want.length ≤ (1000000 : Nat)) ∧
∀ (x4 : Bool) (w'7 : World),
x4 = rowB g5.s g5.want ∧ Ext w13 w'7 →
bcase x4
(∀ (b4 : Nat) (w14 : World),
New w'7
(Obj.cells
#[Value.string (ByteArray.mk #[(225 : UInt8), (134 : UInt8), (168 : UInt8)]),
Value.string (ByteArray.mk #[(225 : UInt8), (133 : UInt8), (161 : UInt8)])]
(9 : Nat))
b4 w14 →
∃ (g6 : GRow),
#[Value.string (ByteArray.mk #[(225 : UInt8), (134 : UInt8), (168 : UInt8), (225 : UInt8), (133 : UInt8), (161 : UInt8)]),
Value.slice (some { block := b4, off := (0 : Nat) }) (2 : Nat) (2 : Nat)] =
#[Value.string g6.s, Value.slice g6.a g6.want.length g6.c] ∧
(U8 w14 ∧
g6.s.size ≤ (67108864 : Nat) ∧ CellsAt w14 g6.a (List.map Value.string g6.want) ∧ g6.want.length ≤ (1000000 : Nat)) ∧
∀ (x5 : Bool) (w'8 : World),
x5 = rowB g6.s g6.want ∧ Ext w14 w'8 → ∃ (c3 : Unit), Value.bool x5 = Value.bool true ∧ Ext w'3 w'8)
(∃ (c3 : Unit), Value.bool false = Value.bool true ∧ Ext w'3 w'7))
(∃ (c3 : Unit), Value.bool false = Value.bool true ∧ Ext w'3 w'6))
(∃ (c3 : Unit), Value.bool false = Value.bool true ∧ Ext w'3 w'5))
(∃ (c3 : Unit), Value.bool false = Value.bool true ∧ Ext w'3 w'4)) ∧
∀ (u3 : Nat → Value) (c3 : Unit) (w'4 : World),
Ext w'3 w'4 →
∃ (g2 : ByteArray × Int),
#[Value.string (ByteArray.mk #[(97 : UInt8), (204 : UInt8), (129 : UInt8)]), Value.int IntKind.i64 (2 : Int)] =
#[Value.string g2.fst, Value.int IntKind.i64 g2.snd] ∧
(U8 w'4 ∧ g2.fst.size ≤ (67108864 : Nat)) ∧
∀ (x1 : Nat × Nat) (w'5 : World),
x1 = (bp g2.fst (ixP g2.fst (clampN g2.fst g2.snd)), bp g2.fst (ixP g2.fst (clampN g2.fst g2.snd) + (1 : Nat))) ∧
Ext w'4 w'5 →
∃ (g3 : ByteArray × Int),
#[Value.string (ByteArray.mk #[(97 : UInt8), (204 : UInt8), (129 : UInt8)]), Value.int IntKind.i64 (99 : Int)] =
#[Value.string g3.fst, Value.int IntKind.i64 g3.snd] ∧
(U8 w'5 ∧ g3.fst.size ≤ (67108864 : Nat)) ∧
∀ (x2 : Nat × Nat) (w'6 : World),
x2 = (bp g3.fst (ixP g3.fst (clampN g3.fst g3.snd)), bp g3.fst (ixP g3.fst (clampN g3.fst g3.snd) + (1 : Nat))) ∧
Ext w'5 w'6 →
∃ (g4 : ByteArray × Int),
#[Value.string (ByteArray.mk #[(97 : UInt8), (204 : UInt8), (129 : UInt8)]), Value.int IntKind.i64 (-5 : Int)] =
#[Value.string g4.fst, Value.int IntKind.i64 g4.snd] ∧
(U8 w'6 ∧ g4.fst.size ≤ (67108864 : Nat)) ∧
∀ (x3 : Nat × Nat) (w'7 : World),
x3 = (bp g4.fst (ixP g4.fst (clampN g4.fst g4.snd)), bp g4.fst (ixP g4.fst (clampN g4.fst g4.snd) + (1 : Nat))) ∧
Ext w'6 w'7 →
(∃ (g5 : ByteArray × Int),
#[Value.string (ByteArray.mk #[(97 : UInt8), (204 : UInt8), (129 : UInt8)]), Value.int IntKind.i64 (0 : Int)] =
#[Value.string g5.fst, Value.int IntKind.i64 g5.snd] ∧
(U8 w'7 ∧ g5.fst.size ≤ (67108864 : Nat)) ∧
∀ (x4 : Bool) (w'8 : World),
x4 = isB g5.fst g5.snd ∧ Ext w'7 w'8 →
bcase x4
(∃ (g6 : ByteArray × Int),
#[Value.string (ByteArray.mk #[(97 : UInt8), (204 : UInt8), (129 : UInt8)]), Value.int IntKind.i64 (-1 : Int)] =
#[Value.string g6.fst, Value.int IntKind.i64 g6.snd] ∧
(U8 w'8 ∧ g6.fst.size ≤ (67108864 : Nat)) ∧
∀ (x5 : Bool) (w'9 : World),
x5 = isB g6.fst g6.snd ∧ Ext w'8 w'9 →
bcase (!x5)
(∃ (g7 : ByteArray × Int),
#[Value.string (ByteArray.mk #[(97 : UInt8), (204 : UInt8), (129 : UInt8)]), Value.int IntKind.i64 (4 : Int)] =
#[Value.string g7.fst, Value.int IntKind.i64 g7.snd] ∧
(U8 w'9 ∧ g7.fst.size ≤ (67108864 : Nat)) ∧
∀ (x6 : Bool) (w'10 : World),
x6 = isB g7.fst g7.snd ∧ Ext w'9 w'10 →
bcase (!x6)
(bcase ((↑x1.fst : Int) == (0 : Int))
(bcase ((↑x1.snd : Int) == (3 : Int))
(bcase ((↑x2.fst : Int) == (3 : Int))
(bcase ((↑x2.snd : Int) == (3 : Int))
(bcase ((↑x3.fst : Int) == (0 : Int))
(bcase ((↑x3.snd : Int) == (3 : Int))
(∃ (g8 : ByteArray × Int),
#[Value.string (ByteArray.mk #[]), Value.int IntKind.i64 (0 : Int)] =
#[Value.string g8.fst, Value.int IntKind.i64 g8.snd] ∧
(U8 w'10 ∧ g8.fst.size ≤ (67108864 : Nat)) ∧
∀ (x7 : Bool) (w'11 : World),
x7 = isB g8.fst g8.snd ∧ Ext w'10 w'11 →
bcase x7
(∃ (g9 : ByteArray),
#[Value.string (ByteArray.mk #[])] = #[Value.string g9] ∧
(U8 w'11 ∧ g9.size ≤ (67108864 : Nat)) ∧
∀ (x8 : Nat) (w'12 : World),
x8 = nextL g9 ∧ Ext w'11 w'12 →
bcase ((↑x8 : Int) == (0 : Int))
(∃ (g10 : ByteArray),
#[Value.string (ByteArray.mk #[])] = #[Value.string g10] ∧
(U8 w'12 ∧ g10.size ≤ (67108864 : Nat)) ∧
∀ (x9 : Nat) (w'13 : World),
x9 = lastL g10 ∧ Ext w'12 w'13 → ∃ (c4 : Unit), Value.bool ((↑x9 : Int) == (0 : Int)) = Value.bool true ∧ Ext w'7 w'13)
(∃ (c4 : Unit), Value.bool false = Value.bool true ∧ Ext w'7 w'12))
(∃ (c4 : Unit), Value.bool false = Value.bool true ∧ Ext w'7 w'11))
(∃ (c4 : Unit), Value.bool false = Value.bool true ∧ Ext w'7 w'10))
(∃ (c4 : Unit), Value.bool false = Value.bool true ∧ Ext w'7 w'10))
(∃ (c4 : Unit), Value.bool false = Value.bool true ∧ Ext w'7 w'10))
(∃ (c4 : Unit), Value.bool false = Value.bool true ∧ Ext w'7 w'10))
(∃ (c4 : Unit), Value.bool false = Value.bool true ∧ Ext w'7 w'10))
(∃ (c4 : Unit), Value.bool false = Value.bool true ∧ Ext w'7 w'10))
(∃ (c4 : Unit), Value.bool false = Value.bool true ∧ Ext w'7 w'10))
(∃ (c4 : Unit), Value.bool false = Value.bool true ∧ Ext w'7 w'9))
(∃ (c4 : Unit), Value.bool false = Value.bool true ∧ Ext w'7 w'8)) ∧
∀ (u4 : Nat → Value) (c4 : Unit) (w'8 : World),
Ext w'7 w'8 →
(∃ (x4 : Nat × Option Addr × Nat),
Value.int IntKind.i64 (0 : Int) = Value.int IntKind.i64 (↑x4.fst : Int) ∧
Value.slice none (0 : Nat) (0 : Nat) = Value.slice x4.snd.fst ((2 : Nat) * x4.fst) x4.snd.snd ∧
x4.fst ≤ (33 : Nat) ∧
Made w'8 w'8 (5 : TypeId) (1 : Nat) x4.snd.fst ((2 : Nat) * x4.fst) (List.map (Value.int IntKind.u8) (mks x4.fst))
x4.snd.snd) ∧
∀ (u5 : Nat → Value) (x4 : Nat × Option Addr × Nat) (w'9 : World),
x4.fst ≤ (33 : Nat) ∧
Made w'8 w'9 (5 : TypeId) (1 : Nat) x4.snd.fst ((2 : Nat) * x4.fst) (List.map (Value.int IntKind.u8) (mks x4.fst))
x4.snd.snd →
bcase (decide ((↑x4.fst : Int) < (33 : Int)))
(∃ (a' : Option Addr),
∃ (c' : Nat),
∃ (w'10 : World),
AppRun Tryd.prog #[(40 : Nat), (9 : Nat)] (40 : Nat) (Value.slice x4.snd.fst ((2 : Nat) * x4.fst) x4.snd.snd)
(Value.string (ByteArray.mk #[(204 : UInt8), (129 : UInt8)])) w'9 a'
((2 : Nat) * x4.fst + (ByteArray.mk #[(204 : UInt8), (129 : UInt8)]).size) c' w'10 ∧
KO w'9 w'10 ∧
InR IntKind.i64 ((↑x4.fst : Int) + (1 : Int)) ∧
∃ (y : Nat × Option Addr × Nat),
Value.int IntKind.i64 ((↑x4.fst : Int) + (1 : Int)) = Value.int IntKind.i64 (↑y.fst : Int) ∧
Value.slice a' ((2 : Nat) * x4.fst + (ByteArray.mk #[(204 : UInt8), (129 : UInt8)]).size) c' =
Value.slice y.snd.fst ((2 : Nat) * y.fst) y.snd.snd ∧
(y.fst ≤ (33 : Nat) ∧
Made w'8 w'10 (5 : TypeId) (1 : Nat) y.snd.fst ((2 : Nat) * y.fst) (List.map (Value.int IntKind.u8) (mks y.fst))
y.snd.snd) ∧
(33 : Nat) - y.fst < (33 : Nat) - x4.fst)
(∀ (w1 : World),
Drew w'9 w1 →
∃ (hn : Nat),
(64 : Int) = (↑hn : Int) ∧
hn ≤ x4.snd.snd ∧
(∃ (str : ByteArray),
BytesIn w1 x4.snd.fst ((2 : Nat) * x4.fst) str ∧
Below w1.heap.size w1 w1 ∧
∃ (str1 : ByteArray),
BytesIn w1 x4.snd.fst hn str1 ∧
Below w1.heap.size w1 w1 ∧
∀ (b : Nat) (w11 : World),
New w1 (Obj.cells #[Value.string str1, Value.string (ByteArray.mk #[(204 : UInt8), (129 : UInt8)])] (9 : Nat)) b w11 →
Below w1.heap.size w1 w11 ∧
∃ (g5 : GRow),
#[Value.string str, Value.slice (some { block := b, off := (0 : Nat) }) (2 : Nat) (2 : Nat)] =
#[Value.string g5.s, Value.slice g5.a g5.want.length g5.c] ∧
(U8 w11 ∧
g5.s.size ≤ (67108864 : Nat) ∧ CellsAt w11 g5.a (List.map Value.string g5.want) ∧ g5.want.length ≤ (1000000 : Nat)) ∧
∀ (x5 : Bool) (w'10 : World),
x5 = rowB g5.s g5.want ∧ Ext w11 w'10 →
bcase x5
(∃ (g6 : Unit),
(#[] : Array Value) = #[] ∧
U8 w'10 ∧ ∀ (x6 : Unit) (w'11 : World), Ext w'10 w'11 → ∃ (x7 : Unit), Value.bool true = Value.bool true ∧ Ext w w'11)
(∃ (x6 : Unit), Value.bool false = Value.bool true ∧ Ext w w'10)) ∧
∃ (str : ByteArray),
BytesIn w1 x4.snd.fst hn str ∧
Below w1.heap.size w1 w1 ∧
(∃ (str1 : ByteArray),
BytesIn w1 x4.snd.fst ((2 : Nat) * x4.fst) str1 ∧
Below w1.heap.size w1 w1 ∧
∀ (b : Nat) (w11 : World),
New w1 (Obj.cells #[Value.string str, Value.string (ByteArray.mk #[(204 : UInt8), (129 : UInt8)])] (9 : Nat)) b w11 →
Below w1.heap.size w1 w11 ∧
∃ (g5 : GRow),
#[Value.string str1, Value.slice (some { block := b, off := (0 : Nat) }) (2 : Nat) (2 : Nat)] =
#[Value.string g5.s, Value.slice g5.a g5.want.length g5.c] ∧
(U8 w11 ∧
g5.s.size ≤ (67108864 : Nat) ∧ CellsAt w11 g5.a (List.map Value.string g5.want) ∧ g5.want.length ≤ (1000000 : Nat)) ∧
∀ (x5 : Bool) (w'10 : World),
x5 = rowB g5.s g5.want ∧ Ext w11 w'10 →
bcase x5
(∃ (g6 : Unit),
(#[] : Array Value) = #[] ∧
U8 w'10 ∧ ∀ (x6 : Unit) (w'11 : World), Ext w'10 w'11 → ∃ (x7 : Unit), Value.bool true = Value.bool true ∧ Ext w w'11)
(∃ (x6 : Unit), Value.bool false = Value.bool true ∧ Ext w w'10)) ∧
∀ (b : Nat) (w11 : World),
New w1 (Obj.cells #[Value.string str, Value.string (ByteArray.mk #[(204 : UInt8), (129 : UInt8)])] (9 : Nat)) b w11 →
Below w1.heap.size w1 w11 ∧
∃ (str1 : ByteArray),
BytesIn w11 x4.snd.fst ((2 : Nat) * x4.fst) str1 ∧
Below w11.heap.size w11 w11 ∧
∃ (g5 : GRow),
#[Value.string str1, Value.slice (some { block := b, off := (0 : Nat) }) (2 : Nat) (2 : Nat)] =
#[Value.string g5.s, Value.slice g5.a g5.want.length g5.c] ∧
(U8 w11 ∧
g5.s.size ≤ (67108864 : Nat) ∧ CellsAt w11 g5.a (List.map Value.string g5.want) ∧ g5.want.length ≤ (1000000 : Nat)) ∧
∀ (x5 : Bool) (w'10 : World),
x5 = rowB g5.s g5.want ∧ Ext w11 w'10 →
bcase x5
(∃ (g6 : Unit),
(#[] : Array Value) = #[] ∧
U8 w'10 ∧ ∀ (x6 : Unit) (w'11 : World), Ext w'10 w'11 → ∃ (x7 : Unit), Value.bool true = Value.bool true ∧ Ext w w'11)
(∃ (x6 : Unit), Value.bool false = Value.bool true ∧ Ext w w'10))) :
    ((sYes U8)).Ok Tryd.prog 7 :=
  ok_of_vc (sYes U8) annLawKn spLawKn (fun _ _ => rfl) (fun _ _ => rfl) hsp Tryd.func7 rfl (n := 0) (fun _ => rfl) (by kernel_rfl) (vcast (by kernel_rfl) h)

end Go.Proofs.YtniiamobbgnjaaaDoor
