/-
  Verification conditions, printed by a program out of the specifications beside this text: each theorem says that the condition suffices. (Lean's kernel compares the printed condition with what 'wpE' computes.)
-/
import Derived.Test.YthkcphnkllnfcaaDoorSpH
import Derived.Test.YthkcphnkllnfcaaDoorProg
import Derived.KernelRfl
set_option linter.unusedVariables false
namespace Go.Proofs.YthkcphnkllnfcaaDoor
open Go Go.RowKit Vc Ut

set_option maxRecDepth 1000000 in
theorem lawAll_vc (hsp : SpecsOk Tryd.prog spLawAll) (h : ∀ (g : ByteArray) (w : World),
U8 w ∧ g.size ≤ (1048576 : Nat) →
∃ (g1 : ByteArray),
#[Value.string g] = #[Value.string g1] ∧
(U8 w ∧ g1.size ≤ (67108864 : Nat)) ∧
∀ (x : Option Addr × Nat × Nat) (w' : World),
x.snd.fst = (badL g1).length ∧
Made w w' (3 : TypeId) (1 : Nat) x.fst x.snd.fst (List.map (Value.int IntKind.i64) (badL g1)) x.snd.snd →
∃ (g2 : ByteArray),
#[Value.string g] = #[Value.string g2] ∧
(U8 w' ∧ g2.size ≤ (67108864 : Nat)) ∧
∀ (x1 : Option Addr × Nat × Nat) (w'1 : World),
x1.snd.fst = (runes g2).length ∧
Made w' w'1 (21 : TypeId) (1 : Nat) x1.fst x1.snd.fst (List.map (Value.int IntKind.i32) (runes g2)) x1.snd.snd →
∃ (g3 : ByteArray),
#[Value.string g] = #[Value.string g3] ∧
(U8 w'1 ∧ g3.size ≤ (67108864 : Nat)) ∧
∀ (x2 : Option Addr × Nat × Nat) (w'2 : World),
x2.snd.fst = (badL g3).length ∧
Made w'1 w'2 (3 : TypeId) (1 : Nat) x2.fst x2.snd.fst (List.map (Value.int IntKind.i64) (badL g3)) x2.snd.snd →
∃ (g4 : ByteArray),
#[Value.string g] = #[Value.string g4] ∧
(U8 w'2 ∧ g4.size ≤ (67108864 : Nat)) ∧
∀ (x3 : Option Addr × Nat × Nat) (w'3 : World),
x3.snd.fst = (badL g4).length ∧
Made w'2 w'3 (3 : TypeId) (1 : Nat) x3.fst x3.snd.fst (List.map (Value.int IntKind.i64) (badL g4)) x3.snd.snd →
∃ (g5 : ByteArray),
#[Value.string g] = #[Value.string g5] ∧
(U8 w'3 ∧ g5.size ≤ (67108864 : Nat)) ∧
∀ (x4 : Option Addr × Nat × Nat) (w'4 : World),
x4.snd.fst = (runes g5).length ∧
Made w'3 w'4 (21 : TypeId) (1 : Nat) x4.fst x4.snd.fst (List.map (Value.int IntKind.i32) (runes g5)) x4.snd.snd →
∃ (g6 : ByteArray),
#[Value.string g] = #[Value.string g6] ∧
(U8 w'4 ∧ g6.size ≤ (67108864 : Nat)) ∧
∀ (x5 : Option Addr × Nat × Nat) (w'5 : World),
x5.snd.fst = (runes g6).length ∧
Made w'4 w'5 (21 : TypeId) (1 : Nat) x5.fst x5.snd.fst (List.map (Value.int IntKind.i32) (runes g6)) x5.snd.snd →
(∃ (g7 : GTwo),
#[Value.slice x2.fst x2.snd.fst x2.snd.snd, Value.slice x.fst x.snd.fst x.snd.snd] =
#[Value.slice g7.a.ad g7.a.xs.length g7.a.c, Value.slice g7.b.ad g7.b.xs.length g7.b.c] ∧
(GSl.at IntKind.i64 g7.a w'5 ∧ GSl.at IntKind.i64 g7.b w'5) ∧
∀ (x6 : Bool) (w'6 : World),
x6 = decide (g7.a.xs = g7.b.xs) ∧ Ext w'5 w'6 →
bcase (!x6) (∃ (x7 : Unit), Value.bool false = Value.bool true ∧ Ext w w'6)
(∃ (g8 : GTwo),
#[Value.slice x3.fst x3.snd.fst x3.snd.snd, Value.slice x.fst x.snd.fst x.snd.snd] =
#[Value.slice g8.a.ad g8.a.xs.length g8.a.c, Value.slice g8.b.ad g8.b.xs.length g8.b.c] ∧
(GSl.at IntKind.i64 g8.a w'6 ∧ GSl.at IntKind.i64 g8.b w'6) ∧
∀ (x7 : Bool) (w'7 : World),
x7 = decide (g8.a.xs = g8.b.xs) ∧ Ext w'6 w'7 →
bcase (!x7) (∃ (x8 : Unit), Value.bool false = Value.bool true ∧ Ext w w'7)
(∃ (g9 : GTwo),
#[Value.slice x4.fst x4.snd.fst x4.snd.snd, Value.slice x1.fst x1.snd.fst x1.snd.snd] =
#[Value.slice g9.a.ad g9.a.xs.length g9.a.c, Value.slice g9.b.ad g9.b.xs.length g9.b.c] ∧
(GSl.at IntKind.i32 g9.a w'7 ∧ GSl.at IntKind.i32 g9.b w'7) ∧
∀ (x8 : Bool) (w'8 : World),
x8 = decide (g9.a.xs = g9.b.xs) ∧ Ext w'7 w'8 →
bcase (!x8) (∃ (x9 : Unit), Value.bool false = Value.bool true ∧ Ext w w'8)
(∃ (g10 : GTwo),
#[Value.slice x5.fst x5.snd.fst x5.snd.snd, Value.slice x1.fst x1.snd.fst x1.snd.snd] =
#[Value.slice g10.a.ad g10.a.xs.length g10.a.c, Value.slice g10.b.ad g10.b.xs.length g10.b.c] ∧
(GSl.at IntKind.i32 g10.a w'8 ∧ GSl.at IntKind.i32 g10.b w'8) ∧
∀ (x9 : Bool) (w'9 : World),
x9 = decide (g10.a.xs = g10.b.xs) ∧ Ext w'8 w'9 →
bcase (!x9) (∃ (x10 : Unit), Value.bool false = Value.bool true ∧ Ext w w'9)
(∃ (c : Unit), (Value.bool !x9) = Value.bool false ∧ Ext w'5 w'9))))) ∧
∀ (u : Nat → Value) (c : Unit) (w'6 : World),
Ext w'5 w'6 →
(∃ (x6 : Nat),
Value.int IntKind.i64 (0 : Int) = Value.int IntKind.i64 (↑x6 : Int) ∧
x6 ≤ (badL g).length ∧
(∃ (a8 : Option Addr),
∃ (c1 : Nat),
∃ (vs : List Value),
Value.slice x2.fst x2.snd.fst x2.snd.snd = Value.slice a8 (badL g).length c1 ∧
Row w'6 (3 : TypeId) (1 : Nat) a8 (badL g).length vs c1) ∧
Fr (slN (Value.slice x2.fst x2.snd.fst x2.snd.snd)) w'6 w'6) ∧
∀ (u1 : Nat → Value) (x6 : Nat) (w'7 : World),
x6 ≤ (badL g).length ∧
(∃ (a8 : Option Addr),
∃ (c1 : Nat),
∃ (vs : List Value),
Value.slice x2.fst x2.snd.fst x2.snd.snd = Value.slice a8 (badL g).length c1 ∧
Row w'7 (3 : TypeId) (1 : Nat) a8 (badL g).length vs c1) ∧
Fr (slN (Value.slice x2.fst x2.snd.fst x2.snd.snd)) w'6 w'7 →
bcase (decide ((↑x6 : Int) < (↑x2.snd.fst : Int)))
(∃ (k : Nat),
(↑x6 : Int) = (↑k : Int) ∧
k < x2.snd.fst ∧
ptrE x2.fst fun (b o : Nat) =>
true = true ∧
(∃ (old : Value), w'7.cell? { block := b, off := o + k } = some old) ∧
w'7.frozen? { block := b, off := o + k } = false ∧
∀ (w1 : World),
Stored w'7 { block := b, off := o + k } (Value.int IntKind.i64 (-1 : Int)) w1 →
InR IntKind.i64 ((↑x6 : Int) + (1 : Int)) ∧
∃ (y : Nat),
Value.int IntKind.i64 ((↑x6 : Int) + (1 : Int)) = Value.int IntKind.i64 (↑y : Int) ∧
(y ≤ (badL g).length ∧
(∃ (a10 : Option Addr),
∃ (c1 : Nat),
∃ (vs : List Value),
Value.slice x2.fst x2.snd.fst x2.snd.snd = Value.slice a10 (badL g).length c1 ∧
Row w1 (3 : TypeId) (1 : Nat) a10 (badL g).length vs c1) ∧
Fr (slN (Value.slice x2.fst x2.snd.fst x2.snd.snd)) w'6 w1) ∧
(badL g).length - y < (badL g).length - x6)
((∃ (x7 : Nat),
Value.int IntKind.i64 (0 : Int) = Value.int IntKind.i64 (↑x7 : Int) ∧
x7 ≤ (runes g).length ∧
(∃ (a9 : Option Addr),
∃ (c1 : Nat),
∃ (vs : List Value),
Value.slice x4.fst x4.snd.fst x4.snd.snd = Value.slice a9 (runes g).length c1 ∧
Row w'7 (21 : TypeId) (1 : Nat) a9 (runes g).length vs c1) ∧
Fr (slN (Value.slice x4.fst x4.snd.fst x4.snd.snd)) w'7 w'7) ∧
∀ (u2 : Nat → Value) (x7 : Nat) (w'8 : World),
x7 ≤ (runes g).length ∧
(∃ (a9 : Option Addr),
∃ (c1 : Nat),
∃ (vs : List Value),
Value.slice x4.fst x4.snd.fst x4.snd.snd = Value.slice a9 (runes g).length c1 ∧
Row w'8 (21 : TypeId) (1 : Nat) a9 (runes g).length vs c1) ∧
Fr (slN (Value.slice x4.fst x4.snd.fst x4.snd.snd)) w'7 w'8 →
bcase (decide ((↑x7 : Int) < (↑x4.snd.fst : Int)))
(∃ (k : Nat),
(↑x7 : Int) = (↑k : Int) ∧
k < x4.snd.fst ∧
ptrE x4.fst fun (b o : Nat) =>
true = true ∧
(∃ (old : Value), w'8.cell? { block := b, off := o + k } = some old) ∧
w'8.frozen? { block := b, off := o + k } = false ∧
∀ (w1 : World),
Stored w'8 { block := b, off := o + k } (Value.int IntKind.i32 (7 : Int)) w1 →
InR IntKind.i64 ((↑x7 : Int) + (1 : Int)) ∧
∃ (y : Nat),
Value.int IntKind.i64 ((↑x7 : Int) + (1 : Int)) = Value.int IntKind.i64 (↑y : Int) ∧
(y ≤ (runes g).length ∧
(∃ (a11 : Option Addr),
∃ (c1 : Nat),
∃ (vs : List Value),
Value.slice x4.fst x4.snd.fst x4.snd.snd = Value.slice a11 (runes g).length c1 ∧
Row w1 (21 : TypeId) (1 : Nat) a11 (runes g).length vs c1) ∧
Fr (slN (Value.slice x4.fst x4.snd.fst x4.snd.snd)) w'7 w1) ∧
(runes g).length - y < (runes g).length - x7)
((∃ (x8 : Nat × (Option Addr × Nat) × Option Addr × Nat),
Value.int IntKind.i64 (0 : Int) = Value.int IntKind.i64 (↑x8.fst : Int) ∧
Value.slice x2.fst x2.snd.fst x2.snd.snd = Value.slice x8.snd.fst.fst ((badL g).length + x8.fst) x8.snd.fst.snd ∧
Value.slice x4.fst x4.snd.fst x4.snd.snd = Value.slice x8.snd.snd.fst ((runes g).length + x8.fst) x8.snd.snd.snd ∧
x8.fst ≤ (40 : Nat) ∧
Twin w'8 w'8
(fun (q : Nat) => slN (Value.slice x2.fst x2.snd.fst x2.snd.snd) q ∨ slN (Value.slice x4.fst x4.snd.fst x4.snd.snd) q)
(3 : TypeId) (21 : TypeId) x8.snd.fst.fst ((badL g).length + x8.fst) x8.snd.fst.snd x8.snd.snd.fst
((runes g).length + x8.fst) x8.snd.snd.snd) ∧
∀ (u3 : Nat → Value) (x8 : Nat × (Option Addr × Nat) × Option Addr × Nat) (w'9 : World),
x8.fst ≤ (40 : Nat) ∧
Twin w'8 w'9
(fun (q : Nat) => slN (Value.slice x2.fst x2.snd.fst x2.snd.snd) q ∨ slN (Value.slice x4.fst x4.snd.fst x4.snd.snd) q)
(3 : TypeId) (21 : TypeId) x8.snd.fst.fst ((badL g).length + x8.fst) x8.snd.fst.snd x8.snd.snd.fst
((runes g).length + x8.fst) x8.snd.snd.snd →
bcase (decide ((↑x8.fst : Int) < (40 : Int)))
(∀ (b : Nat) (w1 : World),
New w'9 (Obj.cells #[Value.int IntKind.i64 (-2 : Int)] (3 : Nat)) b w1 →
∃ (a' : Option Addr),
∃ (c' : Nat),
∃ (w'10 : World),
AppRun Tryd.prog #[(41 : Nat), (41 : Nat)] (41 : Nat)
(Value.slice x8.snd.fst.fst ((badL g).length + x8.fst) x8.snd.fst.snd)
(Value.slice (some { block := b, off := (0 : Nat) }) (1 : Nat) (1 : Nat)) w1 a' ((badL g).length + x8.fst + (1 : Nat))
c' w'10 ∧
KO w1 w'10 ∧
∀ (b1 : Nat) (w11 : World),
New w'10 (Obj.cells #[Value.int IntKind.i32 (8 : Int)] (21 : Nat)) b1 w11 →
∃ (a'1 : Option Addr),
∃ (c'1 : Nat),
∃ (w'11 : World),
AppRun Tryd.prog #[(26 : Nat), (26 : Nat)] (26 : Nat)
(Value.slice x8.snd.snd.fst ((runes g).length + x8.fst) x8.snd.snd.snd)
(Value.slice (some { block := b1, off := (0 : Nat) }) (1 : Nat) (1 : Nat)) w11 a'1
((runes g).length + x8.fst + (1 : Nat)) c'1 w'11 ∧
KO w11 w'11 ∧
InR IntKind.i64 ((↑x8.fst : Int) + (1 : Int)) ∧
∃ (y : Nat × (Option Addr × Nat) × Option Addr × Nat),
Value.int IntKind.i64 ((↑x8.fst : Int) + (1 : Int)) = Value.int IntKind.i64 (↑y.fst : Int) ∧
Value.slice a' ((badL g).length + x8.fst + (1 : Nat)) c' =
Value.slice y.snd.fst.fst ((badL g).length + y.fst) y.snd.fst.snd ∧
Value.slice a'1 ((runes g).length + x8.fst + (1 : Nat)) c'1 =
Value.slice y.snd.snd.fst ((runes g).length + y.fst) y.snd.snd.snd ∧
(y.fst ≤ (40 : Nat) ∧
Twin w'8 w'11
(fun (q : Nat) => slN (Value.slice x2.fst x2.snd.fst x2.snd.snd) q ∨ slN (Value.slice x4.fst x4.snd.fst x4.snd.snd) q)
(3 : TypeId) (21 : TypeId) y.snd.fst.fst ((badL g).length + y.fst) y.snd.fst.snd y.snd.snd.fst
((runes g).length + y.fst) y.snd.snd.snd) ∧
(40 : Nat) - y.fst < (40 : Nat) - x8.fst)
((∃ (g7 : GTwo),
#[Value.slice x3.fst x3.snd.fst x3.snd.snd, Value.slice x.fst x.snd.fst x.snd.snd] =
#[Value.slice g7.a.ad g7.a.xs.length g7.a.c, Value.slice g7.b.ad g7.b.xs.length g7.b.c] ∧
(GSl.at IntKind.i64 g7.a w'9 ∧ GSl.at IntKind.i64 g7.b w'9) ∧
∀ (x9 : Bool) (w'10 : World),
x9 = decide (g7.a.xs = g7.b.xs) ∧ Ext w'9 w'10 →
bcase x9
(∃ (g8 : GTwo),
#[Value.slice x5.fst x5.snd.fst x5.snd.snd, Value.slice x1.fst x1.snd.fst x1.snd.snd] =
#[Value.slice g8.a.ad g8.a.xs.length g8.a.c, Value.slice g8.b.ad g8.b.xs.length g8.b.c] ∧
(GSl.at IntKind.i32 g8.a w'10 ∧ GSl.at IntKind.i32 g8.b w'10) ∧
∀ (x10 : Bool) (w'11 : World),
x10 = decide (g8.a.xs = g8.b.xs) ∧ Ext w'10 w'11 →
bcase x10
(InR IntKind.i64 ((↑x.snd.fst : Int) + (40 : Int)) ∧
bcase ((↑((badL g).length + x8.fst) : Int) == (↑x.snd.fst : Int) + (40 : Int))
(InR IntKind.i64 ((↑x1.snd.fst : Int) + (40 : Int)) ∧
∃ (c1 : Unit),
Value.bool ((↑((runes g).length + x8.fst) : Int) == (↑x1.snd.fst : Int) + (40 : Int)) = Value.bool true ∧ Ext w'9 w'11)
(∃ (c1 : Unit), Value.bool false = Value.bool true ∧ Ext w'9 w'11))
(∃ (c1 : Unit), Value.bool false = Value.bool true ∧ Ext w'9 w'11))
(∃ (c1 : Unit), Value.bool false = Value.bool true ∧ Ext w'9 w'10)) ∧
∀ (u4 : Nat → Value) (c1 : Unit) (w'10 : World),
Ext w'9 w'10 →
∃ (g7 : ByteArray),
#[Value.string g] = #[Value.string g7] ∧
(U8 w'10 ∧ g7.size ≤ (67108864 : Nat)) ∧
∀ (x9 : Bool) (w'11 : World),
x9 = validB g7 ∧ Ext w'10 w'11 →
bcase (x9 == ((↑x.snd.fst : Int) == (0 : Int)))
(∃ (g8 : ByteArray),
#[Value.string g] = #[Value.string g8] ∧
(U8 w'11 ∧ g8.size ≤ (67108864 : Nat)) ∧
∀ (x10 : Nat) (w'12 : World),
x10 = cnt g8 ∧ Ext w'11 w'12 →
bcase ((↑x10 : Int) == (↑x1.snd.fst : Int))
(∃ (g9 : ByteArray),
#[Value.string g] = #[Value.string g9] ∧
(U8 w'12 ∧ g9.size ≤ (67108864 : Nat)) ∧
∀ (x11 : ByteArray) (w'13 : World),
x11 = runesBytes (runes g9) ∧ Ext w'12 w'13 →
∃ (g10 : ByteArray),
#[Value.string g] = #[Value.string g10] ∧
(U8 w'13 ∧ g10.size ≤ (67108864 : Nat)) ∧
∀ (x12 : ByteArray) (w'14 : World),
x12 = runesBytes (runes g10) ∧ Ext w'13 w'14 →
bcase (x11.toList == x12.toList)
(∃ (g11 : Unit),
(#[] : Array Value) = #[] ∧
U8 w'14 ∧ ∀ (x13 : Unit) (w'15 : World), Ext w'14 w'15 → ∃ (x14 : Unit), Value.bool true = Value.bool true ∧ Ext w w'15)
(∃ (x13 : Unit), Value.bool false = Value.bool true ∧ Ext w w'14))
(∃ (x11 : Unit), Value.bool false = Value.bool true ∧ Ext w w'12))
(∃ (x10 : Unit), Value.bool false = Value.bool true ∧ Ext w w'11))))) :
    (sLawS).Ok Tryd.prog 9 :=
  ok_of_vc sLawS annLawAll spLawAll (fun _ _ => rfl) (fun _ _ => rfl) hsp Tryd.func9 rfl (n := 1) (fun _ => rfl) (by kernel_rfl) (vcast (by kernel_rfl) h)

end Go.Proofs.YthkcphnkllnfcaaDoor
