/-
  Verification conditions, printed by a program out of the specifications beside this text: each theorem says that the condition suffices. (Lean's kernel compares the printed condition with what 'wpE' computes.)
-/
import Derived.Test.YthkcphnkllnfcaaDoorSpD
import Derived.Test.YthkcphnkllnfcaaDoorProg
import Derived.KernelRfl
set_option linter.unusedVariables false
namespace Go.Proofs.YthkcphnkllnfcaaDoor
open Go Go.RowKit Vc Ut

set_option maxRecDepth 1000000 in
theorem wakes_vc (hsp : SpecsOk Tryd.prog spWakes) (h : ∀ (g : Unit) (w : World),
U8 w →
∃ (g1 : ByteArray),
#[Value.string (ByteArray.mk #[(228 : UInt8), (184 : UInt8)])] = #[Value.string g1] ∧
(U8 w ∧ g1.size ≤ (67108864 : Nat)) ∧
∀ (x : Int × Nat) (w' : World),
x.fst = nxR g1 ∧ x.snd = nxN g1 ∧ Ext w w' →
∃ (g2 : ByteArray),
#[Value.string (ByteArray.mk #[(97 : UInt8), (195 : UInt8), (169 : UInt8)])] = #[Value.string g2] ∧
(U8 w' ∧ g2.size ≤ (67108864 : Nat)) ∧
∀ (x1 : Int × Nat) (w'1 : World),
x1.fst = lsR g2 ∧ x1.snd = lsN g2 ∧ Ext w' w'1 →
∃ (g3 : ByteArray),
#[Value.string (ByteArray.mk #[(239 : UInt8), (191 : UInt8), (189 : UInt8)])] = #[Value.string g3] ∧
(U8 w'1 ∧ g3.size ≤ (67108864 : Nat)) ∧
∀ (x2 : Int × Nat) (w'2 : World),
x2.fst = nxR g3 ∧ x2.snd = nxN g3 ∧ Ext w'1 w'2 →
∃ (g4 : ByteArray),
#[Value.string (ByteArray.mk #[(97 : UInt8), (255 : UInt8), (195 : UInt8), (169 : UInt8)])] = #[Value.string g4] ∧
(U8 w'2 ∧ g4.size ≤ (67108864 : Nat)) ∧
∀ (x3 : Option Addr × Nat × Nat) (w'3 : World),
x3.snd.fst = (runes g4).length ∧
Made w'2 w'3 (21 : TypeId) (1 : Nat) x3.fst x3.snd.fst (List.map (Value.int IntKind.i32) (runes g4)) x3.snd.snd →
bcase (x.fst == (65533 : Int))
(bcase ((↑x.snd : Int) == (1 : Int))
(bcase (x1.fst == (233 : Int))
(bcase ((↑x1.snd : Int) == (2 : Int))
(bcase (x2.fst == (65533 : Int))
(bcase ((↑x2.snd : Int) == (3 : Int))
(bcase ((↑x3.snd.fst : Int) == (3 : Int))
(∃ (k : Nat),
(1 : Int) = (↑k : Int) ∧
k < x3.snd.fst ∧
ptrE x3.fst fun (b o : Nat) =>
∃ (n : Int),
w'3.cell? { block := b, off := o + k } = some (Value.int IntKind.i32 n) ∧
bcase (n == (65533 : Int))
(∃ (k1 : Nat),
(2 : Int) = (↑k1 : Int) ∧
k1 < x3.snd.fst ∧
ptrE x3.fst fun (b1 o1 : Nat) =>
∃ (n1 : Int),
w'3.cell? { block := b1, off := o1 + k1 } = some (Value.int IntKind.i32 n1) ∧
∃ (c : Unit), Value.bool (n1 == (233 : Int)) = Value.bool true ∧ Ext w'3 w'3)
(∃ (c : Unit), Value.bool false = Value.bool true ∧ Ext w'3 w'3))
(∃ (c : Unit), Value.bool false = Value.bool true ∧ Ext w'3 w'3))
(∃ (c : Unit), Value.bool false = Value.bool true ∧ Ext w'3 w'3))
(∃ (c : Unit), Value.bool false = Value.bool true ∧ Ext w'3 w'3))
(∃ (c : Unit), Value.bool false = Value.bool true ∧ Ext w'3 w'3))
(∃ (c : Unit), Value.bool false = Value.bool true ∧ Ext w'3 w'3))
(∃ (c : Unit), Value.bool false = Value.bool true ∧ Ext w'3 w'3))
(∃ (c : Unit), Value.bool false = Value.bool true ∧ Ext w'3 w'3) ∧
∀ (u : Nat → Value) (c : Unit) (w'4 : World),
Ext w'3 w'4 →
∃ (g5 : ByteArray),
#[Value.string (ByteArray.mk #[(228 : UInt8), (184 : UInt8)])] = #[Value.string g5] ∧
(U8 w'4 ∧ g5.size ≤ (67108864 : Nat)) ∧
∀ (x4 : Bool) (w'5 : World),
x4 = wholeB g5 ∧ Ext w'4 w'5 →
bcase (!x4)
(∃ (g6 : ByteArray),
#[Value.string (ByteArray.mk #[(255 : UInt8)])] = #[Value.string g6] ∧
(U8 w'5 ∧ g6.size ≤ (67108864 : Nat)) ∧
∀ (x5 : Bool) (w'6 : World),
x5 = wholeB g6 ∧ Ext w'5 w'6 →
bcase x5
(∃ (g7 : ByteArray),
#[Value.string (ByteArray.mk #[(195 : UInt8), (169 : UInt8)])] = #[Value.string g7] ∧
(U8 w'6 ∧ g7.size ≤ (67108864 : Nat)) ∧
∀ (x6 : Bool) (w'7 : World),
x6 = validB g7 ∧ Ext w'6 w'7 →
bcase x6
(∃ (g8 : ByteArray),
#[Value.string (ByteArray.mk #[(195 : UInt8)])] = #[Value.string g8] ∧
(U8 w'7 ∧ g8.size ≤ (67108864 : Nat)) ∧
∀ (x7 : Bool) (w'8 : World),
x7 = validB g8 ∧ Ext w'7 w'8 →
bcase (!x7)
(∃ (g9 : ByteArray),
#[Value.string (ByteArray.mk #[(237 : UInt8), (160 : UInt8), (128 : UInt8)])] = #[Value.string g9] ∧
(U8 w'8 ∧ g9.size ≤ (67108864 : Nat)) ∧
∀ (x8 : Nat) (w'9 : World),
x8 = cnt g9 ∧ Ext w'8 w'9 →
bcase ((↑x8 : Int) == (3 : Int))
(∀ (b : Nat) (w1 : World),
New w'9 (Obj.cells #[Value.int IntKind.i32 (97 : Int), Value.int IntKind.i32 (-1 : Int)] (21 : Nat)) b w1 →
∃ (g10 : GSl),
#[Value.slice (some { block := b, off := (0 : Nat) }) (2 : Nat) (2 : Nat)] = #[Value.slice g10.ad g10.xs.length g10.c] ∧
(GSl.at IntKind.i32 g10 w1 ∧ g10.xs.length ≤ (67108864 : Nat)) ∧
∀ (x9 : ByteArray) (w'10 : World),
x9 = runesBytes g10.xs ∧ Ext w1 w'10 →
∃ (x10 : Unit),
Value.bool (x9.toList == (ByteArray.mk #[(97 : UInt8), (239 : UInt8), (191 : UInt8), (189 : UInt8)]).toList) =
Value.bool true ∧
Ext w w'10)
(∃ (x9 : Unit), Value.bool false = Value.bool true ∧ Ext w w'9))
(∃ (x8 : Unit), Value.bool false = Value.bool true ∧ Ext w w'8))
(∃ (x7 : Unit), Value.bool false = Value.bool true ∧ Ext w w'7))
(∃ (x6 : Unit), Value.bool false = Value.bool true ∧ Ext w w'6))
(∃ (x5 : Unit), Value.bool false = Value.bool true ∧ Ext w w'5)) :
    ((sYes U8)).Ok Tryd.prog 20 :=
  ok_of_vc (sYes U8) annWakes spWakes (fun _ _ => rfl) (fun _ _ => rfl) hsp Tryd.func20 rfl (n := 0) (fun _ => rfl) (by kernel_rfl) (vcast (by kernel_rfl) h)

set_option maxRecDepth 1000000 in
theorem lawOne_vc (hsp : SpecsOk Tryd.prog spOne) (h : ∀ (g : ByteArray) (w : World),
U8 w ∧ g.size ≤ (1048576 : Nat) →
∃ (g1 : ByteArray),
#[Value.string g] = #[Value.string g1] ∧
(U8 w ∧ g1.size ≤ (67108864 : Nat)) ∧
∀ (x : Int × Nat) (w' : World),
x.fst = nxR g1 ∧ x.snd = nxN g1 ∧ Ext w w' →
∃ (g2 : ByteArray),
#[Value.string g] = #[Value.string g2] ∧
(U8 w' ∧ g2.size ≤ (67108864 : Nat)) ∧
∀ (x1 : Int × Nat) (w'1 : World),
x1.fst = lsR g2 ∧ x1.snd = lsN g2 ∧ Ext w' w'1 →
∃ (g3 : ByteArray),
#[Value.string g] = #[Value.string g3] ∧
(U8 w'1 ∧ g3.size ≤ (67108864 : Nat)) ∧
∀ (x2 : Int × Nat) (w'2 : World),
x2.fst = nxR g3 ∧ x2.snd = nxN g3 ∧ Ext w'1 w'2 →
∃ (g4 : ByteArray),
#[Value.string g] = #[Value.string g4] ∧
(U8 w'2 ∧ g4.size ≤ (67108864 : Nat)) ∧
∀ (x3 : Int × Nat) (w'3 : World),
x3.fst = lsR g4 ∧ x3.snd = lsN g4 ∧ Ext w'2 w'3 →
bcase (x.fst == x2.fst)
(bcase ((↑x.snd : Int) == (↑x2.snd : Int))
(bcase (x1.fst == x3.fst)
(bcase ((↑x1.snd : Int) == (↑x3.snd : Int))
(∃ (g5 : ByteArray),
#[Value.string g] = #[Value.string g5] ∧
(U8 w'3 ∧ g5.size ≤ (67108864 : Nat)) ∧
∀ (x4 : Bool) (w'4 : World),
x4 = wholeB g5 ∧ Ext w'3 w'4 →
∃ (g6 : ByteArray),
#[Value.string g] = #[Value.string g6] ∧
(U8 w'4 ∧ g6.size ≤ (67108864 : Nat)) ∧
∀ (x5 : Bool) (w'5 : World),
x5 = wholeB g6 ∧ Ext w'4 w'5 →
bcase (x4 == x5)
(∃ (g7 : Unit),
(#[] : Array Value) = #[] ∧
U8 w'5 ∧ ∀ (x6 : Unit) (w'6 : World), Ext w'5 w'6 → ∃ (x7 : Unit), Value.bool true = Value.bool true ∧ Ext w w'6)
(∃ (x6 : Unit), Value.bool false = Value.bool true ∧ Ext w w'5))
(∃ (x4 : Unit), Value.bool false = Value.bool true ∧ Ext w w'3))
(∃ (x4 : Unit), Value.bool false = Value.bool true ∧ Ext w w'3))
(∃ (x4 : Unit), Value.bool false = Value.bool true ∧ Ext w w'3))
(∃ (x4 : Unit), Value.bool false = Value.bool true ∧ Ext w w'3)) :
    (sLawS).Ok Tryd.prog 3 :=
  ok_of_vc sLawS (annOf spOne) spOne (fun _ _ => rfl) (fun _ _ => rfl) hsp Tryd.func3 rfl (n := 1) (fun _ => rfl) (by kernel_rfl) (vcast (by kernel_rfl) h)

set_option maxRecDepth 1000000 in
theorem lawText_vc (hsp : SpecsOk Tryd.prog spText) (h : ∀ (g : GSl) (w : World),
U8 w ∧ CellsAt w g.ad (List.map (Value.int IntKind.i32) g.xs) ∧ g.xs.length ≤ (1048576 : Nat) →
∀ (b : Nat) (w1 : World),
New w (Obj.cells #[] (21 : Nat)) b w1 →
∃ (a' : Option Addr),
∃ (c' : Nat),
∃ (w' : World),
AppRun Tryd.prog #[(26 : Nat), (26 : Nat)] (26 : Nat)
(Value.slice (some { block := b, off := (0 : Nat) }) (0 : Nat) (0 : Nat)) (Value.slice g.ad g.xs.length g.c) w1 a'
((0 : Nat) + g.xs.length) c' w' ∧
KO w1 w' ∧
∀ (b1 : Nat) (w11 : World),
New w' (Obj.cells #[Value.int IntKind.i32 (65 : Int), Value.int IntKind.i32 (66 : Int)] (21 : Nat)) b1 w11 →
∃ (a'1 : Option Addr),
∃ (c'1 : Nat),
∃ (w'1 : World),
AppRun Tryd.prog #[(26 : Nat), (26 : Nat)] (26 : Nat) (Value.slice a' ((0 : Nat) + g.xs.length) c')
(Value.slice (some { block := b1, off := (0 : Nat) }) (2 : Nat) (2 : Nat)) w11 a'1 ((0 : Nat) + g.xs.length + (2 : Nat))
c'1 w'1 ∧
KO w11 w'1 ∧
∃ (hn : Nat),
(↑g.xs.length : Int) = (↑hn : Int) ∧
hn ≤ c'1 ∧
∃ (g1 : GSl),
#[Value.slice a'1 hn c'1] = #[Value.slice g1.ad g1.xs.length g1.c] ∧
(GSl.at IntKind.i32 g1 w'1 ∧ g1.xs.length ≤ (67108864 : Nat)) ∧
∀ (x : ByteArray) (w'2 : World),
x = runesBytes g1.xs ∧ Ext w'1 w'2 →
∃ (hn1 : Nat),
(↑g.xs.length : Int) = (↑hn1 : Int) ∧
hn1 ≤ c'1 ∧
∃ (g2 : GTwo),
#[Value.slice a'1 hn1 c'1, Value.slice g.ad g.xs.length g.c] =
#[Value.slice g2.a.ad g2.a.xs.length g2.a.c, Value.slice g2.b.ad g2.b.xs.length g2.b.c] ∧
(GSl.at IntKind.i32 g2.a w'2 ∧ GSl.at IntKind.i32 g2.b w'2) ∧
∀ (x1 : Bool) (w'3 : World),
x1 = decide (g2.a.xs = g2.b.xs) ∧ Ext w'2 w'3 →
∃ (g3 : GSl),
#[Value.slice g.ad g.xs.length g.c] = #[Value.slice g3.ad g3.xs.length g3.c] ∧
(GSl.at IntKind.i32 g3 w'3 ∧ g3.xs.length ≤ (67108864 : Nat)) ∧
∀ (x2 : ByteArray) (w'4 : World),
x2 = runesBytes g3.xs ∧ Ext w'3 w'4 →
bcase (x.toList == x2.toList)
(bcase x1
(∃ (k : Nat),
(↑g.xs.length : Int) = (↑k : Int) ∧
k < (0 : Nat) + g.xs.length + (2 : Nat) ∧
ptrE a'1 fun (b2 o : Nat) =>
∃ (n : Int),
w'4.cell? { block := b2, off := o + k } = some (Value.int IntKind.i32 n) ∧
bcase (n == (65 : Int))
(InR IntKind.i64 ((↑g.xs.length : Int) + (1 : Int)) ∧
∃ (k1 : Nat),
(↑g.xs.length : Int) + (1 : Int) = (↑k1 : Int) ∧
k1 < (0 : Nat) + g.xs.length + (2 : Nat) ∧
ptrE a'1 fun (b3 o1 : Nat) =>
∃ (n1 : Int),
w'4.cell? { block := b3, off := o1 + k1 } = some (Value.int IntKind.i32 n1) ∧
bcase (n1 == (66 : Int))
(∃ (g4 : Unit),
(#[] : Array Value) = #[] ∧
U8 w'4 ∧ ∀ (x3 : Unit) (w'5 : World), Ext w'4 w'5 → ∃ (x4 : Unit), Value.bool true = Value.bool true ∧ Ext w w'5)
(∃ (x3 : Unit), Value.bool false = Value.bool true ∧ Ext w w'4))
(∃ (x3 : Unit), Value.bool false = Value.bool true ∧ Ext w w'4))
(∃ (x3 : Unit), Value.bool false = Value.bool true ∧ Ext w w'4))
(∃ (x3 : Unit), Value.bool false = Value.bool true ∧ Ext w w'4)) :
    (sLawL).Ok Tryd.prog 4 :=
  ok_of_vc sLawL (annOf spText) spText (fun _ _ => rfl) (fun _ _ => rfl) hsp Tryd.func4 rfl (n := 1) (fun _ => rfl) (by kernel_rfl) (vcast (by kernel_rfl) h)

set_option maxRecDepth 1000000 in
theorem char_vc (hsp : SpecsOk Tryd.prog []) (h : ∀ (g : Int) (w : World),
True →
∃ (x : Bool),
Value.bool
(bif decide (g ≥ (0 : Int)) then
decide (g < (55296 : Int)) || decide (g > (57343 : Int)) && decide (g ≤ (1114111 : Int))
else decide (g > (57343 : Int)) && decide (g ≤ (1114111 : Int))) =
Value.bool x ∧
x = decide ((0 : Int) ≤ g ∧ g < (55296 : Int) ∨ (57344 : Int) ≤ g ∧ g ≤ (1114111 : Int)) ∧ w = w) :
    (sChar).Ok Tryd.prog 26 :=
  ok_of_vc sChar (annOf []) [] (fun _ _ => rfl) (fun _ _ => rfl) hsp Tryd.func26 rfl (n := 1) (fun _ => rfl) (by kernel_rfl) (vcast (by kernel_rfl) h)

set_option maxRecDepth 1000000 in
theorem lawNumbers_vc (hsp : SpecsOk Tryd.prog spNumbers) (h : ∀ (g : GSl) (w : World),
U8 w ∧ CellsAt w g.ad (List.map (Value.int IntKind.i32) g.xs) ∧ g.xs.length ≤ (1048576 : Nat) →
∃ (g1 : GSl),
#[Value.slice g.ad g.xs.length g.c] = #[Value.slice g1.ad g1.xs.length g1.c] ∧
(GSl.at IntKind.i32 g1 w ∧ g1.xs.length ≤ (67108864 : Nat)) ∧
∀ (x : ByteArray) (w' : World),
x = runesBytes g1.xs ∧ Ext w w' →
∃ (g2 : ByteArray),
#[Value.string x] = #[Value.string g2] ∧
(U8 w' ∧ g2.size ≤ (67108864 : Nat)) ∧
∀ (x1 : Option Addr × Nat × Nat) (w'1 : World),
x1.snd.fst = (runes g2).length ∧
Made w' w'1 (21 : TypeId) (1 : Nat) x1.fst x1.snd.fst (List.map (Value.int IntKind.i32) (runes g2)) x1.snd.snd →
bcase ((↑x1.snd.fst : Int) != (↑g.xs.length : Int)) (∃ (x2 : Unit), Value.bool false = Value.bool true ∧ Ext w w'1)
(∃ (g3 : ByteArray),
#[Value.string x] = #[Value.string g3] ∧
(U8 w'1 ∧ g3.size ≤ (67108864 : Nat)) ∧
∀ (x2 : Bool) (w'2 : World),
x2 = validB g3 ∧ Ext w'1 w'2 →
bcase (!x2) (∃ (x3 : Unit), Value.bool false = Value.bool true ∧ Ext w w'2)
((∃ (x3 : Nat),
Value.int IntKind.i64 (0 : Int) = Value.int IntKind.i64 (↑x3 : Int) ∧
x3 ≤ g.xs.length ∧
Ext w w'2 ∧
∃ (a4 : Option Addr),
∃ (c : Nat),
Value.slice x1.fst x1.snd.fst x1.snd.snd = Value.slice a4 g.xs.length c ∧
CellsAt w'2 a4 (List.map (Value.int IntKind.i32) (runes (runesBytes g.xs)))) ∧
∀ (u : Nat → Value) (x3 : Nat) (w'3 : World),
(x3 ≤ g.xs.length ∧
Ext w w'3 ∧
∃ (a4 : Option Addr),
∃ (c : Nat),
Value.slice x1.fst x1.snd.fst x1.snd.snd = Value.slice a4 g.xs.length c ∧
CellsAt w'3 a4 (List.map (Value.int IntKind.i32) (runes (runesBytes g.xs)))) →
bcase (decide ((↑x3 : Int) < (↑g.xs.length : Int)))
(∀ (w1 : World),
Drew w'3 w1 →
∃ (k : Nat),
(↑x3 : Int) = (↑k : Int) ∧
k < g.xs.length ∧
ptrE g.ad fun (b o : Nat) =>
∃ (n : Int),
w'3.cell? { block := b, off := o + k } = some (Value.int IntKind.i32 n) ∧
∃ (g4 : Int),
#[Value.int IntKind.i32 n] = #[Value.int IntKind.i32 g4] ∧
True ∧
∀ (x4 : Bool) (w'4 : World),
x4 = decide ((0 : Int) ≤ g4 ∧ g4 < (55296 : Int) ∨ (57344 : Int) ≤ g4 ∧ g4 ≤ (1114111 : Int)) ∧ w'4 = w1 →
bcase x4
(∃ (k1 : Nat),
(↑x3 : Int) = (↑k1 : Int) ∧
k1 < x1.snd.fst ∧
ptrE x1.fst fun (b1 o1 : Nat) =>
∃ (n1 : Int),
w'4.cell? { block := b1, off := o1 + k1 } = some (Value.int IntKind.i32 n1) ∧
∃ (k2 : Nat),
(↑x3 : Int) = (↑k2 : Int) ∧
k2 < g.xs.length ∧
ptrE g.ad fun (b2 o2 : Nat) =>
∃ (n2 : Int),
w'4.cell? { block := b2, off := o2 + k2 } = some (Value.int IntKind.i32 n2) ∧
bcase (n1 != n2) (∃ (x5 : Unit), Value.bool false = Value.bool true ∧ Ext w w'4)
(∃ (k3 : Nat),
(↑x3 : Int) = (↑k3 : Int) ∧
k3 < g.xs.length ∧
ptrE g.ad fun (b3 o3 : Nat) =>
∃ (n3 : Int),
w'4.cell? { block := b3, off := o3 + k3 } = some (Value.int IntKind.i32 n3) ∧
∃ (g5 : Int),
#[Value.int IntKind.i32 n3] = #[Value.int IntKind.i32 g5] ∧
True ∧
∀ (x5 : Bool) (w'5 : World),
x5 = decide ((0 : Int) ≤ g5 ∧ g5 < (55296 : Int) ∨ (57344 : Int) ≤ g5 ∧ g5 ≤ (1114111 : Int)) ∧ w'5 = w'4 →
bcase (!x5)
(∃ (k4 : Nat),
(↑x3 : Int) = (↑k4 : Int) ∧
k4 < x1.snd.fst ∧
ptrE x1.fst fun (b4 o4 : Nat) =>
∃ (n4 : Int),
w'5.cell? { block := b4, off := o4 + k4 } = some (Value.int IntKind.i32 n4) ∧
bcase (n4 != (65533 : Int)) (∃ (x6 : Unit), Value.bool false = Value.bool true ∧ Ext w w'5)
(InR IntKind.i64 ((↑x3 : Int) + (1 : Int)) ∧
∃ (y : Nat),
Value.int IntKind.i64 ((↑x3 : Int) + (1 : Int)) = Value.int IntKind.i64 (↑y : Int) ∧
(y ≤ g.xs.length ∧
Ext w w'5 ∧
∃ (a8 : Option Addr),
∃ (c : Nat),
Value.slice x1.fst x1.snd.fst x1.snd.snd = Value.slice a8 g.xs.length c ∧
CellsAt w'5 a8 (List.map (Value.int IntKind.i32) (runes (runesBytes g.xs)))) ∧
g.xs.length - y < g.xs.length - x3))
(InR IntKind.i64 ((↑x3 : Int) + (1 : Int)) ∧
∃ (y : Nat),
Value.int IntKind.i64 ((↑x3 : Int) + (1 : Int)) = Value.int IntKind.i64 (↑y : Int) ∧
(y ≤ g.xs.length ∧
Ext w w'5 ∧
∃ (a8 : Option Addr),
∃ (c : Nat),
Value.slice x1.fst x1.snd.fst x1.snd.snd = Value.slice a8 g.xs.length c ∧
CellsAt w'5 a8 (List.map (Value.int IntKind.i32) (runes (runesBytes g.xs)))) ∧
g.xs.length - y < g.xs.length - x3)))
(∃ (k1 : Nat),
(↑x3 : Int) = (↑k1 : Int) ∧
k1 < g.xs.length ∧
ptrE g.ad fun (b1 o1 : Nat) =>
∃ (n1 : Int),
w'4.cell? { block := b1, off := o1 + k1 } = some (Value.int IntKind.i32 n1) ∧
∃ (g5 : Int),
#[Value.int IntKind.i32 n1] = #[Value.int IntKind.i32 g5] ∧
True ∧
∀ (x5 : Bool) (w'5 : World),
x5 = decide ((0 : Int) ≤ g5 ∧ g5 < (55296 : Int) ∨ (57344 : Int) ≤ g5 ∧ g5 ≤ (1114111 : Int)) ∧ w'5 = w'4 →
bcase (!x5)
(∃ (k2 : Nat),
(↑x3 : Int) = (↑k2 : Int) ∧
k2 < x1.snd.fst ∧
ptrE x1.fst fun (b2 o2 : Nat) =>
∃ (n2 : Int),
w'5.cell? { block := b2, off := o2 + k2 } = some (Value.int IntKind.i32 n2) ∧
bcase (n2 != (65533 : Int)) (∃ (x6 : Unit), Value.bool false = Value.bool true ∧ Ext w w'5)
(InR IntKind.i64 ((↑x3 : Int) + (1 : Int)) ∧
∃ (y : Nat),
Value.int IntKind.i64 ((↑x3 : Int) + (1 : Int)) = Value.int IntKind.i64 (↑y : Int) ∧
(y ≤ g.xs.length ∧
Ext w w'5 ∧
∃ (a8 : Option Addr),
∃ (c : Nat),
Value.slice x1.fst x1.snd.fst x1.snd.snd = Value.slice a8 g.xs.length c ∧
CellsAt w'5 a8 (List.map (Value.int IntKind.i32) (runes (runesBytes g.xs)))) ∧
g.xs.length - y < g.xs.length - x3))
(InR IntKind.i64 ((↑x3 : Int) + (1 : Int)) ∧
∃ (y : Nat),
Value.int IntKind.i64 ((↑x3 : Int) + (1 : Int)) = Value.int IntKind.i64 (↑y : Int) ∧
(y ≤ g.xs.length ∧
Ext w w'5 ∧
∃ (a8 : Option Addr),
∃ (c : Nat),
Value.slice x1.fst x1.snd.fst x1.snd.snd = Value.slice a8 g.xs.length c ∧
CellsAt w'5 a8 (List.map (Value.int IntKind.i32) (runes (runesBytes g.xs)))) ∧
g.xs.length - y < g.xs.length - x3)))
(∃ (g4 : Unit),
(#[] : Array Value) = #[] ∧
U8 w'3 ∧ ∀ (x4 : Unit) (w'4 : World), Ext w'3 w'4 → ∃ (x5 : Unit), Value.bool true = Value.bool true ∧ Ext w w'4)))) :
    (sLawL).Ok Tryd.prog 5 :=
  ok_of_vc sLawL annNumbers spNumbers (fun _ _ => rfl) (fun _ _ => rfl) hsp Tryd.func5 rfl (n := 1) (fun _ => rfl) (by kernel_rfl) (vcast (by kernel_rfl) h)

end Go.Proofs.YthkcphnkllnfcaaDoor
