/-
  Verification conditions, printed by a program out of the specifications beside this text: each theorem says that the condition suffices. (Lean's kernel compares the printed condition with what 'wpE' computes.)
-/
import Derived.Test.YthkcphnkllnfcaaDoorSpE
import Derived.Test.YthkcphnkllnfcaaDoorProg
import Derived.KernelRfl
set_option linter.unusedVariables false
namespace Go.Proofs.YthkcphnkllnfcaaDoor
open Go Go.RowKit Vc Ut

set_option maxRecDepth 1000000 in
theorem lawParts_vc (hsp : SpecsOk Tryd.prog spParts) (h : ∀ (g : GSI) (w : World),
U8 w ∧ g.s.size ≤ (1048576 : Nat) →
∃ (g1 : ByteArray),
#[Value.string g.s] = #[Value.string g1] ∧
(U8 w ∧ g1.size ≤ (67108864 : Nat)) ∧
∀ (x : Option Addr × Nat × Nat) (w' : World),
x.snd.fst = (runes g1).length ∧
Made w w' (21 : TypeId) (1 : Nat) x.fst x.snd.fst (List.map (Value.int IntKind.i32) (runes g1)) x.snd.snd →
∃ (g2 : GSl),
#[Value.slice x.fst x.snd.fst x.snd.snd] = #[Value.slice g2.ad g2.xs.length g2.c] ∧
(GSl.at IntKind.i32 g2 w' ∧ g2.xs.length ≤ (67108864 : Nat)) ∧
∀ (x1 : ByteArray) (w'1 : World),
x1 = runesBytes g2.xs ∧ Ext w' w'1 →
(∃ (g3 : ByteArray),
#[Value.string x1] = #[Value.string g3] ∧
(U8 w'1 ∧ g3.size ≤ (67108864 : Nat)) ∧
∀ (x2 : Bool) (w'2 : World),
x2 = validB g3 ∧ Ext w'1 w'2 →
bcase (!x2) (∃ (c : Unit), Value.bool true = Value.bool false ∧ Ext w'1 w'2)
(∃ (g4 : ByteArray),
#[Value.string g.s] = #[Value.string g4] ∧
(U8 w'2 ∧ g4.size ≤ (67108864 : Nat)) ∧
∀ (x3 : ByteArray) (w'3 : World),
x3 = runesBytes (runes g4) ∧ Ext w'2 w'3 →
bcase (!x3.toList == x1.toList) (∃ (c : Unit), Value.bool true = Value.bool false ∧ Ext w'1 w'3)
(∃ (g5 : ByteArray),
#[Value.string x1] = #[Value.string g5] ∧
(U8 w'3 ∧ g5.size ≤ (67108864 : Nat)) ∧
∀ (x4 : ByteArray) (w'4 : World),
x4 = runesBytes (runes g5) ∧ Ext w'3 w'4 →
bcase (!x4.toList == x1.toList) (∃ (c : Unit), Value.bool true = Value.bool false ∧ Ext w'1 w'4)
(∃ (g6 : ByteArray),
#[Value.string x1] = #[Value.string g6] ∧
(U8 w'4 ∧ g6.size ≤ (67108864 : Nat)) ∧
∀ (x5 : Nat) (w'5 : World),
x5 = cnt g6 ∧ Ext w'4 w'5 →
bcase ((↑x5 : Int) != (↑x.snd.fst : Int)) (∃ (c : Unit), Value.bool true = Value.bool false ∧ Ext w'1 w'5)
(∃ (g7 : ByteArray),
#[Value.string x1] = #[Value.string g7] ∧
(U8 w'5 ∧ g7.size ≤ (67108864 : Nat)) ∧
∀ (x6 : Option Addr × Nat × Nat) (w'6 : World),
x6.snd.fst = (runes g7).length ∧
Made w'5 w'6 (21 : TypeId) (1 : Nat) x6.fst x6.snd.fst (List.map (Value.int IntKind.i32) (runes g7)) x6.snd.snd →
∃ (g8 : GTwo),
#[Value.slice x6.fst x6.snd.fst x6.snd.snd, Value.slice x.fst x.snd.fst x.snd.snd] =
#[Value.slice g8.a.ad g8.a.xs.length g8.a.c, Value.slice g8.b.ad g8.b.xs.length g8.b.c] ∧
(GSl.at IntKind.i32 g8.a w'6 ∧ GSl.at IntKind.i32 g8.b w'6) ∧
∀ (x7 : Bool) (w'7 : World),
x7 = decide (g8.a.xs = g8.b.xs) ∧ Ext w'6 w'7 →
bcase (!x7) (∃ (c : Unit), Value.bool true = Value.bool false ∧ Ext w'1 w'7)
(∃ (g9 : ByteArray),
#[Value.string g.s] = #[Value.string g9] ∧
(U8 w'7 ∧ g9.size ≤ (67108864 : Nat)) ∧
∀ (x8 : Bool) (w'8 : World),
x8 = validB g9 ∧ Ext w'7 w'8 →
bcase x8 (∃ (c : Unit), (Value.bool !x1.toList == g.s.toList) = Value.bool false ∧ Ext w'1 w'8)
(∃ (c : Unit), Value.bool false = Value.bool false ∧ Ext w'1 w'8))))))) ∧
∀ (u : Nat → Value) (c : Unit) (w'2 : World),
Ext w'1 w'2 →
∃ (g3 : ByteArray),
#[Value.string g.s] = #[Value.string g3] ∧
(U8 w'2 ∧ g3.size ≤ (67108864 : Nat)) ∧
∀ (x2 : Option Addr × Nat × Nat) (w'3 : World),
x2.snd.fst = (badL g3).length ∧
Made w'2 w'3 (3 : TypeId) (1 : Nat) x2.fst x2.snd.fst (List.map (Value.int IntKind.i64) (badL g3)) x2.snd.snd →
(∃ (g4 : ByteArray),
#[Value.string g.s] = #[Value.string g4] ∧
(U8 w'3 ∧ g4.size ≤ (67108864 : Nat)) ∧
∀ (x3 : Bool) (w'4 : World),
x3 = validB g4 ∧ Ext w'3 w'4 →
bcase (!x3 == ((↑x2.snd.fst : Int) == (0 : Int))) (∃ (c1 : Unit), Value.bool true = Value.bool false ∧ Ext w'3 w'4)
(∃ (g5 : ByteArray),
#[Value.string g.s] = #[Value.string g5] ∧
(U8 w'4 ∧ g5.size ≤ (67108864 : Nat)) ∧
∀ (x4 : Nat) (w'5 : World),
x4 = cnt g5 ∧ Ext w'4 w'5 →
∃ (c1 : Unit), Value.bool ((↑x.snd.fst : Int) != (↑x4 : Int)) = Value.bool false ∧ Ext w'3 w'5)) ∧
∀ (u1 : Nat → Value) (c1 : Unit) (w'4 : World),
Ext w'3 w'4 →
(∃ (x3 : Nat),
Value.int IntKind.i64 (0 : Int) = Value.int IntKind.i64 (↑x3 : Int) ∧
Value.int IntKind.i64 (0 : Int) = Value.int IntKind.i64 (↑(pos g.s x3) : Int) ∧ x3 ≤ cnt g.s ∧ Ext w'4 w'4) ∧
∀ (u2 : Nat → Value) (x3 : Nat) (w'5 : World),
x3 ≤ cnt g.s ∧ Ext w'4 w'5 →
bcase (decide ((↑x3 : Int) < (↑x.snd.fst : Int)) && decide ((↑x3 : Int) < g.i))
(∃ (k : Nat),
(↑(pos g.s x3) : Int) = (↑k : Int) ∧
k ≤ g.s.size ∧
g.s.size ≤ g.s.size ∧
∃ (g4 : ByteArray),
#[Value.string (g.s.extract k g.s.size)] = #[Value.string g4] ∧
(U8 w'5 ∧ g4.size ≤ (67108864 : Nat)) ∧
∀ (x4 : Int × Nat) (w'6 : World),
x4.fst = nxR g4 ∧ x4.snd = nxN g4 ∧ Ext w'5 w'6 →
InR IntKind.i64 ((↑(pos g.s x3) : Int) + (↑x4.snd : Int)) ∧
InR IntKind.i64 ((↑x3 : Int) + (1 : Int)) ∧
∃ (y : Nat),
Value.int IntKind.i64 ((↑x3 : Int) + (1 : Int)) = Value.int IntKind.i64 (↑y : Int) ∧
Value.int IntKind.i64 ((↑(pos g.s x3) : Int) + (↑x4.snd : Int)) = Value.int IntKind.i64 (↑(pos g.s y) : Int) ∧
(y ≤ cnt g.s ∧ Ext w'4 w'6) ∧ cnt g.s - y < cnt g.s - x3)
(bcase (decide ((↑(pos g.s x3) : Int) > (↑g.s.size : Int)))
(∃ (x4 : Unit), Value.bool false = Value.bool true ∧ Ext w w'5)
(∃ (k : Nat),
(↑(pos g.s x3) : Int) = (↑k : Int) ∧
(0 : Nat) ≤ k ∧
k ≤ g.s.size ∧
∃ (g4 : ByteArray),
#[Value.string (g.s.extract (0 : Nat) k)] = #[Value.string g4] ∧
(U8 w'5 ∧ g4.size ≤ (67108864 : Nat)) ∧
∀ (x4 : Option Addr × Nat × Nat) (w'6 : World),
x4.snd.fst = (runes g4).length ∧
Made w'5 w'6 (21 : TypeId) (1 : Nat) x4.fst x4.snd.fst (List.map (Value.int IntKind.i32) (runes g4)) x4.snd.snd →
∃ (k1 : Nat),
(↑(pos g.s x3) : Int) = (↑k1 : Int) ∧
k1 ≤ g.s.size ∧
g.s.size ≤ g.s.size ∧
∃ (g5 : ByteArray),
#[Value.string (g.s.extract k1 g.s.size)] = #[Value.string g5] ∧
(U8 w'6 ∧ g5.size ≤ (67108864 : Nat)) ∧
∀ (x5 : Option Addr × Nat × Nat) (w'7 : World),
x5.snd.fst = (runes g5).length ∧
Made w'6 w'7 (21 : TypeId) (1 : Nat) x5.fst x5.snd.fst (List.map (Value.int IntKind.i32) (runes g5)) x5.snd.snd →
∀ (w1 : World),
Drew w'7 w1 →
∃ (a' : Option Addr),
∃ (c' : Nat),
∃ (w'8 : World),
AppRun Tryd.prog #[(26 : Nat), (26 : Nat)] (26 : Nat) (Value.slice x4.fst x4.snd.fst x4.snd.snd)
(Value.slice x5.fst x5.snd.fst x5.snd.snd) w1 a' (x4.snd.fst + x5.snd.fst) c' w'8 ∧
KO w1 w'8 ∧
Fr (slN (Value.slice x4.fst x4.snd.fst x4.snd.snd)) w1 w'8 ∧
∃ (g6 : GTwo),
#[Value.slice a' (x4.snd.fst + x5.snd.fst) c', Value.slice x.fst x.snd.fst x.snd.snd] =
#[Value.slice g6.a.ad g6.a.xs.length g6.a.c, Value.slice g6.b.ad g6.b.xs.length g6.b.c] ∧
(GSl.at IntKind.i32 g6.a w'8 ∧ GSl.at IntKind.i32 g6.b w'8) ∧
∀ (x6 : Bool) (w'9 : World),
x6 = decide (g6.a.xs = g6.b.xs) ∧ Ext w'8 w'9 →
bcase x6
(∃ (k2 : Nat),
(↑(pos g.s x3) : Int) = (↑k2 : Int) ∧
(0 : Nat) ≤ k2 ∧
k2 ≤ g.s.size ∧
∃ (k3 : Nat),
(↑(pos g.s x3) : Int) = (↑k3 : Int) ∧
k3 ≤ g.s.size ∧
g.s.size ≤ g.s.size ∧
∃ (g7 : ByteArray),
#[Value.string (g.s.extract (0 : Nat) k2)] = #[Value.string g7] ∧
(U8 w'9 ∧ g7.size ≤ (67108864 : Nat)) ∧
∀ (x7 : Nat) (w'10 : World),
x7 = cnt g7 ∧ Ext w'9 w'10 →
Fr (slN (Value.slice x4.fst x4.snd.fst x4.snd.snd)) w'9 w'10 ∧
∃ (g8 : ByteArray),
#[Value.string (g.s.extract k3 g.s.size)] = #[Value.string g8] ∧
(U8 w'10 ∧ g8.size ≤ (67108864 : Nat)) ∧
∀ (x8 : Nat) (w'11 : World),
x8 = cnt g8 ∧ Ext w'10 w'11 →
Fr (slN (Value.slice x4.fst x4.snd.fst x4.snd.snd)) w'10 w'11 ∧
InR IntKind.i64 ((↑x7 : Int) + (↑x8 : Int)) ∧
bcase ((↑x7 : Int) + (↑x8 : Int) == (↑x.snd.fst : Int))
(∃ (g9 : Unit),
(#[] : Array Value) = #[] ∧
U8 w'11 ∧ ∀ (x9 : Unit) (w'12 : World), Ext w'11 w'12 → ∃ (x10 : Unit), Value.bool true = Value.bool true ∧ Ext w w'12)
(∃ (x9 : Unit), Value.bool false = Value.bool true ∧ Ext w w'11))
(∃ (x7 : Unit), Value.bool false = Value.bool true ∧ Ext w w'9)))) :
    (sLawSI).Ok Tryd.prog 10 :=
  ok_of_vc sLawSI annParts spParts (fun _ _ => rfl) (fun _ _ => rfl) hsp Tryd.func10 rfl (n := 2) (fun _ => rfl) (by kernel_rfl) (vcast (by kernel_rfl) h)

end Go.Proofs.YthkcphnkllnfcaaDoor
