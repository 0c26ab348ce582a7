/-
  Verification conditions, printed by a program out of the specifications beside this text: each theorem says that the condition suffices. (Lean's kernel compares the printed condition with what 'wpE' computes.)
-/
import Derived.Test.YtliihpdhoimmoaaSpE
import Derived.Test.YtliihpdhoimmoaaProg
import Derived.KernelRfl
set_option linter.unusedVariables false
namespace Go.Proofs.Ytliihpdhoimmoaa
open Go Go.RowKit Vc Tb

set_option maxRecDepth 1000000 in
theorem back_vc (hsp : SpecsOk Try.prog spBack) (h : ∀ (g : GSl) (w : World),
GSl.at IntKind.i32 g w ∧ g.xs.length ≤ (2097152 : Nat) →
∃ (g1 : Unit),
(#[] : Array Value) = #[] ∧
True ∧
∀ (x : Unit) (w' : World),
Ext w w' →
∃ (g2 : GSl),
#[Value.slice g.ad g.xs.length g.c] = #[Value.slice g2.ad g2.xs.length g2.c] ∧
GSl.at IntKind.i32 g2 w' ∧
∀ (x1 : Option Addr × Nat × Nat) (w'1 : World),
x1.snd.fst = (shapedR g2.xs).length ∧
Made w' w'1 (21 : TypeId) (1 : Nat) x1.fst x1.snd.fst (List.map (Value.int IntKind.i32) (shapedR g2.xs)) x1.snd.snd →
bcase ((↑x1.snd.fst : Int) != (↑g.xs.length : Int)) (∃ (x2 : Unit), Value.bool false = Value.bool true ∧ Ext w w'1)
(∃ (g3 : GSl),
#[Value.slice x1.fst x1.snd.fst x1.snd.snd] = #[Value.slice g3.ad g3.xs.length g3.c] ∧
(GSl.at IntKind.i32 g3 w'1 ∧ g3.xs.length ≤ (4194304 : Nat)) ∧
∀ (x2 : Option Addr × Nat × Nat) (w'2 : World),
x2.snd.fst = (List.flatMap plainR g3.xs).length ∧
Made w'1 w'2 (21 : TypeId) (1 : Nat) x2.fst x2.snd.fst (List.map (Value.int IntKind.i32) (List.flatMap plainR g3.xs))
x2.snd.snd →
∃ (g4 : GSl),
#[Value.slice g.ad g.xs.length g.c] = #[Value.slice g4.ad g4.xs.length g4.c] ∧
(GSl.at IntKind.i32 g4 w'2 ∧ g4.xs.length ≤ (4194304 : Nat)) ∧
∀ (x3 : Option Addr × Nat × Nat) (w'3 : World),
x3.snd.fst = (List.flatMap plainR g4.xs).length ∧
Made w'2 w'3 (21 : TypeId) (1 : Nat) x3.fst x3.snd.fst (List.map (Value.int IntKind.i32) (List.flatMap plainR g4.xs))
x3.snd.snd →
∃ (g5 : GTwo),
#[Value.slice x2.fst x2.snd.fst x2.snd.snd, Value.slice x3.fst x3.snd.fst x3.snd.snd] =
#[Value.slice g5.a.ad g5.a.xs.length g5.a.c, Value.slice g5.b.ad g5.b.xs.length g5.b.c] ∧
(GSl.at IntKind.i32 g5.a w'3 ∧ GSl.at IntKind.i32 g5.b w'3) ∧
∀ (x4 : Bool) (w'4 : World),
x4 = decide (g5.a.xs = g5.b.xs) ∧ Ext w'3 w'4 →
bcase (!x4) (∃ (x5 : Unit), Value.bool false = Value.bool true ∧ Ext w w'4)
((∃ (x5 : Nat),
Value.int IntKind.i64 (0 : Int) = Value.int IntKind.i64 (↑x5 : Int) ∧
x5 ≤ g.xs.length ∧
Ext w w'4 ∧
∃ (a6 : Option Addr),
∃ (c : Nat),
Value.slice x1.fst x1.snd.fst x1.snd.snd = Value.slice a6 g.xs.length c ∧
CellsAt w'4 a6 (List.map (Value.int IntKind.i32) (shapedR g.xs))) ∧
∀ (u : Nat → Value) (x5 : Nat) (w'5 : World),
(x5 ≤ g.xs.length ∧
Ext w w'5 ∧
∃ (a6 : Option Addr),
∃ (c : Nat),
Value.slice x1.fst x1.snd.fst x1.snd.snd = Value.slice a6 g.xs.length c ∧
CellsAt w'5 a6 (List.map (Value.int IntKind.i32) (shapedR g.xs))) →
bcase (decide ((↑x5 : Int) < (↑g.xs.length : Int)))
(∀ (w1 : World),
Drew w'5 w1 →
∃ (k : Nat),
(↑x5 : Int) = (↑k : Int) ∧
k < x1.snd.fst ∧
ptrE x1.fst fun (b o : Nat) =>
∃ (n : Int),
w'5.cell? { block := b, off := o + k } = some (Value.int IntKind.i32 n) ∧
∃ (k1 : Nat),
(↑x5 : Int) = (↑k1 : Int) ∧
k1 < g.xs.length ∧
ptrE g.ad fun (b1 o1 : Nat) =>
∃ (n1 : Int),
w'5.cell? { block := b1, off := o1 + k1 } = some (Value.int IntKind.i32 n1) ∧
bcase (n != n1)
(∃ (k2 : Nat),
(↑x5 : Int) = (↑k2 : Int) ∧
k2 < g.xs.length ∧
ptrE g.ad fun (b2 o2 : Nat) =>
∃ (n2 : Int),
w'5.cell? { block := b2, off := o2 + k2 } = some (Value.int IntKind.i32 n2) ∧
∃ (g6 : Int),
#[Value.int IntKind.i32 n2] = #[Value.int IntKind.i32 g6] ∧
True ∧
∀ (x6 : Int) (w'6 : World),
x6 = joinR g6 ∧ Ext w1 w'6 →
bcase (x6 == (3 : Int)) (∃ (x7 : Unit), Value.bool false = Value.bool true ∧ Ext w w'6)
(∃ (k3 : Nat),
(↑x5 : Int) = (↑k3 : Int) ∧
k3 < g.xs.length ∧
ptrE g.ad fun (b3 o3 : Nat) =>
∃ (n3 : Int),
w'6.cell? { block := b3, off := o3 + k3 } = some (Value.int IntKind.i32 n3) ∧
∃ (g7 : Int),
#[Value.int IntKind.i32 n3] = #[Value.int IntKind.i32 g7] ∧
True ∧
∀ (x7 : Int) (w'7 : World),
x7 = joinR g7 ∧ Ext w'6 w'7 →
bcase (x7 == (4 : Int)) (∃ (x8 : Unit), Value.bool false = Value.bool true ∧ Ext w w'7)
(InR IntKind.i64 ((↑x5 : Int) + (1 : Int)) ∧
∃ (y : Nat),
Value.int IntKind.i64 ((↑x5 : Int) + (1 : Int)) = Value.int IntKind.i64 (↑y : Int) ∧
(y ≤ g.xs.length ∧
Ext w w'7 ∧
∃ (a10 : Option Addr),
∃ (c : Nat),
Value.slice x1.fst x1.snd.fst x1.snd.snd = Value.slice a10 g.xs.length c ∧
CellsAt w'7 a10 (List.map (Value.int IntKind.i32) (shapedR g.xs))) ∧
g.xs.length - y < g.xs.length - x5)))
(InR IntKind.i64 ((↑x5 : Int) + (1 : Int)) ∧
∃ (y : Nat),
Value.int IntKind.i64 ((↑x5 : Int) + (1 : Int)) = Value.int IntKind.i64 (↑y : Int) ∧
(y ≤ g.xs.length ∧
Ext w w1 ∧
∃ (a8 : Option Addr),
∃ (c : Nat),
Value.slice x1.fst x1.snd.fst x1.snd.snd = Value.slice a8 g.xs.length c ∧
CellsAt w1 a8 (List.map (Value.int IntKind.i32) (shapedR g.xs))) ∧
g.xs.length - y < g.xs.length - x5))
(∃ (g6 : GSl),
#[Value.slice g.ad g.xs.length g.c] = #[Value.slice g6.ad g6.xs.length g6.c] ∧
(GSl.at IntKind.i32 g6 w'5 ∧ g6.xs.length ≤ (4194304 : Nat)) ∧
∀ (x6 : Option Addr × Nat × Nat) (w'6 : World),
x6.snd.fst = (List.flatMap plainR g6.xs).length ∧
Made w'5 w'6 (21 : TypeId) (1 : Nat) x6.fst x6.snd.fst (List.map (Value.int IntKind.i32) (List.flatMap plainR g6.xs))
x6.snd.snd →
∃ (g7 : GSl),
#[Value.slice x6.fst x6.snd.fst x6.snd.snd] = #[Value.slice g7.ad g7.xs.length g7.c] ∧
GSl.at IntKind.i32 g7 w'6 ∧
∀ (x7 : Option Addr × Nat × Nat) (w'7 : World),
x7.snd.fst = (shapedR g7.xs).length ∧
Made w'6 w'7 (21 : TypeId) (1 : Nat) x7.fst x7.snd.fst (List.map (Value.int IntKind.i32) (shapedR g7.xs)) x7.snd.snd →
∃ (g8 : GSl),
#[Value.slice x7.fst x7.snd.fst x7.snd.snd] = #[Value.slice g8.ad g8.xs.length g8.c] ∧
(GSl.at IntKind.i32 g8 w'7 ∧ g8.xs.length ≤ (4194304 : Nat)) ∧
∀ (x8 : Option Addr × Nat × Nat) (w'8 : World),
x8.snd.fst = (List.flatMap plainR g8.xs).length ∧
Made w'7 w'8 (21 : TypeId) (1 : Nat) x8.fst x8.snd.fst (List.map (Value.int IntKind.i32) (List.flatMap plainR g8.xs))
x8.snd.snd →
∃ (g9 : GTwo),
#[Value.slice x8.fst x8.snd.fst x8.snd.snd, Value.slice x6.fst x6.snd.fst x6.snd.snd] =
#[Value.slice g9.a.ad g9.a.xs.length g9.a.c, Value.slice g9.b.ad g9.b.xs.length g9.b.c] ∧
(GSl.at IntKind.i32 g9.a w'8 ∧ GSl.at IntKind.i32 g9.b w'8) ∧
∀ (x9 : Bool) (w'9 : World),
x9 = decide (g9.a.xs = g9.b.xs) ∧ Ext w'8 w'9 → ∃ (x10 : Unit), Value.bool x9 = Value.bool true ∧ Ext w w'9)))) :
    (sLawU).Ok Try.prog 6 :=
  ok_of_vc sLawU annBack spBack (fun _ _ => rfl) (fun _ _ => rfl) hsp Try.func6 rfl (n := 1) (fun _ => rfl) (by kernel_rfl) (vcast (by kernel_rfl) h)

set_option maxRecDepth 1000000 in
theorem marks_vc (hsp : SpecsOk Try.prog spMarks) (h : ∀ (g : GMarks) (w : World),
GSl.at IntKind.i32 g.l w ∧
GSl.at IntKind.i64 g.at' w ∧ g.l.xs.length ≤ (1048576 : Nat) ∧ g.at'.xs.length ≤ (1048576 : Nat) →
∃ (g1 : Unit),
(#[] : Array Value) = #[] ∧
True ∧
∀ (x : Unit) (w' : World),
Ext w w' →
(∃ (g2 : Int),
#[Value.int IntKind.i32 g.mark] = #[Value.int IntKind.i32 g2] ∧
True ∧
∀ (x1 : Int) (w'1 : World),
x1 = joinR g2 ∧ Ext w' w'1 →
bcase (x1 != (4 : Int)) (∃ (c : Unit), Value.int IntKind.i32 (1611 : Int) = Value.int IntKind.i32 g.m ∧ Ext w' w'1)
(∃ (c : Unit), Value.int IntKind.i32 g.mark = Value.int IntKind.i32 g.m ∧ Ext w' w'1)) ∧
∀ (u : Nat → Value) (c : Unit) (w'1 : World),
Ext w' w'1 →
∃ (g2 : GSl),
#[Value.slice g.l.ad g.l.xs.length g.l.c] = #[Value.slice g2.ad g2.xs.length g2.c] ∧
GSl.at IntKind.i32 g2 w'1 ∧
∀ (x1 : Option Addr × Nat × Nat) (w'2 : World),
x1.snd.fst = (formsR g2.xs).length ∧
Made w'1 w'2 (27 : TypeId) (1 : Nat) x1.fst x1.snd.fst (List.map (Value.int IntKind.i8) (formsR g2.xs)) x1.snd.snd →
(∃ (x2 : SM),
Value.int IntKind.i64 (0 : Int) = Value.int IntKind.i64 (↑x2.i : Int) ∧
Value.slice none (0 : Nat) (0 : Nat) = Value.slice x2.wa (wL g x2.i).length x2.wc ∧
Value.slice none (0 : Nat) (0 : Nat) = Value.slice x2.oa (ownL g x2.i).length x2.oc ∧
x2.i ≤ g.l.xs.length + (1 : Nat) ∧ TwoRows g w'2 w'2 x2.i x2.wa (wL g x2.i) x2.wc x2.oa x2.oc) ∧
∀ (u1 : Nat → Value) (x2 : SM) (w'3 : World),
x2.i ≤ g.l.xs.length + (1 : Nat) ∧ TwoRows g w'2 w'3 x2.i x2.wa (wL g x2.i) x2.wc x2.oa x2.oc →
bcase (decide ((↑x2.i : Int) ≤ (↑g.l.xs.length : Int)))
((∃ (x3 : Nat × Option Addr × Nat),
Value.int IntKind.i64 (0 : Int) = Value.int IntKind.i64 (↑x3.fst : Int) ∧
Value.slice x2.wa (wL g x2.i).length x2.wc =
Value.slice x3.snd.fst (wJ g (↑x2.i : Int).toNat x3.fst).length x3.snd.snd ∧
x3.fst ≤ g.at'.xs.length ∧
∃ (i : Nat),
∃ (oa : Option Addr),
∃ (oc : Nat),
∃ (wa : Option Addr),
∃ (wc : Nat),
(↑x2.i : Int) = (↑i : Int) ∧
Value.slice x2.oa (ownL g x2.i).length x2.oc = Value.slice oa (ownL g i).length oc ∧
Value.slice x2.wa (wL g x2.i).length x2.wc = Value.slice wa (wL g i).length wc ∧
∀ (W2 : World),
TwoRows g W2 w'3 i wa (wL g i) wc oa oc → TwoRows g W2 w'3 i x3.snd.fst (wJ g i x3.fst) x3.snd.snd oa oc) ∧
∀ (u2 : Nat → Value) (x3 : Nat × Option Addr × Nat) (w'4 : World),
(x3.fst ≤ g.at'.xs.length ∧
∃ (i : Nat),
∃ (oa : Option Addr),
∃ (oc : Nat),
∃ (wa : Option Addr),
∃ (wc : Nat),
(↑x2.i : Int) = (↑i : Int) ∧
Value.slice x2.oa (ownL g x2.i).length x2.oc = Value.slice oa (ownL g i).length oc ∧
Value.slice x2.wa (wL g x2.i).length x2.wc = Value.slice wa (wL g i).length wc ∧
∀ (W2 : World),
TwoRows g W2 w'3 i wa (wL g i) wc oa oc → TwoRows g W2 w'4 i x3.snd.fst (wJ g i x3.fst) x3.snd.snd oa oc) →
bcase (decide ((↑x3.fst : Int) < (↑g.at'.xs.length : Int)))
(∃ (k : Nat),
(↑x3.fst : Int) = (↑k : Int) ∧
k < g.at'.xs.length ∧
ptrE g.at'.ad fun (b o : Nat) =>
∃ (n : Int),
w'4.cell? { block := b, off := o + k } = some (Value.int IntKind.i64 n) ∧
bcase (n == (↑x2.i : Int))
(∀ (b1 : Nat) (w1 : World),
New w'4 (Obj.cells #[Value.int IntKind.i32 g.m] (21 : Nat)) b1 w1 →
∃ (a' : Option Addr),
∃ (c' : Nat),
∃ (w'5 : World),
AppRun Try.prog #[(22 : Nat), (22 : Nat)] (22 : Nat)
(Value.slice x3.snd.fst (wJ g (↑x2.i : Int).toNat x3.fst).length x3.snd.snd)
(Value.slice (some { block := b1, off := (0 : Nat) }) (1 : Nat) (1 : Nat)) w1 a'
((wJ g (↑x2.i : Int).toNat x3.fst).length + (1 : Nat)) c' w'5 ∧
KO w1 w'5 ∧
InR IntKind.i64 ((↑x3.fst : Int) + (1 : Int)) ∧
∃ (y : Nat × Option Addr × Nat),
Value.int IntKind.i64 ((↑x3.fst : Int) + (1 : Int)) = Value.int IntKind.i64 (↑y.fst : Int) ∧
Value.slice a' ((wJ g (↑x2.i : Int).toNat x3.fst).length + (1 : Nat)) c' =
Value.slice y.snd.fst (wJ g (↑x2.i : Int).toNat y.fst).length y.snd.snd ∧
(y.fst ≤ g.at'.xs.length ∧
∃ (i : Nat),
∃ (oa : Option Addr),
∃ (oc : Nat),
∃ (wa : Option Addr),
∃ (wc : Nat),
(↑x2.i : Int) = (↑i : Int) ∧
Value.slice x2.oa (ownL g x2.i).length x2.oc = Value.slice oa (ownL g i).length oc ∧
Value.slice x2.wa (wL g x2.i).length x2.wc = Value.slice wa (wL g i).length wc ∧
∀ (W2 : World), TwoRows g W2 w'3 i wa (wL g i) wc oa oc → TwoRows g W2 w'5 i y.snd.fst (wJ g i y.fst) y.snd.snd oa oc) ∧
g.at'.xs.length - y.fst < g.at'.xs.length - x3.fst)
(InR IntKind.i64 ((↑x3.fst : Int) + (1 : Int)) ∧
∃ (y : Nat × Option Addr × Nat),
Value.int IntKind.i64 ((↑x3.fst : Int) + (1 : Int)) = Value.int IntKind.i64 (↑y.fst : Int) ∧
Value.slice x3.snd.fst (wJ g (↑x2.i : Int).toNat x3.fst).length x3.snd.snd =
Value.slice y.snd.fst (wJ g (↑x2.i : Int).toNat y.fst).length y.snd.snd ∧
(y.fst ≤ g.at'.xs.length ∧
∃ (i : Nat),
∃ (oa : Option Addr),
∃ (oc : Nat),
∃ (wa : Option Addr),
∃ (wc : Nat),
(↑x2.i : Int) = (↑i : Int) ∧
Value.slice x2.oa (ownL g x2.i).length x2.oc = Value.slice oa (ownL g i).length oc ∧
Value.slice x2.wa (wL g x2.i).length x2.wc = Value.slice wa (wL g i).length wc ∧
∀ (W2 : World), TwoRows g W2 w'3 i wa (wL g i) wc oa oc → TwoRows g W2 w'4 i y.snd.fst (wJ g i y.fst) y.snd.snd oa oc) ∧
g.at'.xs.length - y.fst < g.at'.xs.length - x3.fst))
(bcase (decide ((↑x2.i : Int) < (↑g.l.xs.length : Int)))
(∀ (b : Nat) (w1 : World),
New w'4 (Obj.cells #[Value.int IntKind.i64 (↑(wJ g (↑x2.i : Int).toNat x3.fst).length : Int)] (3 : Nat)) b w1 →
∃ (a' : Option Addr),
∃ (c' : Nat),
∃ (w'5 : World),
AppRun Try.prog #[(37 : Nat), (37 : Nat)] (37 : Nat) (Value.slice x2.oa (ownL g x2.i).length x2.oc)
(Value.slice (some { block := b, off := (0 : Nat) }) (1 : Nat) (1 : Nat)) w1 a' ((ownL g x2.i).length + (1 : Nat)) c'
w'5 ∧
KO w1 w'5 ∧
∃ (k : Nat),
(↑x2.i : Int) = (↑k : Int) ∧
k < g.l.xs.length ∧
ptrE g.l.ad fun (b1 o : Nat) =>
∃ (n : Int),
w'5.cell? { block := b1, off := o + k } = some (Value.int IntKind.i32 n) ∧
∀ (b2 : Nat) (w11 : World),
New w'5 (Obj.cells #[Value.int IntKind.i32 n] (21 : Nat)) b2 w11 →
∃ (a'1 : Option Addr),
∃ (c'1 : Nat),
∃ (w'6 : World),
AppRun Try.prog #[(22 : Nat), (22 : Nat)] (22 : Nat)
(Value.slice x3.snd.fst (wJ g (↑x2.i : Int).toNat x3.fst).length x3.snd.snd)
(Value.slice (some { block := b2, off := (0 : Nat) }) (1 : Nat) (1 : Nat)) w11 a'1
((wJ g (↑x2.i : Int).toNat x3.fst).length + (1 : Nat)) c'1 w'6 ∧
KO w11 w'6 ∧
InR IntKind.i64 ((↑x2.i : Int) + (1 : Int)) ∧
∃ (y : SM),
Value.int IntKind.i64 ((↑x2.i : Int) + (1 : Int)) = Value.int IntKind.i64 (↑y.i : Int) ∧
Value.slice a'1 ((wJ g (↑x2.i : Int).toNat x3.fst).length + (1 : Nat)) c'1 = Value.slice y.wa (wL g y.i).length y.wc ∧
Value.slice a' ((ownL g x2.i).length + (1 : Nat)) c' = Value.slice y.oa (ownL g y.i).length y.oc ∧
(y.i ≤ g.l.xs.length + (1 : Nat) ∧ TwoRows g w'2 w'6 y.i y.wa (wL g y.i) y.wc y.oa y.oc) ∧
g.l.xs.length + (1 : Nat) - y.i < g.l.xs.length + (1 : Nat) - x2.i)
(InR IntKind.i64 ((↑x2.i : Int) + (1 : Int)) ∧
∃ (y : SM),
Value.int IntKind.i64 ((↑x2.i : Int) + (1 : Int)) = Value.int IntKind.i64 (↑y.i : Int) ∧
Value.slice x3.snd.fst (wJ g (↑x2.i : Int).toNat x3.fst).length x3.snd.snd = Value.slice y.wa (wL g y.i).length y.wc ∧
Value.slice x2.oa (ownL g x2.i).length x2.oc = Value.slice y.oa (ownL g y.i).length y.oc ∧
(y.i ≤ g.l.xs.length + (1 : Nat) ∧ TwoRows g w'2 w'4 y.i y.wa (wL g y.i) y.wc y.oa y.oc) ∧
g.l.xs.length + (1 : Nat) - y.i < g.l.xs.length + (1 : Nat) - x2.i)))
(∃ (g3 : GSl),
#[Value.slice x2.wa (wL g x2.i).length x2.wc] = #[Value.slice g3.ad g3.xs.length g3.c] ∧
GSl.at IntKind.i32 g3 w'3 ∧
∀ (x3 : Option Addr × Nat × Nat) (w'4 : World),
x3.snd.fst = (formsR g3.xs).length ∧
Made w'3 w'4 (27 : TypeId) (1 : Nat) x3.fst x3.snd.fst (List.map (Value.int IntKind.i8) (formsR g3.xs)) x3.snd.snd →
bcase ((↑x3.snd.fst : Int) != (↑(wL g x2.i).length : Int) || (↑x1.snd.fst : Int) != (↑g.l.xs.length : Int))
(∃ (x4 : Unit), Value.bool false = Value.bool true ∧ Ext w w'4)
((∃ (x4 : Nat),
Value.int IntKind.i64 (0 : Int) = Value.int IntKind.i64 (↑x4 : Int) ∧ x4 ≤ g.l.xs.length ∧ Ext w'4 w'4) ∧
∀ (u2 : Nat → Value) (x4 : Nat) (w'5 : World),
x4 ≤ g.l.xs.length ∧ Ext w'4 w'5 →
bcase (decide ((↑x4 : Int) < (↑g.l.xs.length : Int)))
(∀ (w1 : World),
Drew w'5 w1 →
∃ (k : Nat),
(↑x4 : Int) = (↑k : Int) ∧
k < (ownL g x2.i).length ∧
ptrE x2.oa fun (b o : Nat) =>
∃ (n : Int),
w'5.cell? { block := b, off := o + k } = some (Value.int IntKind.i64 n) ∧
∃ (k1 : Nat),
n = (↑k1 : Int) ∧
k1 < x3.snd.fst ∧
ptrE x3.fst fun (b1 o1 : Nat) =>
∃ (n1 : Int),
w'5.cell? { block := b1, off := o1 + k1 } = some (Value.int IntKind.i8 n1) ∧
∃ (k2 : Nat),
(↑x4 : Int) = (↑k2 : Int) ∧
k2 < x1.snd.fst ∧
ptrE x1.fst fun (b2 o2 : Nat) =>
∃ (n2 : Int),
w'5.cell? { block := b2, off := o2 + k2 } = some (Value.int IntKind.i8 n2) ∧
bcase (n1 != n2) (∃ (x5 : Unit), Value.bool false = Value.bool true ∧ Ext w w1)
(InR IntKind.i64 ((↑x4 : Int) + (1 : Int)) ∧
∃ (y : Nat),
Value.int IntKind.i64 ((↑x4 : Int) + (1 : Int)) = Value.int IntKind.i64 (↑y : Int) ∧
(y ≤ g.l.xs.length ∧ Ext w'4 w1) ∧ g.l.xs.length - y < g.l.xs.length - x4))
((∃ (x5 : Nat),
Value.int IntKind.i64 (0 : Int) = Value.int IntKind.i64 (↑x5 : Int) ∧
x5 ≤ (wL g (g.l.xs.length + (1 : Nat))).length ∧ Ext w'5 w'5) ∧
∀ (u3 : Nat → Value) (x5 : Nat) (w'6 : World),
x5 ≤ (wL g (g.l.xs.length + (1 : Nat))).length ∧ Ext w'5 w'6 →
bcase (decide ((↑x5 : Int) < (↑(wL g x2.i).length : Int)))
(∃ (k : Nat),
(↑x5 : Int) = (↑k : Int) ∧
k < (wL g x2.i).length ∧
ptrE x2.wa fun (b o : Nat) =>
∃ (n : Int),
w'6.cell? { block := b, off := o + k } = some (Value.int IntKind.i32 n) ∧
bcase (n == g.m)
(∃ (k1 : Nat),
(↑x5 : Int) = (↑k1 : Int) ∧
k1 < x3.snd.fst ∧
ptrE x3.fst fun (b1 o1 : Nat) =>
∃ (n1 : Int),
w'6.cell? { block := b1, off := o1 + k1 } = some (Value.int IntKind.i8 n1) ∧
bcase (n1 != (0 : Int)) (∃ (x6 : Unit), Value.bool false = Value.bool true ∧ Ext w w'6)
(InR IntKind.i64 ((↑x5 : Int) + (1 : Int)) ∧
∃ (y : Nat),
Value.int IntKind.i64 ((↑x5 : Int) + (1 : Int)) = Value.int IntKind.i64 (↑y : Int) ∧
(y ≤ (wL g (g.l.xs.length + (1 : Nat))).length ∧ Ext w'5 w'6) ∧
(wL g (g.l.xs.length + (1 : Nat))).length - y < (wL g (g.l.xs.length + (1 : Nat))).length - x5))
(InR IntKind.i64 ((↑x5 : Int) + (1 : Int)) ∧
∃ (y : Nat),
Value.int IntKind.i64 ((↑x5 : Int) + (1 : Int)) = Value.int IntKind.i64 (↑y : Int) ∧
(y ≤ (wL g (g.l.xs.length + (1 : Nat))).length ∧ Ext w'5 w'6) ∧
(wL g (g.l.xs.length + (1 : Nat))).length - y < (wL g (g.l.xs.length + (1 : Nat))).length - x5))
(∃ (x6 : Unit), Value.bool true = Value.bool true ∧ Ext w w'6))))) :
    (sLawMarks).Ok Try.prog 7 :=
  ok_of_vc sLawMarks annMarks spMarks (fun _ _ => rfl) (fun _ _ => rfl) hsp Try.func7 rfl (n := 3) (fun _ => rfl) (by kernel_rfl) (vcast (by kernel_rfl) h)

set_option maxRecDepth 1000000 in
theorem mutual_vc (hsp : SpecsOk Try.prog spMutual) (h : ∀ (g : GSl) (w : World),
GSl.at IntKind.i32 g w →
∃ (g1 : Unit),
(#[] : Array Value) = #[] ∧
True ∧
∀ (x : Unit) (w' : World),
Ext w w' →
∃ (g2 : GSl),
#[Value.slice g.ad g.xs.length g.c] = #[Value.slice g2.ad g2.xs.length g2.c] ∧
GSl.at IntKind.i32 g2 w' ∧
∀ (x1 : Option Addr × Nat × Nat) (w'1 : World),
x1.snd.fst = (formsR g2.xs).length ∧
Made w' w'1 (27 : TypeId) (1 : Nat) x1.fst x1.snd.fst (List.map (Value.int IntKind.i8) (formsR g2.xs)) x1.snd.snd →
bcase ((↑x1.snd.fst : Int) != (↑g.xs.length : Int)) (∃ (x2 : Unit), Value.bool false = Value.bool true ∧ Ext w w'1)
((∃ (x2 : Nat),
Value.int IntKind.i64 (0 : Int) = Value.int IntKind.i64 (↑x2 : Int) ∧
Value.int IntKind.i64 (-1 : Int) = Value.int IntKind.i64 (Tb.lastR g.xs x2) ∧
x2 ≤ g.xs.length ∧
Ext w w'1 ∧
∃ (a3 : Option Addr),
∃ (c : Nat),
Value.slice x1.fst x1.snd.fst x1.snd.snd = Value.slice a3 g.xs.length c ∧
CellsAt w'1 a3 (List.map (Value.int IntKind.i8) (formsR g.xs))) ∧
∀ (u : Nat → Value) (x2 : Nat) (w'2 : World),
(x2 ≤ g.xs.length ∧
Ext w w'2 ∧
∃ (a3 : Option Addr),
∃ (c : Nat),
Value.slice x1.fst x1.snd.fst x1.snd.snd = Value.slice a3 g.xs.length c ∧
CellsAt w'2 a3 (List.map (Value.int IntKind.i8) (formsR g.xs))) →
bcase (decide ((↑x2 : Int) < (↑g.xs.length : Int)))
(∃ (k : Nat),
(↑x2 : Int) = (↑k : Int) ∧
k < g.xs.length ∧
ptrE g.ad fun (b o : Nat) =>
∃ (n : Int),
w'2.cell? { block := b, off := o + k } = some (Value.int IntKind.i32 n) ∧
∃ (g3 : Int),
#[Value.int IntKind.i32 n] = #[Value.int IntKind.i32 g3] ∧
True ∧
∀ (x3 : Int) (w'3 : World),
x3 = joinR g3 ∧ Ext w'2 w'3 →
(∃ (c : Unit),
Value.bool (x3 == (1 : Int) || x3 == (2 : Int)) = Value.bool (decide (x3 = (1 : Int) ∨ x3 = (2 : Int))) ∧ w'3 = w'3) ∧
∀ (u1 : Nat → Value) (c : Unit) (w'4 : World),
w'4 = w'3 →
(∃ (k1 : Nat),
(↑x2 : Int) = (↑k1 : Int) ∧
k1 < x1.snd.fst ∧
ptrE x1.fst fun (b1 o1 : Nat) =>
∃ (n1 : Int),
w'4.cell? { block := b1, off := o1 + k1 } = some (Value.int IntKind.i8 n1) ∧
bcase (decide (n1 < (0 : Int))) (∃ (c1 : Unit), Value.bool true = Value.bool false ∧ w'4 = w'4)
(∃ (k2 : Nat),
(↑x2 : Int) = (↑k2 : Int) ∧
k2 < x1.snd.fst ∧
ptrE x1.fst fun (b2 o2 : Nat) =>
∃ (n2 : Int),
w'4.cell? { block := b2, off := o2 + k2 } = some (Value.int IntKind.i8 n2) ∧
bcase (decide (n2 > (3 : Int))) (∃ (c1 : Unit), Value.bool true = Value.bool false ∧ w'4 = w'4)
(∃ (k3 : Nat),
(↑x2 : Int) = (↑k3 : Int) ∧
k3 < x1.snd.fst ∧
ptrE x1.fst fun (b3 o3 : Nat) =>
∃ (n3 : Int),
w'4.cell? { block := b3, off := o3 + k3 } = some (Value.int IntKind.i8 n3) ∧
bcase (n3 != (0 : Int))
(bcase (!decide (x3 = (1 : Int) ∨ x3 = (2 : Int))) (∃ (c1 : Unit), Value.bool true = Value.bool false ∧ w'4 = w'4)
(bcase (x3 == (1 : Int))
(∃ (k4 : Nat),
(↑x2 : Int) = (↑k4 : Int) ∧
k4 < x1.snd.fst ∧
ptrE x1.fst fun (b4 o4 : Nat) =>
∃ (n4 : Int),
w'4.cell? { block := b4, off := o4 + k4 } = some (Value.int IntKind.i8 n4) ∧
bcase (n4 == (1 : Int)) (∃ (c1 : Unit), Value.bool true = Value.bool false ∧ w'4 = w'4)
(∃ (k5 : Nat),
(↑x2 : Int) = (↑k5 : Int) ∧
k5 < x1.snd.fst ∧
ptrE x1.fst fun (b5 o5 : Nat) =>
∃ (n5 : Int),
w'4.cell? { block := b5, off := o5 + k5 } = some (Value.int IntKind.i8 n5) ∧
∃ (c1 : Unit), Value.bool (n5 == (2 : Int)) = Value.bool false ∧ w'4 = w'4))
(∃ (c1 : Unit), Value.bool false = Value.bool false ∧ w'4 = w'4)))
(bcase (x3 == (1 : Int))
(∃ (k4 : Nat),
(↑x2 : Int) = (↑k4 : Int) ∧
k4 < x1.snd.fst ∧
ptrE x1.fst fun (b4 o4 : Nat) =>
∃ (n4 : Int),
w'4.cell? { block := b4, off := o4 + k4 } = some (Value.int IntKind.i8 n4) ∧
bcase (n4 == (1 : Int)) (∃ (c1 : Unit), Value.bool true = Value.bool false ∧ w'4 = w'4)
(∃ (k5 : Nat),
(↑x2 : Int) = (↑k5 : Int) ∧
k5 < x1.snd.fst ∧
ptrE x1.fst fun (b5 o5 : Nat) =>
∃ (n5 : Int),
w'4.cell? { block := b5, off := o5 + k5 } = some (Value.int IntKind.i8 n5) ∧
∃ (c1 : Unit), Value.bool (n5 == (2 : Int)) = Value.bool false ∧ w'4 = w'4))
(∃ (c1 : Unit), Value.bool false = Value.bool false ∧ w'4 = w'4))))) ∧
∀ (u2 : Nat → Value) (c1 : Unit) (w'5 : World),
w'5 = w'4 →
bcase (x3 == (4 : Int))
(InR IntKind.i64 ((↑x2 : Int) + (1 : Int)) ∧
∃ (y : Nat),
Value.int IntKind.i64 ((↑x2 : Int) + (1 : Int)) = Value.int IntKind.i64 (↑y : Int) ∧
Value.int IntKind.i64 (Tb.lastR g.xs x2) = Value.int IntKind.i64 (Tb.lastR g.xs y) ∧
(y ≤ g.xs.length ∧
Ext w w'5 ∧
∃ (a7 : Option Addr),
∃ (c2 : Nat),
Value.slice x1.fst x1.snd.fst x1.snd.snd = Value.slice a7 g.xs.length c2 ∧
CellsAt w'5 a7 (List.map (Value.int IntKind.i8) (formsR g.xs))) ∧
g.xs.length - y < g.xs.length - x2)
((∃ (k1 : Nat),
(↑x2 : Int) = (↑k1 : Int) ∧
k1 < x1.snd.fst ∧
ptrE x1.fst fun (b1 o1 : Nat) =>
∃ (n1 : Int),
w'5.cell? { block := b1, off := o1 + k1 } = some (Value.int IntKind.i8 n1) ∧
bcase (n1 == (3 : Int))
(∃ (c2 : Unit),
Value.bool true =
Value.bool
(decide
((formsR g.xs).getD (↑x2 : Int).toNat (0 : Int) = (3 : Int) ∨
(formsR g.xs).getD (↑x2 : Int).toNat (0 : Int) = (2 : Int))) ∧
w'5 = w'5)
(∃ (k2 : Nat),
(↑x2 : Int) = (↑k2 : Int) ∧
k2 < x1.snd.fst ∧
ptrE x1.fst fun (b2 o2 : Nat) =>
∃ (n2 : Int),
w'5.cell? { block := b2, off := o2 + k2 } = some (Value.int IntKind.i8 n2) ∧
∃ (c2 : Unit),
Value.bool (n2 == (2 : Int)) =
Value.bool
(decide
((formsR g.xs).getD (↑x2 : Int).toNat (0 : Int) = (3 : Int) ∨
(formsR g.xs).getD (↑x2 : Int).toNat (0 : Int) = (2 : Int))) ∧
w'5 = w'5)) ∧
∀ (u3 : Nat → Value) (c2 : Unit) (w'6 : World),
w'6 = w'5 →
bcase (decide (Tb.lastR g.xs x2 < (0 : Int)))
(bcase
(decide
((formsR g.xs).getD (↑x2 : Int).toNat (0 : Int) = (3 : Int) ∨
(formsR g.xs).getD (↑x2 : Int).toNat (0 : Int) = (2 : Int)))
(∃ (x4 : Unit), Value.bool false = Value.bool true ∧ Ext w w'6)
(InR IntKind.i64 ((↑x2 : Int) + (1 : Int)) ∧
∃ (y : Nat),
Value.int IntKind.i64 ((↑x2 : Int) + (1 : Int)) = Value.int IntKind.i64 (↑y : Int) ∧
Value.int IntKind.i64 (↑x2 : Int) = Value.int IntKind.i64 (Tb.lastR g.xs y) ∧
(y ≤ g.xs.length ∧
Ext w w'6 ∧
∃ (a8 : Option Addr),
∃ (c3 : Nat),
Value.slice x1.fst x1.snd.fst x1.snd.snd = Value.slice a8 g.xs.length c3 ∧
CellsAt w'6 a8 (List.map (Value.int IntKind.i8) (formsR g.xs))) ∧
g.xs.length - y < g.xs.length - x2))
((∃ (k1 : Nat),
Tb.lastR g.xs x2 = (↑k1 : Int) ∧
k1 < x1.snd.fst ∧
ptrE x1.fst fun (b1 o1 : Nat) =>
∃ (n1 : Int),
w'6.cell? { block := b1, off := o1 + k1 } = some (Value.int IntKind.i8 n1) ∧
bcase (n1 == (1 : Int))
(∃ (c3 : Unit),
Value.bool true =
Value.bool
(decide
((formsR g.xs).getD (Tb.lastR g.xs x2).toNat (0 : Int) = (1 : Int) ∨
(formsR g.xs).getD (Tb.lastR g.xs x2).toNat (0 : Int) = (2 : Int))) ∧
w'6 = w'6)
(∃ (k2 : Nat),
Tb.lastR g.xs x2 = (↑k2 : Int) ∧
k2 < x1.snd.fst ∧
ptrE x1.fst fun (b2 o2 : Nat) =>
∃ (n2 : Int),
w'6.cell? { block := b2, off := o2 + k2 } = some (Value.int IntKind.i8 n2) ∧
∃ (c3 : Unit),
Value.bool (n2 == (2 : Int)) =
Value.bool
(decide
((formsR g.xs).getD (Tb.lastR g.xs x2).toNat (0 : Int) = (1 : Int) ∨
(formsR g.xs).getD (Tb.lastR g.xs x2).toNat (0 : Int) = (2 : Int))) ∧
w'6 = w'6)) ∧
∀ (u4 : Nat → Value) (c3 : Unit) (w'7 : World),
w'7 = w'6 →
∃ (k1 : Nat),
Tb.lastR g.xs x2 = (↑k1 : Int) ∧
k1 < g.xs.length ∧
ptrE g.ad fun (b1 o1 : Nat) =>
∃ (n1 : Int),
w'7.cell? { block := b1, off := o1 + k1 } = some (Value.int IntKind.i32 n1) ∧
∃ (g4 : Int),
#[Value.int IntKind.i32 n1] = #[Value.int IntKind.i32 g4] ∧
True ∧
∀ (x4 : Int) (w'8 : World),
x4 = joinR g4 ∧ Ext w'7 w'8 →
(∃ (c4 : Unit),
Value.bool
(bif decide (x3 = (1 : Int) ∨ x3 = (2 : Int)) then
bif !x4 == (3 : Int) then
!decide
((formsR g.xs).getD (Tb.lastR g.xs x2).toNat (0 : Int) = (1 : Int) ∨
(formsR g.xs).getD (Tb.lastR g.xs x2).toNat (0 : Int) = (2 : Int)) ==
decide
((formsR g.xs).getD (↑x2 : Int).toNat (0 : Int) = (3 : Int) ∨
(formsR g.xs).getD (↑x2 : Int).toNat (0 : Int) = (2 : Int)) ||
bif decide (x3 = (1 : Int) ∨ x3 = (2 : Int)) then
bif x4 == (3 : Int) then
!decide
((formsR g.xs).getD (↑x2 : Int).toNat (0 : Int) = (3 : Int) ∨
(formsR g.xs).getD (↑x2 : Int).toNat (0 : Int) = (2 : Int)) ||
decide
((formsR g.xs).getD (Tb.lastR g.xs x2).toNat (0 : Int) = (1 : Int) ∨
(formsR g.xs).getD (Tb.lastR g.xs x2).toNat (0 : Int) = (2 : Int)) &&
(!decide (x3 = (1 : Int) ∨ x3 = (2 : Int)) && x3 != (3 : Int))
else
decide
((formsR g.xs).getD (Tb.lastR g.xs x2).toNat (0 : Int) = (1 : Int) ∨
(formsR g.xs).getD (Tb.lastR g.xs x2).toNat (0 : Int) = (2 : Int)) &&
(!decide (x3 = (1 : Int) ∨ x3 = (2 : Int)) && x3 != (3 : Int))
else
decide
((formsR g.xs).getD (Tb.lastR g.xs x2).toNat (0 : Int) = (1 : Int) ∨
(formsR g.xs).getD (Tb.lastR g.xs x2).toNat (0 : Int) = (2 : Int)) &&
(!decide (x3 = (1 : Int) ∨ x3 = (2 : Int)) && x3 != (3 : Int))
else
bif decide (x3 = (1 : Int) ∨ x3 = (2 : Int)) then
bif x4 == (3 : Int) then
!decide
((formsR g.xs).getD (↑x2 : Int).toNat (0 : Int) = (3 : Int) ∨
(formsR g.xs).getD (↑x2 : Int).toNat (0 : Int) = (2 : Int)) ||
decide
((formsR g.xs).getD (Tb.lastR g.xs x2).toNat (0 : Int) = (1 : Int) ∨
(formsR g.xs).getD (Tb.lastR g.xs x2).toNat (0 : Int) = (2 : Int)) &&
(!decide (x3 = (1 : Int) ∨ x3 = (2 : Int)) && x3 != (3 : Int))
else
decide
((formsR g.xs).getD (Tb.lastR g.xs x2).toNat (0 : Int) = (1 : Int) ∨
(formsR g.xs).getD (Tb.lastR g.xs x2).toNat (0 : Int) = (2 : Int)) &&
(!decide (x3 = (1 : Int) ∨ x3 = (2 : Int)) && x3 != (3 : Int))
else
decide
((formsR g.xs).getD (Tb.lastR g.xs x2).toNat (0 : Int) = (1 : Int) ∨
(formsR g.xs).getD (Tb.lastR g.xs x2).toNat (0 : Int) = (2 : Int)) &&
(!decide (x3 = (1 : Int) ∨ x3 = (2 : Int)) && x3 != (3 : Int))
else
bif decide (x3 = (1 : Int) ∨ x3 = (2 : Int)) then
bif x4 == (3 : Int) then
!decide
((formsR g.xs).getD (↑x2 : Int).toNat (0 : Int) = (3 : Int) ∨
(formsR g.xs).getD (↑x2 : Int).toNat (0 : Int) = (2 : Int)) ||
decide
((formsR g.xs).getD (Tb.lastR g.xs x2).toNat (0 : Int) = (1 : Int) ∨
(formsR g.xs).getD (Tb.lastR g.xs x2).toNat (0 : Int) = (2 : Int)) &&
(!decide (x3 = (1 : Int) ∨ x3 = (2 : Int)) && x3 != (3 : Int))
else
decide
((formsR g.xs).getD (Tb.lastR g.xs x2).toNat (0 : Int) = (1 : Int) ∨
(formsR g.xs).getD (Tb.lastR g.xs x2).toNat (0 : Int) = (2 : Int)) &&
(!decide (x3 = (1 : Int) ∨ x3 = (2 : Int)) && x3 != (3 : Int))
else
decide
((formsR g.xs).getD (Tb.lastR g.xs x2).toNat (0 : Int) = (1 : Int) ∨
(formsR g.xs).getD (Tb.lastR g.xs x2).toNat (0 : Int) = (2 : Int)) &&
(!decide (x3 = (1 : Int) ∨ x3 = (2 : Int)) && x3 != (3 : Int))) =
Value.bool false ∧
w'8 = w'8) ∧
∀ (u5 : Nat → Value) (c4 : Unit) (w'9 : World),
w'9 = w'8 →
InR IntKind.i64 ((↑x2 : Int) + (1 : Int)) ∧
∃ (y : Nat),
Value.int IntKind.i64 ((↑x2 : Int) + (1 : Int)) = Value.int IntKind.i64 (↑y : Int) ∧
Value.int IntKind.i64 (↑x2 : Int) = Value.int IntKind.i64 (Tb.lastR g.xs y) ∧
(y ≤ g.xs.length ∧
Ext w w'9 ∧
∃ (a11 : Option Addr),
∃ (c5 : Nat),
Value.slice x1.fst x1.snd.fst x1.snd.snd = Value.slice a11 g.xs.length c5 ∧
CellsAt w'9 a11 (List.map (Value.int IntKind.i8) (formsR g.xs))) ∧
g.xs.length - y < g.xs.length - x2)))
(bcase (decide (Tb.lastR g.xs x2 < (0 : Int))) (∃ (x3 : Unit), Value.bool true = Value.bool true ∧ Ext w w'2)
(∃ (k : Nat),
Tb.lastR g.xs x2 = (↑k : Int) ∧
k < x1.snd.fst ∧
ptrE x1.fst fun (b o : Nat) =>
∃ (n : Int),
w'2.cell? { block := b, off := o + k } = some (Value.int IntKind.i8 n) ∧
bcase (n == (0 : Int)) (∃ (x3 : Unit), Value.bool true = Value.bool true ∧ Ext w w'2)
(∃ (k1 : Nat),
Tb.lastR g.xs x2 = (↑k1 : Int) ∧
k1 < x1.snd.fst ∧
ptrE x1.fst fun (b1 o1 : Nat) =>
∃ (n1 : Int),
w'2.cell? { block := b1, off := o1 + k1 } = some (Value.int IntKind.i8 n1) ∧
∃ (x3 : Unit), Value.bool (n1 == (3 : Int)) = Value.bool true ∧ Ext w w'2))))) :
    (sLawL).Ok Try.prog 8 :=
  ok_of_vc sLawL annMutual spMutual (fun _ _ => rfl) (fun _ _ => rfl) hsp Try.func8 rfl (n := 1) (fun _ => rfl) (by kernel_rfl) (vcast (by kernel_rfl) h)

end Go.Proofs.Ytliihpdhoimmoaa
