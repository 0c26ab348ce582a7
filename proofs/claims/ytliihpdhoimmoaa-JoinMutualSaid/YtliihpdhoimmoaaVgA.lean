/-
  Verification conditions, printed by a program out of the specifications beside this text: each theorem says that the condition suffices. (Lean's kernel compares the printed condition with what 'wpE' computes.)
-/
import Derived.Test.YtliihpdhoimmoaaSpA
import Derived.Test.YtliihpdhoimmoaaProg
import Derived.KernelRfl
set_option linter.unusedVariables false
namespace Go.Proofs.Ytliihpdhoimmoaa
open Go Go.RowKit Vc Tb

set_option maxRecDepth 1000000 in
theorem known_vc (hsp : SpecsOk Try.prog []) (h : ∀ (g : Int) (w : World),
True →
bcase
(decide (g < (0 : Int)) || (decide (g > (1114111 : Int)) || decide (g ≥ (55296 : Int)) && decide (g ≤ (57343 : Int))))
(∃ (x : Int), Value.int IntKind.i32 (65533 : Int) = Value.int IntKind.i32 x ∧ x = knownF g ∧ w = w)
(∃ (x : Int), Value.int IntKind.i32 g = Value.int IntKind.i32 x ∧ x = knownF g ∧ w = w)) :
    ((sRune .i32 knownF)).Ok Try.prog 33 :=
  ok_of_vc (sRune .i32 knownF) (fun _ _ => annN []) [] (fun _ _ => rfl) (fun _ _ => rfl) hsp Try.func33 rfl (n := 1) (fun _ => rfl) (by kernel_rfl) (vcast (by kernel_rfl) h)

set_option maxRecDepth 1000000 in
theorem rjoin_vc (hsp : SpecsOk Try.prog spKnown) (h : ∀ (g : Int) (w : World),
True →
∃ (g1 : Int),
#[Value.int IntKind.i32 g] = #[Value.int IntKind.i32 g1] ∧
True ∧
∀ (x : Int) (w' : World),
x = knownF g1 ∧ w' = w →
bcase
(decide (x ≥ (768 : Int)) && decide (x ≤ (879 : Int)) ||
(decide (x ≥ (1155 : Int)) && decide (x ≤ (1161 : Int)) ||
(decide (x ≥ (1425 : Int)) && decide (x ≤ (1469 : Int)) ||
(x == (1471 : Int) ||
(decide (x ≥ (1473 : Int)) && decide (x ≤ (1474 : Int)) ||
(decide (x ≥ (1476 : Int)) && decide (x ≤ (1477 : Int)) ||
(x == (1479 : Int) ||
(decide (x ≥ (1552 : Int)) && decide (x ≤ (1562 : Int)) ||
(decide (x ≥ (1611 : Int)) && decide (x ≤ (1631 : Int)) ||
(x == (1648 : Int) ||
(decide (x ≥ (1750 : Int)) && decide (x ≤ (1756 : Int)) ||
(decide (x ≥ (1759 : Int)) && decide (x ≤ (1764 : Int)) ||
(decide (x ≥ (1767 : Int)) && decide (x ≤ (1768 : Int)) ||
(decide (x ≥ (1770 : Int)) && decide (x ≤ (1773 : Int)) ||
(x == (3633 : Int) ||
(decide (x ≥ (3636 : Int)) && decide (x ≤ (3642 : Int)) ||
(decide (x ≥ (3655 : Int)) && decide (x ≤ (3662 : Int)) ||
(decide (x ≥ (6832 : Int)) && decide (x ≤ (6911 : Int)) ||
(decide (x ≥ (7616 : Int)) && decide (x ≤ (7679 : Int)) ||
(decide (x ≥ (8400 : Int)) && decide (x ≤ (8447 : Int)) ||
(decide (x ≥ (12330 : Int)) && decide (x ≤ (12333 : Int)) ||
(decide (x ≥ (12441 : Int)) && decide (x ≤ (12442 : Int)) ||
(decide (x ≥ (65024 : Int)) && decide (x ≤ (65039 : Int)) ||
decide (x ≥ (65056 : Int)) && decide (x ≤ (65071 : Int)))))))))))))))))))))))))
(∃ (x1 : Int), Value.int IntKind.i8 (4 : Int) = Value.int IntKind.i8 x1 ∧ x1 = joinR g ∧ w' = w)
(bcase
(decide (x ≥ (1570 : Int)) && decide (x ≤ (1573 : Int)) ||
(x == (1575 : Int) ||
(x == (1577 : Int) ||
(decide (x ≥ (1583 : Int)) && decide (x ≤ (1586 : Int)) || decide (x ≥ (1608 : Int)) && decide (x ≤ (1609 : Int))))))
(∃ (x1 : Int), Value.int IntKind.i8 (1 : Int) = Value.int IntKind.i8 x1 ∧ x1 = joinR g ∧ w' = w)
(bcase
(x == (1574 : Int) ||
(x == (1576 : Int) ||
(decide (x ≥ (1578 : Int)) && decide (x ≤ (1582 : Int)) ||
(decide (x ≥ (1587 : Int)) && decide (x ≤ (1594 : Int)) ||
(decide (x ≥ (1601 : Int)) && decide (x ≤ (1607 : Int)) || x == (1610 : Int))))))
(∃ (x1 : Int), Value.int IntKind.i8 (2 : Int) = Value.int IntKind.i8 x1 ∧ x1 = joinR g ∧ w' = w)
(bcase (x == (1600 : Int) || x == (8205 : Int))
(∃ (x1 : Int), Value.int IntKind.i8 (3 : Int) = Value.int IntKind.i8 x1 ∧ x1 = joinR g ∧ w' = w)
(∃ (x1 : Int), Value.int IntKind.i8 (0 : Int) = Value.int IntKind.i8 x1 ∧ x1 = joinR g ∧ w' = w))))) :
    ((sRune .i8 joinR)).Ok Try.prog 28 :=
  ok_of_vc (sRune .i8 joinR) (fun _ _ => annN spKnown) spKnown (fun _ _ => rfl) (fun _ _ => rfl) hsp Try.func28 rfl (n := 1) (fun _ => rfl) (by kernel_rfl) (vcast (by kernel_rfl) h)

set_option maxRecDepth 1000000 in
theorem find_vc (hsp : SpecsOk Try.prog []) (h : ∀ (g : GFind) (w : World),
CellsT w g.b g.T ∧
(0 : Nat) < g.T.length ∧
g.T.length ≤ (1000 : Nat) ∧ boundsOk g.T = true ∧ (g.T.getD (0 : Nat) ((0 : Int), (0 : Int))).fst = (0 : Int) →
bcase
(decide (g.r < (0 : Int)) ||
(decide (g.r > (1114111 : Int)) || decide (g.r ≥ (55296 : Int)) && decide (g.r ≤ (57343 : Int))))
(∃ (c : Unit), Value.int IntKind.i32 (65533 : Int) = Value.int IntKind.i32 (knownF g.r) ∧ w = w)
(∃ (c : Unit), Value.int IntKind.i32 g.r = Value.int IntKind.i32 (knownF g.r) ∧ w = w) ∧
∀ (u : Nat → Value) (c : Unit) (w' : World),
w' = w →
(∃ (x : Nat × Nat),
Value.int IntKind.i64 (0 : Int) = Value.int IntKind.i64 (↑x.fst : Int) ∧
Value.int IntKind.i64 (↑g.T.length : Int) = Value.int IntKind.i64 (↑x.snd : Int) ∧
x.fst < x.snd ∧
x.snd ≤ g.T.length ∧
(g.T.getD x.fst ((0 : Int), (0 : Int))).fst ≤ knownF g.r ∧
(x.snd = g.T.length ∨ knownF g.r < (g.T.getD x.snd ((0 : Int), (0 : Int))).fst) ∧ w' = w') ∧
∀ (u1 : Nat → Value) (x : Nat × Nat) (w'1 : World),
x.fst < x.snd ∧
x.snd ≤ g.T.length ∧
(g.T.getD x.fst ((0 : Int), (0 : Int))).fst ≤ knownF g.r ∧
(x.snd = g.T.length ∨ knownF g.r < (g.T.getD x.snd ((0 : Int), (0 : Int))).fst) ∧ w'1 = w' →
InR IntKind.i64 ((↑x.snd : Int) - (↑x.fst : Int)) ∧
bcase (decide ((↑x.snd : Int) - (↑x.fst : Int) > (1 : Int)))
(InR IntKind.i64 ((↑x.fst : Int) + (↑x.snd : Int)) ∧
(0 : Int) ≤ (↑x.fst : Int) + (↑x.snd : Int) ∧
(0 : Int) < (2 : Int) ∧
InR IntKind.i64 (((↑x.fst : Int) + (↑x.snd : Int)) / (2 : Int)) ∧
∃ (k : Nat),
((↑x.fst : Int) + (↑x.snd : Int)) / (2 : Int) = (↑k : Int) ∧
k < g.T.length ∧
∃ (n : Int),
w'1.cell? { block := g.b, off := (0 : Nat) + k * (2 : Nat) } = some (Value.int IntKind.i32 n) ∧
bcase (decide (n > knownF g.r))
(∃ (y : Nat × Nat),
Value.int IntKind.i64 (↑x.fst : Int) = Value.int IntKind.i64 (↑y.fst : Int) ∧
Value.int IntKind.i64 (((↑x.fst : Int) + (↑x.snd : Int)) / (2 : Int)) = Value.int IntKind.i64 (↑y.snd : Int) ∧
(y.fst < y.snd ∧
y.snd ≤ g.T.length ∧
(g.T.getD y.fst ((0 : Int), (0 : Int))).fst ≤ knownF g.r ∧
(y.snd = g.T.length ∨ knownF g.r < (g.T.getD y.snd ((0 : Int), (0 : Int))).fst) ∧ w'1 = w') ∧
y.snd - y.fst < x.snd - x.fst)
(∃ (y : Nat × Nat),
Value.int IntKind.i64 (((↑x.fst : Int) + (↑x.snd : Int)) / (2 : Int)) = Value.int IntKind.i64 (↑y.fst : Int) ∧
Value.int IntKind.i64 (↑x.snd : Int) = Value.int IntKind.i64 (↑y.snd : Int) ∧
(y.fst < y.snd ∧
y.snd ≤ g.T.length ∧
(g.T.getD y.fst ((0 : Int), (0 : Int))).fst ≤ knownF g.r ∧
(y.snd = g.T.length ∨ knownF g.r < (g.T.getD y.snd ((0 : Int), (0 : Int))).fst) ∧ w'1 = w') ∧
y.snd - y.fst < x.snd - x.fst))
(bcase (decide ((↑x.snd : Int) < (↑g.T.length : Int)))
(∀ (w1 : World),
Drew w'1 w1 →
∃ (k : Nat),
(↑x.fst : Int) = (↑k : Int) ∧
k < g.T.length ∧
∃ (n : Int),
w'1.cell? { block := g.b, off := (0 : Nat) + k * (2 : Nat) + (1 : Nat) } = some (Value.int IntKind.u8 n) ∧
∃ (k1 : Nat),
(↑x.snd : Int) = (↑k1 : Int) ∧
k1 < g.T.length ∧
∃ (n1 : Int),
w'1.cell? { block := g.b, off := (0 : Nat) + k1 * (2 : Nat) } = some (Value.int IntKind.i32 n1) ∧
InR IntKind.i32 (n1 - (1 : Int)) ∧
∃ (x1 : Int × Int),
Value.tuple #[Value.int IntKind.u8 n, Value.int IntKind.i32 (n1 - (1 : Int))] =
Value.tuple #[Value.int IntKind.u8 x1.fst, Value.int IntKind.i32 x1.snd] ∧
FindOk g.T (knownF g.r) x1.fst x1.snd ∧ Ext w w1)
(∃ (k : Nat),
(↑x.fst : Int) = (↑k : Int) ∧
k < g.T.length ∧
∃ (n : Int),
w'1.cell? { block := g.b, off := (0 : Nat) + k * (2 : Nat) + (1 : Nat) } = some (Value.int IntKind.u8 n) ∧
∃ (x1 : Int × Int),
Value.tuple #[Value.int IntKind.u8 n, Value.int IntKind.i32 (1114111 : Int)] =
Value.tuple #[Value.int IntKind.u8 x1.fst, Value.int IntKind.i32 x1.snd] ∧
FindOk g.T (knownF g.r) x1.fst x1.snd ∧ Ext w w'1))) :
    (sFind).Ok Try.prog 34 :=
  ok_of_vc sFind (fun g _ => annFind g) [] (fun _ _ => rfl) (fun _ _ => rfl) hsp Try.func34 rfl (n := 2) (fun _ => rfl) (by kernel_rfl) (vcast (by kernel_rfl) h)

set_option maxRecDepth 1000000 in
theorem joins_vc (hsp : SpecsOk Try.prog spFind) (h : ∀ (g : Int) (w : World),
True →
∀ (b : Nat) (w1 : World),
New w
(Obj.cells
#[Value.int IntKind.i32 (0 : Int), Value.int IntKind.u8 (0 : Int), Value.int IntKind.i32 (768 : Int),
Value.int IntKind.u8 (4 : Int), Value.int IntKind.i32 (880 : Int), Value.int IntKind.u8 (0 : Int),
Value.int IntKind.i32 (1155 : Int), Value.int IntKind.u8 (4 : Int), Value.int IntKind.i32 (1162 : Int),
Value.int IntKind.u8 (0 : Int), Value.int IntKind.i32 (1425 : Int), Value.int IntKind.u8 (4 : Int),
Value.int IntKind.i32 (1470 : Int), Value.int IntKind.u8 (0 : Int), Value.int IntKind.i32 (1471 : Int),
Value.int IntKind.u8 (4 : Int), Value.int IntKind.i32 (1472 : Int), Value.int IntKind.u8 (0 : Int),
Value.int IntKind.i32 (1473 : Int), Value.int IntKind.u8 (4 : Int), Value.int IntKind.i32 (1475 : Int),
Value.int IntKind.u8 (0 : Int), Value.int IntKind.i32 (1476 : Int), Value.int IntKind.u8 (4 : Int),
Value.int IntKind.i32 (1478 : Int), Value.int IntKind.u8 (0 : Int), Value.int IntKind.i32 (1479 : Int),
Value.int IntKind.u8 (4 : Int), Value.int IntKind.i32 (1480 : Int), Value.int IntKind.u8 (0 : Int),
Value.int IntKind.i32 (1552 : Int), Value.int IntKind.u8 (4 : Int), Value.int IntKind.i32 (1563 : Int),
Value.int IntKind.u8 (0 : Int), Value.int IntKind.i32 (1570 : Int), Value.int IntKind.u8 (1 : Int),
Value.int IntKind.i32 (1574 : Int), Value.int IntKind.u8 (2 : Int), Value.int IntKind.i32 (1575 : Int),
Value.int IntKind.u8 (1 : Int), Value.int IntKind.i32 (1576 : Int), Value.int IntKind.u8 (2 : Int),
Value.int IntKind.i32 (1577 : Int), Value.int IntKind.u8 (1 : Int), Value.int IntKind.i32 (1578 : Int),
Value.int IntKind.u8 (2 : Int), Value.int IntKind.i32 (1583 : Int), Value.int IntKind.u8 (1 : Int),
Value.int IntKind.i32 (1587 : Int), Value.int IntKind.u8 (2 : Int), Value.int IntKind.i32 (1595 : Int),
Value.int IntKind.u8 (0 : Int), Value.int IntKind.i32 (1600 : Int), Value.int IntKind.u8 (3 : Int),
Value.int IntKind.i32 (1601 : Int), Value.int IntKind.u8 (2 : Int), Value.int IntKind.i32 (1608 : Int),
Value.int IntKind.u8 (1 : Int), Value.int IntKind.i32 (1610 : Int), Value.int IntKind.u8 (2 : Int),
Value.int IntKind.i32 (1611 : Int), Value.int IntKind.u8 (4 : Int), Value.int IntKind.i32 (1632 : Int),
Value.int IntKind.u8 (0 : Int), Value.int IntKind.i32 (1648 : Int), Value.int IntKind.u8 (4 : Int),
Value.int IntKind.i32 (1649 : Int), Value.int IntKind.u8 (0 : Int), Value.int IntKind.i32 (1750 : Int),
Value.int IntKind.u8 (4 : Int), Value.int IntKind.i32 (1757 : Int), Value.int IntKind.u8 (0 : Int),
Value.int IntKind.i32 (1759 : Int), Value.int IntKind.u8 (4 : Int), Value.int IntKind.i32 (1765 : Int),
Value.int IntKind.u8 (0 : Int), Value.int IntKind.i32 (1767 : Int), Value.int IntKind.u8 (4 : Int),
Value.int IntKind.i32 (1769 : Int), Value.int IntKind.u8 (0 : Int), Value.int IntKind.i32 (1770 : Int),
Value.int IntKind.u8 (4 : Int), Value.int IntKind.i32 (1774 : Int), Value.int IntKind.u8 (0 : Int),
Value.int IntKind.i32 (3633 : Int), Value.int IntKind.u8 (4 : Int), Value.int IntKind.i32 (3634 : Int),
Value.int IntKind.u8 (0 : Int), Value.int IntKind.i32 (3636 : Int), Value.int IntKind.u8 (4 : Int),
Value.int IntKind.i32 (3643 : Int), Value.int IntKind.u8 (0 : Int), Value.int IntKind.i32 (3655 : Int),
Value.int IntKind.u8 (4 : Int), Value.int IntKind.i32 (3663 : Int), Value.int IntKind.u8 (0 : Int),
Value.int IntKind.i32 (6832 : Int), Value.int IntKind.u8 (4 : Int), Value.int IntKind.i32 (6912 : Int),
Value.int IntKind.u8 (0 : Int), Value.int IntKind.i32 (7616 : Int), Value.int IntKind.u8 (4 : Int),
Value.int IntKind.i32 (7680 : Int), Value.int IntKind.u8 (0 : Int), Value.int IntKind.i32 (8205 : Int),
Value.int IntKind.u8 (3 : Int), Value.int IntKind.i32 (8206 : Int), Value.int IntKind.u8 (0 : Int),
Value.int IntKind.i32 (8400 : Int), Value.int IntKind.u8 (4 : Int), Value.int IntKind.i32 (8448 : Int),
Value.int IntKind.u8 (0 : Int), Value.int IntKind.i32 (12330 : Int), Value.int IntKind.u8 (4 : Int),
Value.int IntKind.i32 (12334 : Int), Value.int IntKind.u8 (0 : Int), Value.int IntKind.i32 (12441 : Int),
Value.int IntKind.u8 (4 : Int), Value.int IntKind.i32 (12443 : Int), Value.int IntKind.u8 (0 : Int),
Value.int IntKind.i32 (65024 : Int), Value.int IntKind.u8 (4 : Int), Value.int IntKind.i32 (65040 : Int),
Value.int IntKind.u8 (0 : Int), Value.int IntKind.i32 (65056 : Int), Value.int IntKind.u8 (4 : Int),
Value.int IntKind.i32 (65072 : Int), Value.int IntKind.u8 (0 : Int)]
(52 : Nat))
b w1 →
∃ (g1 : GFind),
#[Value.slice (some { block := b, off := (0 : Nat) }) (64 : Nat) (64 : Nat), Value.int IntKind.i32 g] =
#[Value.slice (some { block := g1.b, off := (0 : Nat) }) g1.T.length g1.T.length, Value.int IntKind.i32 g1.r] ∧
(CellsT w1 g1.b g1.T ∧
(0 : Nat) < g1.T.length ∧
g1.T.length ≤ (1000 : Nat) ∧ boundsOk g1.T = true ∧ (g1.T.getD (0 : Nat) ((0 : Int), (0 : Int))).fst = (0 : Int)) ∧
∀ (x : Int × Int) (w' : World),
FindOk g1.T (knownF g1.r) x.fst x.snd ∧ Ext w1 w' →
∃ (x1 : Int × Int),
Value.tuple #[Value.int IntKind.u8 x.fst, Value.int IntKind.i32 x.snd] =
Value.tuple #[Value.int IntKind.u8 x1.fst, Value.int IntKind.i32 x1.snd] ∧
FindOk joinT (knownF g) x1.fst x1.snd ∧ Ext w w') :
    ((sTab joinT)).Ok Try.prog 32 :=
  ok_of_vc (sTab joinT) (fun _ _ => annN spFind) spFind (fun _ _ => rfl) (fun _ _ => rfl) hsp Try.func32 rfl (n := 1) (fun _ => rfl) (by kernel_rfl) (vcast (by kernel_rfl) h)

set_option maxRecDepth 1000000 in
theorem cjoin_vc (hsp : SpecsOk Try.prog spJoins) (h : ∀ (g : Int) (w : World),
True →
∃ (g1 : Int),
#[Value.int IntKind.i32 g] = #[Value.int IntKind.i32 g1] ∧
True ∧
∀ (x : Int × Int) (w' : World),
FindOk joinT (knownF g1) x.fst x.snd ∧ Ext w w' →
InR IntKind.i8 x.fst ∧ ∃ (x1 : Int), Value.int IntKind.i8 x.fst = Value.int IntKind.i8 x1 ∧ x1 = joinR g ∧ Ext w w') :
    ((sRuneX .i8 joinR)).Ok Try.prog 26 :=
  ok_of_vc (sRuneX .i8 joinR) (fun _ _ => annN spJoins) spJoins (fun _ _ => rfl) (fun _ _ => rfl) hsp Try.func26 rfl (n := 1) (fun _ => rfl) (by kernel_rfl) (vcast (by kernel_rfl) h)

end Go.Proofs.Ytliihpdhoimmoaa
