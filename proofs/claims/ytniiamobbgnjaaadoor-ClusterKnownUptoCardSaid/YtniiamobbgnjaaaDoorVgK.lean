/-
  Verification conditions, printed by a program out of the specifications beside this text: each theorem says that the condition suffices. (Lean's kernel compares the printed condition with what 'wpE' computes.)
-/
import Derived.Test.YtniiamobbgnjaaaDoorSpK
import Derived.Test.YtniiamobbgnjaaaDoorProg
import Derived.KernelRfl
set_option linter.unusedVariables false
namespace Go.Proofs.YtniiamobbgnjaaaDoor
open Go Go.RowKit Vc Tb Cl

set_option maxRecDepth 1000000 in
theorem known_vc (hsp : SpecsOk Tryd.prog []) (h : ∀ (g : Int) (w : World),
True →
bcase
(decide (g < (0 : Int)) || (decide (g > (1114111 : Int)) || decide (g ≥ (55296 : Int)) && decide (g ≤ (57343 : Int))))
(∃ (x : Int), Value.int IntKind.i32 (65533 : Int) = Value.int IntKind.i32 x ∧ x = knownF g ∧ w = w)
(∃ (x : Int), Value.int IntKind.i32 g = Value.int IntKind.i32 x ∧ x = knownF g ∧ w = w)) :
    ((sRune .i32 knownF)).Ok Tryd.prog 63 :=
  ok_of_vc (sRune .i32 knownF) (annOf []) [] (fun _ _ => rfl) (fun _ _ => rfl) hsp Tryd.func63 rfl (n := 1) (fun _ => rfl) (by kernel_rfl) (vcast (by kernel_rfl) h)

set_option maxRecDepth 1000000 in
theorem find_vc (hsp : SpecsOk Tryd.prog []) (h : ∀ (g : GFind) (w : World),
CellsT w g.b g.T ∧
(0 : Nat) < g.T.length ∧
g.T.length ≤ (1000 : Nat) ∧ boundsOk g.T = true ∧ (g.T.getD (0 : Nat) ((0 : Int), (0 : Int))).fst = (0 : Int) →
bcase
(decide (g.r < (0 : Int)) ||
(decide (g.r > (1114111 : Int)) || decide (g.r ≥ (55296 : Int)) && decide (g.r ≤ (57343 : Int))))
(∃ (c : Unit), Value.int IntKind.i32 (65533 : Int) = Value.int IntKind.i32 (knownF g.r) ∧ w = w)
(∃ (c : Unit), Value.int IntKind.i32 g.r = Value.int IntKind.i32 (knownF g.r) ∧ w = w) ∧
∀ (u : Nat → Value) (c : Unit) (w' : World),
w' = w →
(∃ (x : Nat × Nat),
Value.int IntKind.i64 (0 : Int) = Value.int IntKind.i64 (↑x.fst : Int) ∧
Value.int IntKind.i64 (↑g.T.length : Int) = Value.int IntKind.i64 (↑x.snd : Int) ∧
x.fst < x.snd ∧
x.snd ≤ g.T.length ∧
(g.T.getD x.fst ((0 : Int), (0 : Int))).fst ≤ knownF g.r ∧
(x.snd = g.T.length ∨ knownF g.r < (g.T.getD x.snd ((0 : Int), (0 : Int))).fst) ∧ w' = w') ∧
∀ (u1 : Nat → Value) (x : Nat × Nat) (w'1 : World),
x.fst < x.snd ∧
x.snd ≤ g.T.length ∧
(g.T.getD x.fst ((0 : Int), (0 : Int))).fst ≤ knownF g.r ∧
(x.snd = g.T.length ∨ knownF g.r < (g.T.getD x.snd ((0 : Int), (0 : Int))).fst) ∧ w'1 = w' →
InR IntKind.i64 ((↑x.snd : Int) - (↑x.fst : Int)) ∧
bcase (decide ((↑x.snd : Int) - (↑x.fst : Int) > (1 : Int)))
(InR IntKind.i64 ((↑x.fst : Int) + (↑x.snd : Int)) ∧
(0 : Int) ≤ (↑x.fst : Int) + (↑x.snd : Int) ∧
(0 : Int) < (2 : Int) ∧
InR IntKind.i64 (((↑x.fst : Int) + (↑x.snd : Int)) / (2 : Int)) ∧
∃ (k : Nat),
((↑x.fst : Int) + (↑x.snd : Int)) / (2 : Int) = (↑k : Int) ∧
k < g.T.length ∧
∃ (n : Int),
w'1.cell? { block := g.b, off := (0 : Nat) + k * (2 : Nat) } = some (Value.int IntKind.i32 n) ∧
bcase (decide (n > knownF g.r))
(∃ (y : Nat × Nat),
Value.int IntKind.i64 (↑x.fst : Int) = Value.int IntKind.i64 (↑y.fst : Int) ∧
Value.int IntKind.i64 (((↑x.fst : Int) + (↑x.snd : Int)) / (2 : Int)) = Value.int IntKind.i64 (↑y.snd : Int) ∧
(y.fst < y.snd ∧
y.snd ≤ g.T.length ∧
(g.T.getD y.fst ((0 : Int), (0 : Int))).fst ≤ knownF g.r ∧
(y.snd = g.T.length ∨ knownF g.r < (g.T.getD y.snd ((0 : Int), (0 : Int))).fst) ∧ w'1 = w') ∧
y.snd - y.fst < x.snd - x.fst)
(∃ (y : Nat × Nat),
Value.int IntKind.i64 (((↑x.fst : Int) + (↑x.snd : Int)) / (2 : Int)) = Value.int IntKind.i64 (↑y.fst : Int) ∧
Value.int IntKind.i64 (↑x.snd : Int) = Value.int IntKind.i64 (↑y.snd : Int) ∧
(y.fst < y.snd ∧
y.snd ≤ g.T.length ∧
(g.T.getD y.fst ((0 : Int), (0 : Int))).fst ≤ knownF g.r ∧
(y.snd = g.T.length ∨ knownF g.r < (g.T.getD y.snd ((0 : Int), (0 : Int))).fst) ∧ w'1 = w') ∧
y.snd - y.fst < x.snd - x.fst))
(bcase (decide ((↑x.snd : Int) < (↑g.T.length : Int)))
(∀ (w1 : World),
Drew w'1 w1 →
∃ (k : Nat),
(↑x.fst : Int) = (↑k : Int) ∧
k < g.T.length ∧
∃ (n : Int),
w'1.cell? { block := g.b, off := (0 : Nat) + k * (2 : Nat) + (1 : Nat) } = some (Value.int IntKind.u8 n) ∧
∃ (k1 : Nat),
(↑x.snd : Int) = (↑k1 : Int) ∧
k1 < g.T.length ∧
∃ (n1 : Int),
w'1.cell? { block := g.b, off := (0 : Nat) + k1 * (2 : Nat) } = some (Value.int IntKind.i32 n1) ∧
InR IntKind.i32 (n1 - (1 : Int)) ∧
∃ (x1 : Int × Int),
Value.tuple #[Value.int IntKind.u8 n, Value.int IntKind.i32 (n1 - (1 : Int))] =
Value.tuple #[Value.int IntKind.u8 x1.fst, Value.int IntKind.i32 x1.snd] ∧
FindOk g.T (knownF g.r) x1.fst x1.snd ∧ Ext w w1)
(∃ (k : Nat),
(↑x.fst : Int) = (↑k : Int) ∧
k < g.T.length ∧
∃ (n : Int),
w'1.cell? { block := g.b, off := (0 : Nat) + k * (2 : Nat) + (1 : Nat) } = some (Value.int IntKind.u8 n) ∧
∃ (x1 : Int × Int),
Value.tuple #[Value.int IntKind.u8 n, Value.int IntKind.i32 (1114111 : Int)] =
Value.tuple #[Value.int IntKind.u8 x1.fst, Value.int IntKind.i32 x1.snd] ∧
FindOk g.T (knownF g.r) x1.fst x1.snd ∧ Ext w w'1))) :
    (sFind).Ok Tryd.prog 59 :=
  ok_of_vc sFind (fun g _ => annFind g) [] (fun _ _ => rfl) (fun _ _ => rfl) hsp Tryd.func59 rfl (n := 2) (fun _ => rfl) (by kernel_rfl) (vcast (by kernel_rfl) h)

set_option maxRecDepth 1000000 in
theorem rkind_vc (hsp : SpecsOk Tryd.prog spKnown) (h : ∀ (g : Int) (w : World),
True →
∃ (g1 : Int),
#[Value.int IntKind.i32 g] = #[Value.int IntKind.i32 g1] ∧
True ∧
∀ (x : Int) (w' : World),
x = knownF g1 ∧ w' = w →
bcase (decide (x ≤ (31 : Int)) || decide (x ≥ (127 : Int)) && decide (x ≤ (159 : Int)))
(∃ (x1 : Int), Value.int IntKind.i8 (0 : Int) = Value.int IntKind.i8 x1 ∧ x1 = kindR g ∧ w' = w)
(bcase
(x == (173 : Int) ||
(x == (1564 : Int) ||
(decide (x ≥ (8203 : Int)) && decide (x ≤ (8207 : Int)) ||
(decide (x ≥ (8234 : Int)) && decide (x ≤ (8238 : Int)) ||
(decide (x ≥ (8288 : Int)) && decide (x ≤ (8297 : Int)) || x == (65279 : Int))))))
(∃ (x1 : Int), Value.int IntKind.i8 (1 : Int) = Value.int IntKind.i8 x1 ∧ x1 = kindR g ∧ w' = w)
(bcase
(decide (x ≥ (768 : Int)) && decide (x ≤ (879 : Int)) ||
(decide (x ≥ (1155 : Int)) && decide (x ≤ (1161 : Int)) ||
(decide (x ≥ (1425 : Int)) && decide (x ≤ (1469 : Int)) ||
(x == (1471 : Int) ||
(decide (x ≥ (1473 : Int)) && decide (x ≤ (1474 : Int)) ||
(decide (x ≥ (1476 : Int)) && decide (x ≤ (1477 : Int)) ||
(x == (1479 : Int) ||
(decide (x ≥ (1552 : Int)) && decide (x ≤ (1562 : Int)) ||
(decide (x ≥ (1611 : Int)) && decide (x ≤ (1631 : Int)) ||
(x == (1648 : Int) ||
(decide (x ≥ (1750 : Int)) && decide (x ≤ (1756 : Int)) ||
(decide (x ≥ (1759 : Int)) && decide (x ≤ (1764 : Int)) ||
(decide (x ≥ (1767 : Int)) && decide (x ≤ (1768 : Int)) ||
(decide (x ≥ (1770 : Int)) && decide (x ≤ (1773 : Int)) ||
(x == (3633 : Int) ||
(decide (x ≥ (3636 : Int)) && decide (x ≤ (3642 : Int)) ||
(decide (x ≥ (3655 : Int)) && decide (x ≤ (3662 : Int)) ||
(decide (x ≥ (6832 : Int)) && decide (x ≤ (6911 : Int)) ||
(decide (x ≥ (7616 : Int)) && decide (x ≤ (7679 : Int)) ||
(decide (x ≥ (8400 : Int)) && decide (x ≤ (8447 : Int)) ||
(decide (x ≥ (12330 : Int)) && decide (x ≤ (12333 : Int)) ||
(decide (x ≥ (12441 : Int)) && decide (x ≤ (12442 : Int)) ||
(decide (x ≥ (65024 : Int)) && decide (x ≤ (65039 : Int)) ||
decide (x ≥ (65056 : Int)) && decide (x ≤ (65071 : Int)))))))))))))))))))))))))
(∃ (x1 : Int), Value.int IntKind.i8 (2 : Int) = Value.int IntKind.i8 x1 ∧ x1 = kindR g ∧ w' = w)
(bcase
(decide (x ≥ (48 : Int)) && decide (x ≤ (57 : Int)) ||
(decide (x ≥ (1632 : Int)) && decide (x ≤ (1641 : Int)) ||
(decide (x ≥ (1776 : Int)) && decide (x ≤ (1785 : Int)) || decide (x ≥ (65296 : Int)) && decide (x ≤ (65305 : Int)))))
(∃ (x1 : Int), Value.int IntKind.i8 (4 : Int) = Value.int IntKind.i8 x1 ∧ x1 = kindR g ∧ w' = w)
(bcase
(x == (32 : Int) ||
(x == (160 : Int) ||
(x == (5760 : Int) ||
(decide (x ≥ (8192 : Int)) && decide (x ≤ (8202 : Int)) ||
(decide (x ≥ (8232 : Int)) && decide (x ≤ (8233 : Int)) ||
(x == (8239 : Int) || (x == (8287 : Int) || x == (12288 : Int))))))))
(∃ (x1 : Int), Value.int IntKind.i8 (5 : Int) = Value.int IntKind.i8 x1 ∧ x1 = kindR g ∧ w' = w)
(bcase
(x == (36 : Int) ||
(x == (43 : Int) ||
(decide (x ≥ (60 : Int)) && decide (x ≤ (62 : Int)) ||
(x == (94 : Int) ||
(x == (96 : Int) ||
(x == (124 : Int) ||
(x == (126 : Int) ||
(decide (x ≥ (162 : Int)) && decide (x ≤ (166 : Int)) ||
(decide (x ≥ (168 : Int)) && decide (x ≤ (169 : Int)) ||
(x == (172 : Int) ||
(decide (x ≥ (174 : Int)) && decide (x ≤ (177 : Int)) ||
(x == (180 : Int) ||
(x == (184 : Int) ||
(x == (215 : Int) ||
(x == (247 : Int) ||
(decide (x ≥ (8352 : Int)) && decide (x ≤ (8399 : Int)) ||
(decide (x ≥ (8448 : Int)) && decide (x ≤ (9675 : Int)) ||
(decide (x ≥ (9677 : Int)) && decide (x ≤ (11263 : Int)) ||
(decide (x ≥ (65532 : Int)) && decide (x ≤ (65533 : Int)) ||
decide (x ≥ (126976 : Int)) && decide (x ≤ (129791 : Int)))))))))))))))))))))
(∃ (x1 : Int), Value.int IntKind.i8 (7 : Int) = Value.int IntKind.i8 x1 ∧ x1 = kindR g ∧ w' = w)
(bcase
(decide (x ≥ (65 : Int)) && decide (x ≤ (90 : Int)) ||
(decide (x ≥ (97 : Int)) && decide (x ≤ (122 : Int)) ||
(x == (170 : Int) ||
(x == (181 : Int) ||
(x == (186 : Int) ||
(decide (x ≥ (192 : Int)) && decide (x ≤ (767 : Int)) ||
(decide (x ≥ (880 : Int)) && decide (x ≤ (883 : Int)) ||
(decide (x ≥ (886 : Int)) && decide (x ≤ (893 : Int)) ||
(x == (895 : Int) ||
(x == (902 : Int) ||
(decide (x ≥ (904 : Int)) && decide (x ≤ (1153 : Int)) ||
(decide (x ≥ (1162 : Int)) && decide (x ≤ (1366 : Int)) ||
(decide (x ≥ (1377 : Int)) && decide (x ≤ (1415 : Int)) ||
(decide (x ≥ (1488 : Int)) && decide (x ≤ (1522 : Int)) ||
(decide (x ≥ (1568 : Int)) && decide (x ≤ (1610 : Int)) ||
(decide (x ≥ (1646 : Int)) && decide (x ≤ (1747 : Int)) ||
(decide (x ≥ (1749 : Int)) && decide (x ≤ (1788 : Int)) ||
(decide (x ≥ (3585 : Int)) && decide (x ≤ (3654 : Int)) ||
(decide (x ≥ (4256 : Int)) && decide (x ≤ (4607 : Int)) ||
(decide (x ≥ (7680 : Int)) && decide (x ≤ (8191 : Int)) ||
(decide (x ≥ (11264 : Int)) && decide (x ≤ (11743 : Int)) ||
(decide (x ≥ (12293 : Int)) && decide (x ≤ (12295 : Int)) ||
(decide (x ≥ (12353 : Int)) && decide (x ≤ (12543 : Int)) ||
(decide (x ≥ (12549 : Int)) && decide (x ≤ (12686 : Int)) ||
(decide (x ≥ (13312 : Int)) && decide (x ≤ (19903 : Int)) ||
(decide (x ≥ (19968 : Int)) && decide (x ≤ (40959 : Int)) ||
(decide (x ≥ (44032 : Int)) && decide (x ≤ (55203 : Int)) ||
(decide (x ≥ (63744 : Int)) && decide (x ≤ (64255 : Int)) ||
(decide (x ≥ (64285 : Int)) && decide (x ≤ (65019 : Int)) ||
(decide (x ≥ (65136 : Int)) && decide (x ≤ (65276 : Int)) ||
(decide (x ≥ (65313 : Int)) && decide (x ≤ (65338 : Int)) ||
(decide (x ≥ (65345 : Int)) && decide (x ≤ (65370 : Int)) ||
(decide (x ≥ (65382 : Int)) && decide (x ≤ (65500 : Int)) ||
decide (x ≥ (131072 : Int)) && decide (x ≤ (262141 : Int)))))))))))))))))))))))))))))))))))
(∃ (x1 : Int), Value.int IntKind.i8 (3 : Int) = Value.int IntKind.i8 x1 ∧ x1 = kindR g ∧ w' = w)
(bcase
(decide (x ≥ (33 : Int)) && decide (x ≤ (64 : Int)) ||
(decide (x ≥ (91 : Int)) && decide (x ≤ (96 : Int)) ||
(decide (x ≥ (123 : Int)) && decide (x ≤ (126 : Int)) ||
(decide (x ≥ (161 : Int)) && decide (x ≤ (191 : Int)) ||
(x == (894 : Int) ||
(x == (903 : Int) ||
(decide (x ≥ (1417 : Int)) && decide (x ≤ (1418 : Int)) ||
(decide (x ≥ (1470 : Int)) && decide (x ≤ (1478 : Int)) ||
(decide (x ≥ (1523 : Int)) && decide (x ≤ (1524 : Int)) ||
(decide (x ≥ (1548 : Int)) && decide (x ≤ (1549 : Int)) ||
(decide (x ≥ (1563 : Int)) && decide (x ≤ (1567 : Int)) ||
(decide (x ≥ (1642 : Int)) && decide (x ≤ (1645 : Int)) ||
(x == (1748 : Int) ||
(decide (x ≥ (8208 : Int)) && decide (x ≤ (8286 : Int)) ||
(x == (9676 : Int) ||
(decide (x ≥ (12289 : Int)) && decide (x ≤ (12291 : Int)) ||
(decide (x ≥ (12296 : Int)) && decide (x ≤ (12319 : Int)) ||
(decide (x ≥ (65281 : Int)) && decide (x ≤ (65312 : Int)) ||
(decide (x ≥ (65339 : Int)) && decide (x ≤ (65344 : Int)) ||
decide (x ≥ (65371 : Int)) && decide (x ≤ (65381 : Int)))))))))))))))))))))
(∃ (x1 : Int), Value.int IntKind.i8 (6 : Int) = Value.int IntKind.i8 x1 ∧ x1 = kindR g ∧ w' = w)
(∃ (x1 : Int), Value.int IntKind.i8 (8 : Int) = Value.int IntKind.i8 x1 ∧ x1 = kindR g ∧ w' = w))))))))) :
    ((sRune .i8 kindR)).Ok Tryd.prog 54 :=
  ok_of_vc (sRune .i8 kindR) (annOf spKnown) spKnown (fun _ _ => rfl) (fun _ _ => rfl) hsp Tryd.func54 rfl (n := 1) (fun _ => rfl) (by kernel_rfl) (vcast (by kernel_rfl) h)

set_option maxRecDepth 1000000 in
theorem kinds_vc (hsp : SpecsOk Tryd.prog spFind) (h : ∀ (g : Int) (w : World),
True →
∀ (b : Nat) (w1 : World),
New w
(Obj.cells
#[Value.int IntKind.i32 (0 : Int), Value.int IntKind.u8 (0 : Int), Value.int IntKind.i32 (32 : Int),
Value.int IntKind.u8 (5 : Int), Value.int IntKind.i32 (33 : Int), Value.int IntKind.u8 (6 : Int),
Value.int IntKind.i32 (36 : Int), Value.int IntKind.u8 (7 : Int), Value.int IntKind.i32 (37 : Int),
Value.int IntKind.u8 (6 : Int), Value.int IntKind.i32 (43 : Int), Value.int IntKind.u8 (7 : Int),
Value.int IntKind.i32 (44 : Int), Value.int IntKind.u8 (6 : Int), Value.int IntKind.i32 (48 : Int),
Value.int IntKind.u8 (4 : Int), Value.int IntKind.i32 (58 : Int), Value.int IntKind.u8 (6 : Int),
Value.int IntKind.i32 (60 : Int), Value.int IntKind.u8 (7 : Int), Value.int IntKind.i32 (63 : Int),
Value.int IntKind.u8 (6 : Int), Value.int IntKind.i32 (65 : Int), Value.int IntKind.u8 (3 : Int),
Value.int IntKind.i32 (91 : Int), Value.int IntKind.u8 (6 : Int), Value.int IntKind.i32 (94 : Int),
Value.int IntKind.u8 (7 : Int), Value.int IntKind.i32 (95 : Int), Value.int IntKind.u8 (6 : Int),
Value.int IntKind.i32 (96 : Int), Value.int IntKind.u8 (7 : Int), Value.int IntKind.i32 (97 : Int),
Value.int IntKind.u8 (3 : Int), Value.int IntKind.i32 (123 : Int), Value.int IntKind.u8 (6 : Int),
Value.int IntKind.i32 (124 : Int), Value.int IntKind.u8 (7 : Int), Value.int IntKind.i32 (125 : Int),
Value.int IntKind.u8 (6 : Int), Value.int IntKind.i32 (126 : Int), Value.int IntKind.u8 (7 : Int),
Value.int IntKind.i32 (127 : Int), Value.int IntKind.u8 (0 : Int), Value.int IntKind.i32 (160 : Int),
Value.int IntKind.u8 (5 : Int), Value.int IntKind.i32 (161 : Int), Value.int IntKind.u8 (6 : Int),
Value.int IntKind.i32 (162 : Int), Value.int IntKind.u8 (7 : Int), Value.int IntKind.i32 (167 : Int),
Value.int IntKind.u8 (6 : Int), Value.int IntKind.i32 (168 : Int), Value.int IntKind.u8 (7 : Int),
Value.int IntKind.i32 (170 : Int), Value.int IntKind.u8 (3 : Int), Value.int IntKind.i32 (171 : Int),
Value.int IntKind.u8 (6 : Int), Value.int IntKind.i32 (172 : Int), Value.int IntKind.u8 (7 : Int),
Value.int IntKind.i32 (173 : Int), Value.int IntKind.u8 (1 : Int), Value.int IntKind.i32 (174 : Int),
Value.int IntKind.u8 (7 : Int), Value.int IntKind.i32 (178 : Int), Value.int IntKind.u8 (6 : Int),
Value.int IntKind.i32 (180 : Int), Value.int IntKind.u8 (7 : Int), Value.int IntKind.i32 (181 : Int),
Value.int IntKind.u8 (3 : Int), Value.int IntKind.i32 (182 : Int), Value.int IntKind.u8 (6 : Int),
Value.int IntKind.i32 (184 : Int), Value.int IntKind.u8 (7 : Int), Value.int IntKind.i32 (185 : Int),
Value.int IntKind.u8 (6 : Int), Value.int IntKind.i32 (186 : Int), Value.int IntKind.u8 (3 : Int),
Value.int IntKind.i32 (187 : Int), Value.int IntKind.u8 (6 : Int), Value.int IntKind.i32 (192 : Int),
Value.int IntKind.u8 (3 : Int), Value.int IntKind.i32 (215 : Int), Value.int IntKind.u8 (7 : Int),
Value.int IntKind.i32 (216 : Int), Value.int IntKind.u8 (3 : Int), Value.int IntKind.i32 (247 : Int),
Value.int IntKind.u8 (7 : Int), Value.int IntKind.i32 (248 : Int), Value.int IntKind.u8 (3 : Int),
Value.int IntKind.i32 (768 : Int), Value.int IntKind.u8 (2 : Int), Value.int IntKind.i32 (880 : Int),
Value.int IntKind.u8 (3 : Int), Value.int IntKind.i32 (884 : Int), Value.int IntKind.u8 (8 : Int),
Value.int IntKind.i32 (886 : Int), Value.int IntKind.u8 (3 : Int), Value.int IntKind.i32 (894 : Int),
Value.int IntKind.u8 (6 : Int), Value.int IntKind.i32 (895 : Int), Value.int IntKind.u8 (3 : Int),
Value.int IntKind.i32 (896 : Int), Value.int IntKind.u8 (8 : Int), Value.int IntKind.i32 (902 : Int),
Value.int IntKind.u8 (3 : Int), Value.int IntKind.i32 (903 : Int), Value.int IntKind.u8 (6 : Int),
Value.int IntKind.i32 (904 : Int), Value.int IntKind.u8 (3 : Int), Value.int IntKind.i32 (1154 : Int),
Value.int IntKind.u8 (8 : Int), Value.int IntKind.i32 (1155 : Int), Value.int IntKind.u8 (2 : Int),
Value.int IntKind.i32 (1162 : Int), Value.int IntKind.u8 (3 : Int), Value.int IntKind.i32 (1367 : Int),
Value.int IntKind.u8 (8 : Int), Value.int IntKind.i32 (1377 : Int), Value.int IntKind.u8 (3 : Int),
Value.int IntKind.i32 (1416 : Int), Value.int IntKind.u8 (8 : Int), Value.int IntKind.i32 (1417 : Int),
Value.int IntKind.u8 (6 : Int), Value.int IntKind.i32 (1419 : Int), Value.int IntKind.u8 (8 : Int),
Value.int IntKind.i32 (1425 : Int), Value.int IntKind.u8 (2 : Int), Value.int IntKind.i32 (1470 : Int),
Value.int IntKind.u8 (6 : Int), Value.int IntKind.i32 (1471 : Int), Value.int IntKind.u8 (2 : Int),
Value.int IntKind.i32 (1472 : Int), Value.int IntKind.u8 (6 : Int), Value.int IntKind.i32 (1473 : Int),
Value.int IntKind.u8 (2 : Int), Value.int IntKind.i32 (1475 : Int), Value.int IntKind.u8 (6 : Int),
Value.int IntKind.i32 (1476 : Int), Value.int IntKind.u8 (2 : Int), Value.int IntKind.i32 (1478 : Int),
Value.int IntKind.u8 (6 : Int), Value.int IntKind.i32 (1479 : Int), Value.int IntKind.u8 (2 : Int),
Value.int IntKind.i32 (1480 : Int), Value.int IntKind.u8 (8 : Int), Value.int IntKind.i32 (1488 : Int),
Value.int IntKind.u8 (3 : Int), Value.int IntKind.i32 (1523 : Int), Value.int IntKind.u8 (6 : Int),
Value.int IntKind.i32 (1525 : Int), Value.int IntKind.u8 (8 : Int), Value.int IntKind.i32 (1548 : Int),
Value.int IntKind.u8 (6 : Int), Value.int IntKind.i32 (1550 : Int), Value.int IntKind.u8 (8 : Int),
Value.int IntKind.i32 (1552 : Int), Value.int IntKind.u8 (2 : Int), Value.int IntKind.i32 (1563 : Int),
Value.int IntKind.u8 (6 : Int), Value.int IntKind.i32 (1564 : Int), Value.int IntKind.u8 (1 : Int),
Value.int IntKind.i32 (1565 : Int), Value.int IntKind.u8 (6 : Int), Value.int IntKind.i32 (1568 : Int),
Value.int IntKind.u8 (3 : Int), Value.int IntKind.i32 (1611 : Int), Value.int IntKind.u8 (2 : Int),
Value.int IntKind.i32 (1632 : Int), Value.int IntKind.u8 (4 : Int), Value.int IntKind.i32 (1642 : Int),
Value.int IntKind.u8 (6 : Int), Value.int IntKind.i32 (1646 : Int), Value.int IntKind.u8 (3 : Int),
Value.int IntKind.i32 (1648 : Int), Value.int IntKind.u8 (2 : Int), Value.int IntKind.i32 (1649 : Int),
Value.int IntKind.u8 (3 : Int), Value.int IntKind.i32 (1748 : Int), Value.int IntKind.u8 (6 : Int),
Value.int IntKind.i32 (1749 : Int), Value.int IntKind.u8 (3 : Int), Value.int IntKind.i32 (1750 : Int),
Value.int IntKind.u8 (2 : Int), Value.int IntKind.i32 (1757 : Int), Value.int IntKind.u8 (3 : Int),
Value.int IntKind.i32 (1759 : Int), Value.int IntKind.u8 (2 : Int), Value.int IntKind.i32 (1765 : Int),
Value.int IntKind.u8 (3 : Int), Value.int IntKind.i32 (1767 : Int), Value.int IntKind.u8 (2 : Int),
Value.int IntKind.i32 (1769 : Int), Value.int IntKind.u8 (3 : Int), Value.int IntKind.i32 (1770 : Int),
Value.int IntKind.u8 (2 : Int), Value.int IntKind.i32 (1774 : Int), Value.int IntKind.u8 (3 : Int),
Value.int IntKind.i32 (1776 : Int), Value.int IntKind.u8 (4 : Int), Value.int IntKind.i32 (1786 : Int),
Value.int IntKind.u8 (3 : Int), Value.int IntKind.i32 (1789 : Int), Value.int IntKind.u8 (8 : Int),
Value.int IntKind.i32 (3585 : Int), Value.int IntKind.u8 (3 : Int), Value.int IntKind.i32 (3633 : Int),
Value.int IntKind.u8 (2 : Int), Value.int IntKind.i32 (3634 : Int), Value.int IntKind.u8 (3 : Int),
Value.int IntKind.i32 (3636 : Int), Value.int IntKind.u8 (2 : Int), Value.int IntKind.i32 (3643 : Int),
Value.int IntKind.u8 (3 : Int), Value.int IntKind.i32 (3655 : Int), Value.int IntKind.u8 (2 : Int),
Value.int IntKind.i32 (3663 : Int), Value.int IntKind.u8 (8 : Int), Value.int IntKind.i32 (4256 : Int),
Value.int IntKind.u8 (3 : Int), Value.int IntKind.i32 (4608 : Int), Value.int IntKind.u8 (8 : Int),
Value.int IntKind.i32 (5760 : Int), Value.int IntKind.u8 (5 : Int), Value.int IntKind.i32 (5761 : Int),
Value.int IntKind.u8 (8 : Int), Value.int IntKind.i32 (6832 : Int), Value.int IntKind.u8 (2 : Int),
Value.int IntKind.i32 (6912 : Int), Value.int IntKind.u8 (8 : Int), Value.int IntKind.i32 (7616 : Int),
Value.int IntKind.u8 (2 : Int), Value.int IntKind.i32 (7680 : Int), Value.int IntKind.u8 (3 : Int),
Value.int IntKind.i32 (8192 : Int), Value.int IntKind.u8 (5 : Int), Value.int IntKind.i32 (8203 : Int),
Value.int IntKind.u8 (1 : Int), Value.int IntKind.i32 (8208 : Int), Value.int IntKind.u8 (6 : Int),
Value.int IntKind.i32 (8232 : Int), Value.int IntKind.u8 (5 : Int), Value.int IntKind.i32 (8234 : Int),
Value.int IntKind.u8 (1 : Int), Value.int IntKind.i32 (8239 : Int), Value.int IntKind.u8 (5 : Int),
Value.int IntKind.i32 (8240 : Int), Value.int IntKind.u8 (6 : Int), Value.int IntKind.i32 (8287 : Int),
Value.int IntKind.u8 (5 : Int), Value.int IntKind.i32 (8288 : Int), Value.int IntKind.u8 (1 : Int),
Value.int IntKind.i32 (8298 : Int), Value.int IntKind.u8 (8 : Int), Value.int IntKind.i32 (8352 : Int),
Value.int IntKind.u8 (7 : Int), Value.int IntKind.i32 (8400 : Int), Value.int IntKind.u8 (2 : Int),
Value.int IntKind.i32 (8448 : Int), Value.int IntKind.u8 (7 : Int), Value.int IntKind.i32 (9676 : Int),
Value.int IntKind.u8 (6 : Int), Value.int IntKind.i32 (9677 : Int), Value.int IntKind.u8 (7 : Int),
Value.int IntKind.i32 (11264 : Int), Value.int IntKind.u8 (3 : Int), Value.int IntKind.i32 (11744 : Int),
Value.int IntKind.u8 (8 : Int), Value.int IntKind.i32 (12288 : Int), Value.int IntKind.u8 (5 : Int),
Value.int IntKind.i32 (12289 : Int), Value.int IntKind.u8 (6 : Int), Value.int IntKind.i32 (12292 : Int),
Value.int IntKind.u8 (8 : Int), Value.int IntKind.i32 (12293 : Int), Value.int IntKind.u8 (3 : Int),
Value.int IntKind.i32 (12296 : Int), Value.int IntKind.u8 (6 : Int), Value.int IntKind.i32 (12320 : Int),
Value.int IntKind.u8 (8 : Int), Value.int IntKind.i32 (12330 : Int), Value.int IntKind.u8 (2 : Int),
Value.int IntKind.i32 (12334 : Int), Value.int IntKind.u8 (8 : Int), Value.int IntKind.i32 (12353 : Int),
Value.int IntKind.u8 (3 : Int), Value.int IntKind.i32 (12441 : Int), Value.int IntKind.u8 (2 : Int),
Value.int IntKind.i32 (12443 : Int), Value.int IntKind.u8 (3 : Int), Value.int IntKind.i32 (12544 : Int),
Value.int IntKind.u8 (8 : Int), Value.int IntKind.i32 (12549 : Int), Value.int IntKind.u8 (3 : Int),
Value.int IntKind.i32 (12687 : Int), Value.int IntKind.u8 (8 : Int), Value.int IntKind.i32 (13312 : Int),
Value.int IntKind.u8 (3 : Int), Value.int IntKind.i32 (19904 : Int), Value.int IntKind.u8 (8 : Int),
Value.int IntKind.i32 (19968 : Int), Value.int IntKind.u8 (3 : Int), Value.int IntKind.i32 (40960 : Int),
Value.int IntKind.u8 (8 : Int), Value.int IntKind.i32 (44032 : Int), Value.int IntKind.u8 (3 : Int),
Value.int IntKind.i32 (55204 : Int), Value.int IntKind.u8 (8 : Int), Value.int IntKind.i32 (63744 : Int),
Value.int IntKind.u8 (3 : Int), Value.int IntKind.i32 (64256 : Int), Value.int IntKind.u8 (8 : Int),
Value.int IntKind.i32 (64285 : Int), Value.int IntKind.u8 (3 : Int), Value.int IntKind.i32 (65020 : Int),
Value.int IntKind.u8 (8 : Int), Value.int IntKind.i32 (65024 : Int), Value.int IntKind.u8 (2 : Int),
Value.int IntKind.i32 (65040 : Int), Value.int IntKind.u8 (8 : Int), Value.int IntKind.i32 (65056 : Int),
Value.int IntKind.u8 (2 : Int), Value.int IntKind.i32 (65072 : Int), Value.int IntKind.u8 (8 : Int),
Value.int IntKind.i32 (65136 : Int), Value.int IntKind.u8 (3 : Int), Value.int IntKind.i32 (65277 : Int),
Value.int IntKind.u8 (8 : Int), Value.int IntKind.i32 (65279 : Int), Value.int IntKind.u8 (1 : Int),
Value.int IntKind.i32 (65280 : Int), Value.int IntKind.u8 (8 : Int), Value.int IntKind.i32 (65281 : Int),
Value.int IntKind.u8 (6 : Int), Value.int IntKind.i32 (65296 : Int), Value.int IntKind.u8 (4 : Int),
Value.int IntKind.i32 (65306 : Int), Value.int IntKind.u8 (6 : Int), Value.int IntKind.i32 (65313 : Int),
Value.int IntKind.u8 (3 : Int), Value.int IntKind.i32 (65339 : Int), Value.int IntKind.u8 (6 : Int),
Value.int IntKind.i32 (65345 : Int), Value.int IntKind.u8 (3 : Int), Value.int IntKind.i32 (65371 : Int),
Value.int IntKind.u8 (6 : Int), Value.int IntKind.i32 (65382 : Int), Value.int IntKind.u8 (3 : Int),
Value.int IntKind.i32 (65501 : Int), Value.int IntKind.u8 (8 : Int), Value.int IntKind.i32 (65532 : Int),
Value.int IntKind.u8 (7 : Int), Value.int IntKind.i32 (65534 : Int), Value.int IntKind.u8 (8 : Int),
Value.int IntKind.i32 (126976 : Int), Value.int IntKind.u8 (7 : Int), Value.int IntKind.i32 (129792 : Int),
Value.int IntKind.u8 (8 : Int), Value.int IntKind.i32 (131072 : Int), Value.int IntKind.u8 (3 : Int),
Value.int IntKind.i32 (262142 : Int), Value.int IntKind.u8 (8 : Int)]
(71 : Nat))
b w1 →
∃ (g1 : GFind),
#[Value.slice (some { block := b, off := (0 : Nat) }) (181 : Nat) (181 : Nat), Value.int IntKind.i32 g] =
#[Value.slice (some { block := g1.b, off := (0 : Nat) }) g1.T.length g1.T.length, Value.int IntKind.i32 g1.r] ∧
(CellsT w1 g1.b g1.T ∧
(0 : Nat) < g1.T.length ∧
g1.T.length ≤ (1000 : Nat) ∧ boundsOk g1.T = true ∧ (g1.T.getD (0 : Nat) ((0 : Int), (0 : Int))).fst = (0 : Int)) ∧
∀ (x : Int × Int) (w' : World),
FindOk g1.T (knownF g1.r) x.fst x.snd ∧ Ext w1 w' →
∃ (x1 : Int × Int),
Value.tuple #[Value.int IntKind.u8 x.fst, Value.int IntKind.i32 x.snd] =
Value.tuple #[Value.int IntKind.u8 x1.fst, Value.int IntKind.i32 x1.snd] ∧
FindOk kindT (knownF g) x1.fst x1.snd ∧ Ext w w') :
    ((sTab kindT)).Ok Tryd.prog 48 :=
  ok_of_vc (sTab kindT) (annOf spFind) spFind (fun _ _ => rfl) (fun _ _ => rfl) hsp Tryd.func48 rfl (n := 1) (fun _ => rfl) (by kernel_rfl) (vcast (by kernel_rfl) h)

set_option maxRecDepth 1000000 in
theorem ckind_vc (hsp : SpecsOk Tryd.prog spKind) (h : ∀ (g : Int) (w : World),
True →
∃ (g1 : Int),
#[Value.int IntKind.i32 g] = #[Value.int IntKind.i32 g1] ∧
True ∧
∀ (x : Int × Int) (w' : World),
FindOk kindT (knownF g1) x.fst x.snd ∧ Ext w w' →
InR IntKind.i8 x.fst ∧ ∃ (x1 : Int), Value.int IntKind.i8 x.fst = Value.int IntKind.i8 x1 ∧ x1 = kindR g ∧ Ext w w') :
    ((sRuneX .i8 kindR)).Ok Tryd.prog 36 :=
  ok_of_vc (sRuneX .i8 kindR) (annOf spKind) spKind (fun _ _ => rfl) (fun _ _ => rfl) hsp Tryd.func36 rfl (n := 1) (fun _ => rfl) (by kernel_rfl) (vcast (by kernel_rfl) h)

set_option maxRecDepth 1000000 in
theorem rwid_vc (hsp : SpecsOk Tryd.prog spKnown) (h : ∀ (g : Int) (w : World),
True →
∃ (g1 : Int),
#[Value.int IntKind.i32 g] = #[Value.int IntKind.i32 g1] ∧
True ∧
∀ (x : Int) (w' : World),
x = knownF g1 ∧ w' = w →
bcase
(decide (x ≤ (31 : Int)) ||
(decide (x ≥ (127 : Int)) && decide (x ≤ (159 : Int)) ||
(x == (173 : Int) ||
(x == (1564 : Int) ||
(decide (x ≥ (8203 : Int)) && decide (x ≤ (8207 : Int)) ||
(decide (x ≥ (8234 : Int)) && decide (x ≤ (8238 : Int)) ||
(decide (x ≥ (8288 : Int)) && decide (x ≤ (8297 : Int)) ||
(x == (65279 : Int) ||
(decide (x ≥ (768 : Int)) && decide (x ≤ (879 : Int)) ||
(decide (x ≥ (1155 : Int)) && decide (x ≤ (1161 : Int)) ||
(decide (x ≥ (1425 : Int)) && decide (x ≤ (1469 : Int)) ||
(x == (1471 : Int) ||
(decide (x ≥ (1473 : Int)) && decide (x ≤ (1474 : Int)) ||
(decide (x ≥ (1476 : Int)) && decide (x ≤ (1477 : Int)) ||
(x == (1479 : Int) ||
(decide (x ≥ (1552 : Int)) && decide (x ≤ (1562 : Int)) ||
(decide (x ≥ (1611 : Int)) && decide (x ≤ (1631 : Int)) ||
(x == (1648 : Int) ||
(decide (x ≥ (1750 : Int)) && decide (x ≤ (1756 : Int)) ||
(decide (x ≥ (1759 : Int)) && decide (x ≤ (1764 : Int)) ||
(decide (x ≥ (1767 : Int)) && decide (x ≤ (1768 : Int)) ||
(decide (x ≥ (1770 : Int)) && decide (x ≤ (1773 : Int)) ||
(x == (3633 : Int) ||
(decide (x ≥ (3636 : Int)) && decide (x ≤ (3642 : Int)) ||
(decide (x ≥ (3655 : Int)) && decide (x ≤ (3662 : Int)) ||
(decide (x ≥ (6832 : Int)) && decide (x ≤ (6911 : Int)) ||
(decide (x ≥ (7616 : Int)) && decide (x ≤ (7679 : Int)) ||
(decide (x ≥ (8400 : Int)) && decide (x ≤ (8447 : Int)) ||
(decide (x ≥ (12330 : Int)) && decide (x ≤ (12333 : Int)) ||
(decide (x ≥ (12441 : Int)) && decide (x ≤ (12442 : Int)) ||
(decide (x ≥ (65024 : Int)) && decide (x ≤ (65039 : Int)) ||
(decide (x ≥ (65056 : Int)) && decide (x ≤ (65071 : Int)) ||
decide (x ≥ (4448 : Int)) && decide (x ≤ (4607 : Int))))))))))))))))))))))))))))))))))
(∃ (x1 : Int), Value.int IntKind.i64 (0 : Int) = Value.int IntKind.i64 x1 ∧ x1 = widR g ∧ w' = w)
(bcase
(decide (x ≥ (4352 : Int)) && decide (x ≤ (4447 : Int)) ||
(decide (x ≥ (8986 : Int)) && decide (x ≤ (8987 : Int)) ||
(decide (x ≥ (9001 : Int)) && decide (x ≤ (9002 : Int)) ||
(decide (x ≥ (9193 : Int)) && decide (x ≤ (9203 : Int)) ||
(decide (x ≥ (9748 : Int)) && decide (x ≤ (9749 : Int)) ||
(decide (x ≥ (9800 : Int)) && decide (x ≤ (9811 : Int)) ||
(decide (x ≥ (9917 : Int)) && decide (x ≤ (9918 : Int)) ||
(x == (9989 : Int) ||
(x == (10060 : Int) ||
(decide (x ≥ (10067 : Int)) && decide (x ≤ (10071 : Int)) ||
(decide (x ≥ (10133 : Int)) && decide (x ≤ (10135 : Int)) ||
(x == (11088 : Int) ||
(decide (x ≥ (11904 : Int)) && decide (x ≤ (12350 : Int)) ||
(decide (x ≥ (12353 : Int)) && decide (x ≤ (19903 : Int)) ||
(decide (x ≥ (19968 : Int)) && decide (x ≤ (42191 : Int)) ||
(decide (x ≥ (44032 : Int)) && decide (x ≤ (55203 : Int)) ||
(decide (x ≥ (63744 : Int)) && decide (x ≤ (64255 : Int)) ||
(decide (x ≥ (65072 : Int)) && decide (x ≤ (65135 : Int)) ||
(decide (x ≥ (65281 : Int)) && decide (x ≤ (65376 : Int)) ||
(decide (x ≥ (65504 : Int)) && decide (x ≤ (65510 : Int)) ||
(decide (x ≥ (127744 : Int)) && decide (x ≤ (128591 : Int)) ||
(decide (x ≥ (128640 : Int)) && decide (x ≤ (128767 : Int)) ||
(decide (x ≥ (129280 : Int)) && decide (x ≤ (129791 : Int)) ||
decide (x ≥ (131072 : Int)) && decide (x ≤ (262141 : Int)))))))))))))))))))))))))
(∃ (x1 : Int), Value.int IntKind.i64 (2 : Int) = Value.int IntKind.i64 x1 ∧ x1 = widR g ∧ w' = w)
(bcase
(x == (161 : Int) ||
(x == (164 : Int) ||
(decide (x ≥ (167 : Int)) && decide (x ≤ (168 : Int)) ||
(x == (174 : Int) ||
(decide (x ≥ (176 : Int)) && decide (x ≤ (180 : Int)) ||
(decide (x ≥ (182 : Int)) && decide (x ≤ (186 : Int)) ||
(decide (x ≥ (188 : Int)) && decide (x ≤ (191 : Int)) ||
(x == (215 : Int) ||
(x == (247 : Int) ||
(decide (x ≥ (913 : Int)) && decide (x ≤ (937 : Int)) ||
(decide (x ≥ (945 : Int)) && decide (x ≤ (969 : Int)) ||
(decide (x ≥ (1040 : Int)) && decide (x ≤ (1103 : Int)) ||
(decide (x ≥ (8208 : Int)) && decide (x ≤ (8214 : Int)) ||
(decide (x ≥ (8216 : Int)) && decide (x ≤ (8221 : Int)) ||
(decide (x ≥ (8224 : Int)) && decide (x ≤ (8231 : Int)) ||
(decide (x ≥ (8240 : Int)) && decide (x ≤ (8251 : Int)) ||
(decide (x ≥ (8592 : Int)) && decide (x ≤ (8601 : Int)) ||
(decide (x ≥ (8704 : Int)) && decide (x ≤ (8959 : Int)) ||
(decide (x ≥ (9312 : Int)) && decide (x ≤ (9450 : Int)) ||
(decide (x ≥ (9472 : Int)) && decide (x ≤ (9675 : Int)) ||
(decide (x ≥ (9677 : Int)) && decide (x ≤ (9681 : Int)) ||
(decide (x ≥ (9733 : Int)) && decide (x ≤ (9734 : Int)) ||
(decide (x ≥ (9824 : Int)) && decide (x ≤ (9831 : Int)) ||
decide (x ≥ (57344 : Int)) && decide (x ≤ (63743 : Int)))))))))))))))))))))))))
(∃ (x1 : Int), Value.int IntKind.i64 (3 : Int) = Value.int IntKind.i64 x1 ∧ x1 = widR g ∧ w' = w)
(∃ (x1 : Int), Value.int IntKind.i64 (1 : Int) = Value.int IntKind.i64 x1 ∧ x1 = widR g ∧ w' = w)))) :
    ((sRune .i64 widR)).Ok Tryd.prog 66 :=
  ok_of_vc (sRune .i64 widR) (annOf spKnown) spKnown (fun _ _ => rfl) (fun _ _ => rfl) hsp Tryd.func66 rfl (n := 1) (fun _ => rfl) (by kernel_rfl) (vcast (by kernel_rfl) h)

set_option maxRecDepth 1000000 in
theorem wids_vc (hsp : SpecsOk Tryd.prog spFind) (h : ∀ (g : Int) (w : World),
True →
∀ (b : Nat) (w1 : World),
New w
(Obj.cells
#[Value.int IntKind.i32 (0 : Int), Value.int IntKind.u8 (0 : Int), Value.int IntKind.i32 (32 : Int),
Value.int IntKind.u8 (1 : Int), Value.int IntKind.i32 (127 : Int), Value.int IntKind.u8 (0 : Int),
Value.int IntKind.i32 (160 : Int), Value.int IntKind.u8 (1 : Int), Value.int IntKind.i32 (161 : Int),
Value.int IntKind.u8 (3 : Int), Value.int IntKind.i32 (162 : Int), Value.int IntKind.u8 (1 : Int),
Value.int IntKind.i32 (164 : Int), Value.int IntKind.u8 (3 : Int), Value.int IntKind.i32 (165 : Int),
Value.int IntKind.u8 (1 : Int), Value.int IntKind.i32 (167 : Int), Value.int IntKind.u8 (3 : Int),
Value.int IntKind.i32 (169 : Int), Value.int IntKind.u8 (1 : Int), Value.int IntKind.i32 (173 : Int),
Value.int IntKind.u8 (0 : Int), Value.int IntKind.i32 (174 : Int), Value.int IntKind.u8 (3 : Int),
Value.int IntKind.i32 (175 : Int), Value.int IntKind.u8 (1 : Int), Value.int IntKind.i32 (176 : Int),
Value.int IntKind.u8 (3 : Int), Value.int IntKind.i32 (181 : Int), Value.int IntKind.u8 (1 : Int),
Value.int IntKind.i32 (182 : Int), Value.int IntKind.u8 (3 : Int), Value.int IntKind.i32 (187 : Int),
Value.int IntKind.u8 (1 : Int), Value.int IntKind.i32 (188 : Int), Value.int IntKind.u8 (3 : Int),
Value.int IntKind.i32 (192 : Int), Value.int IntKind.u8 (1 : Int), Value.int IntKind.i32 (215 : Int),
Value.int IntKind.u8 (3 : Int), Value.int IntKind.i32 (216 : Int), Value.int IntKind.u8 (1 : Int),
Value.int IntKind.i32 (247 : Int), Value.int IntKind.u8 (3 : Int), Value.int IntKind.i32 (248 : Int),
Value.int IntKind.u8 (1 : Int), Value.int IntKind.i32 (768 : Int), Value.int IntKind.u8 (0 : Int),
Value.int IntKind.i32 (880 : Int), Value.int IntKind.u8 (1 : Int), Value.int IntKind.i32 (913 : Int),
Value.int IntKind.u8 (3 : Int), Value.int IntKind.i32 (938 : Int), Value.int IntKind.u8 (1 : Int),
Value.int IntKind.i32 (945 : Int), Value.int IntKind.u8 (3 : Int), Value.int IntKind.i32 (970 : Int),
Value.int IntKind.u8 (1 : Int), Value.int IntKind.i32 (1040 : Int), Value.int IntKind.u8 (3 : Int),
Value.int IntKind.i32 (1104 : Int), Value.int IntKind.u8 (1 : Int), Value.int IntKind.i32 (1155 : Int),
Value.int IntKind.u8 (0 : Int), Value.int IntKind.i32 (1162 : Int), Value.int IntKind.u8 (1 : Int),
Value.int IntKind.i32 (1425 : Int), Value.int IntKind.u8 (0 : Int), Value.int IntKind.i32 (1470 : Int),
Value.int IntKind.u8 (1 : Int), Value.int IntKind.i32 (1471 : Int), Value.int IntKind.u8 (0 : Int),
Value.int IntKind.i32 (1472 : Int), Value.int IntKind.u8 (1 : Int), Value.int IntKind.i32 (1473 : Int),
Value.int IntKind.u8 (0 : Int), Value.int IntKind.i32 (1475 : Int), Value.int IntKind.u8 (1 : Int),
Value.int IntKind.i32 (1476 : Int), Value.int IntKind.u8 (0 : Int), Value.int IntKind.i32 (1478 : Int),
Value.int IntKind.u8 (1 : Int), Value.int IntKind.i32 (1479 : Int), Value.int IntKind.u8 (0 : Int),
Value.int IntKind.i32 (1480 : Int), Value.int IntKind.u8 (1 : Int), Value.int IntKind.i32 (1552 : Int),
Value.int IntKind.u8 (0 : Int), Value.int IntKind.i32 (1563 : Int), Value.int IntKind.u8 (1 : Int),
Value.int IntKind.i32 (1564 : Int), Value.int IntKind.u8 (0 : Int), Value.int IntKind.i32 (1565 : Int),
Value.int IntKind.u8 (1 : Int), Value.int IntKind.i32 (1611 : Int), Value.int IntKind.u8 (0 : Int),
Value.int IntKind.i32 (1632 : Int), Value.int IntKind.u8 (1 : Int), Value.int IntKind.i32 (1648 : Int),
Value.int IntKind.u8 (0 : Int), Value.int IntKind.i32 (1649 : Int), Value.int IntKind.u8 (1 : Int),
Value.int IntKind.i32 (1750 : Int), Value.int IntKind.u8 (0 : Int), Value.int IntKind.i32 (1757 : Int),
Value.int IntKind.u8 (1 : Int), Value.int IntKind.i32 (1759 : Int), Value.int IntKind.u8 (0 : Int),
Value.int IntKind.i32 (1765 : Int), Value.int IntKind.u8 (1 : Int), Value.int IntKind.i32 (1767 : Int),
Value.int IntKind.u8 (0 : Int), Value.int IntKind.i32 (1769 : Int), Value.int IntKind.u8 (1 : Int),
Value.int IntKind.i32 (1770 : Int), Value.int IntKind.u8 (0 : Int), Value.int IntKind.i32 (1774 : Int),
Value.int IntKind.u8 (1 : Int), Value.int IntKind.i32 (3633 : Int), Value.int IntKind.u8 (0 : Int),
Value.int IntKind.i32 (3634 : Int), Value.int IntKind.u8 (1 : Int), Value.int IntKind.i32 (3636 : Int),
Value.int IntKind.u8 (0 : Int), Value.int IntKind.i32 (3643 : Int), Value.int IntKind.u8 (1 : Int),
Value.int IntKind.i32 (3655 : Int), Value.int IntKind.u8 (0 : Int), Value.int IntKind.i32 (3663 : Int),
Value.int IntKind.u8 (1 : Int), Value.int IntKind.i32 (4352 : Int), Value.int IntKind.u8 (2 : Int),
Value.int IntKind.i32 (4448 : Int), Value.int IntKind.u8 (0 : Int), Value.int IntKind.i32 (4608 : Int),
Value.int IntKind.u8 (1 : Int), Value.int IntKind.i32 (6832 : Int), Value.int IntKind.u8 (0 : Int),
Value.int IntKind.i32 (6912 : Int), Value.int IntKind.u8 (1 : Int), Value.int IntKind.i32 (7616 : Int),
Value.int IntKind.u8 (0 : Int), Value.int IntKind.i32 (7680 : Int), Value.int IntKind.u8 (1 : Int),
Value.int IntKind.i32 (8203 : Int), Value.int IntKind.u8 (0 : Int), Value.int IntKind.i32 (8208 : Int),
Value.int IntKind.u8 (3 : Int), Value.int IntKind.i32 (8215 : Int), Value.int IntKind.u8 (1 : Int),
Value.int IntKind.i32 (8216 : Int), Value.int IntKind.u8 (3 : Int), Value.int IntKind.i32 (8222 : Int),
Value.int IntKind.u8 (1 : Int), Value.int IntKind.i32 (8224 : Int), Value.int IntKind.u8 (3 : Int),
Value.int IntKind.i32 (8232 : Int), Value.int IntKind.u8 (1 : Int), Value.int IntKind.i32 (8234 : Int),
Value.int IntKind.u8 (0 : Int), Value.int IntKind.i32 (8239 : Int), Value.int IntKind.u8 (1 : Int),
Value.int IntKind.i32 (8240 : Int), Value.int IntKind.u8 (3 : Int), Value.int IntKind.i32 (8252 : Int),
Value.int IntKind.u8 (1 : Int), Value.int IntKind.i32 (8288 : Int), Value.int IntKind.u8 (0 : Int),
Value.int IntKind.i32 (8298 : Int), Value.int IntKind.u8 (1 : Int), Value.int IntKind.i32 (8400 : Int),
Value.int IntKind.u8 (0 : Int), Value.int IntKind.i32 (8448 : Int), Value.int IntKind.u8 (1 : Int),
Value.int IntKind.i32 (8592 : Int), Value.int IntKind.u8 (3 : Int), Value.int IntKind.i32 (8602 : Int),
Value.int IntKind.u8 (1 : Int), Value.int IntKind.i32 (8704 : Int), Value.int IntKind.u8 (3 : Int),
Value.int IntKind.i32 (8960 : Int), Value.int IntKind.u8 (1 : Int), Value.int IntKind.i32 (8986 : Int),
Value.int IntKind.u8 (2 : Int), Value.int IntKind.i32 (8988 : Int), Value.int IntKind.u8 (1 : Int),
Value.int IntKind.i32 (9001 : Int), Value.int IntKind.u8 (2 : Int), Value.int IntKind.i32 (9003 : Int),
Value.int IntKind.u8 (1 : Int), Value.int IntKind.i32 (9193 : Int), Value.int IntKind.u8 (2 : Int),
Value.int IntKind.i32 (9204 : Int), Value.int IntKind.u8 (1 : Int), Value.int IntKind.i32 (9312 : Int),
Value.int IntKind.u8 (3 : Int), Value.int IntKind.i32 (9451 : Int), Value.int IntKind.u8 (1 : Int),
Value.int IntKind.i32 (9472 : Int), Value.int IntKind.u8 (3 : Int), Value.int IntKind.i32 (9676 : Int),
Value.int IntKind.u8 (1 : Int), Value.int IntKind.i32 (9677 : Int), Value.int IntKind.u8 (3 : Int),
Value.int IntKind.i32 (9682 : Int), Value.int IntKind.u8 (1 : Int), Value.int IntKind.i32 (9733 : Int),
Value.int IntKind.u8 (3 : Int), Value.int IntKind.i32 (9735 : Int), Value.int IntKind.u8 (1 : Int),
Value.int IntKind.i32 (9748 : Int), Value.int IntKind.u8 (2 : Int), Value.int IntKind.i32 (9750 : Int),
Value.int IntKind.u8 (1 : Int), Value.int IntKind.i32 (9800 : Int), Value.int IntKind.u8 (2 : Int),
Value.int IntKind.i32 (9812 : Int), Value.int IntKind.u8 (1 : Int), Value.int IntKind.i32 (9824 : Int),
Value.int IntKind.u8 (3 : Int), Value.int IntKind.i32 (9832 : Int), Value.int IntKind.u8 (1 : Int),
Value.int IntKind.i32 (9917 : Int), Value.int IntKind.u8 (2 : Int), Value.int IntKind.i32 (9919 : Int),
Value.int IntKind.u8 (1 : Int), Value.int IntKind.i32 (9989 : Int), Value.int IntKind.u8 (2 : Int),
Value.int IntKind.i32 (9990 : Int), Value.int IntKind.u8 (1 : Int), Value.int IntKind.i32 (10060 : Int),
Value.int IntKind.u8 (2 : Int), Value.int IntKind.i32 (10061 : Int), Value.int IntKind.u8 (1 : Int),
Value.int IntKind.i32 (10067 : Int), Value.int IntKind.u8 (2 : Int), Value.int IntKind.i32 (10072 : Int),
Value.int IntKind.u8 (1 : Int), Value.int IntKind.i32 (10133 : Int), Value.int IntKind.u8 (2 : Int),
Value.int IntKind.i32 (10136 : Int), Value.int IntKind.u8 (1 : Int), Value.int IntKind.i32 (11088 : Int),
Value.int IntKind.u8 (2 : Int), Value.int IntKind.i32 (11089 : Int), Value.int IntKind.u8 (1 : Int),
Value.int IntKind.i32 (11904 : Int), Value.int IntKind.u8 (2 : Int), Value.int IntKind.i32 (12330 : Int),
Value.int IntKind.u8 (0 : Int), Value.int IntKind.i32 (12334 : Int), Value.int IntKind.u8 (2 : Int),
Value.int IntKind.i32 (12351 : Int), Value.int IntKind.u8 (1 : Int), Value.int IntKind.i32 (12353 : Int),
Value.int IntKind.u8 (2 : Int), Value.int IntKind.i32 (12441 : Int), Value.int IntKind.u8 (0 : Int),
Value.int IntKind.i32 (12443 : Int), Value.int IntKind.u8 (2 : Int), Value.int IntKind.i32 (19904 : Int),
Value.int IntKind.u8 (1 : Int), Value.int IntKind.i32 (19968 : Int), Value.int IntKind.u8 (2 : Int),
Value.int IntKind.i32 (42192 : Int), Value.int IntKind.u8 (1 : Int), Value.int IntKind.i32 (44032 : Int),
Value.int IntKind.u8 (2 : Int), Value.int IntKind.i32 (55204 : Int), Value.int IntKind.u8 (1 : Int),
Value.int IntKind.i32 (57344 : Int), Value.int IntKind.u8 (3 : Int), Value.int IntKind.i32 (63744 : Int),
Value.int IntKind.u8 (2 : Int), Value.int IntKind.i32 (64256 : Int), Value.int IntKind.u8 (1 : Int),
Value.int IntKind.i32 (65024 : Int), Value.int IntKind.u8 (0 : Int), Value.int IntKind.i32 (65040 : Int),
Value.int IntKind.u8 (1 : Int), Value.int IntKind.i32 (65056 : Int), Value.int IntKind.u8 (0 : Int),
Value.int IntKind.i32 (65072 : Int), Value.int IntKind.u8 (2 : Int), Value.int IntKind.i32 (65136 : Int),
Value.int IntKind.u8 (1 : Int), Value.int IntKind.i32 (65279 : Int), Value.int IntKind.u8 (0 : Int),
Value.int IntKind.i32 (65280 : Int), Value.int IntKind.u8 (1 : Int), Value.int IntKind.i32 (65281 : Int),
Value.int IntKind.u8 (2 : Int), Value.int IntKind.i32 (65377 : Int), Value.int IntKind.u8 (1 : Int),
Value.int IntKind.i32 (65504 : Int), Value.int IntKind.u8 (2 : Int), Value.int IntKind.i32 (65511 : Int),
Value.int IntKind.u8 (1 : Int), Value.int IntKind.i32 (127744 : Int), Value.int IntKind.u8 (2 : Int),
Value.int IntKind.i32 (128592 : Int), Value.int IntKind.u8 (1 : Int), Value.int IntKind.i32 (128640 : Int),
Value.int IntKind.u8 (2 : Int), Value.int IntKind.i32 (128768 : Int), Value.int IntKind.u8 (1 : Int),
Value.int IntKind.i32 (129280 : Int), Value.int IntKind.u8 (2 : Int), Value.int IntKind.i32 (129792 : Int),
Value.int IntKind.u8 (1 : Int), Value.int IntKind.i32 (131072 : Int), Value.int IntKind.u8 (2 : Int),
Value.int IntKind.i32 (262142 : Int), Value.int IntKind.u8 (1 : Int)]
(83 : Nat))
b w1 →
∃ (g1 : GFind),
#[Value.slice (some { block := b, off := (0 : Nat) }) (157 : Nat) (157 : Nat), Value.int IntKind.i32 g] =
#[Value.slice (some { block := g1.b, off := (0 : Nat) }) g1.T.length g1.T.length, Value.int IntKind.i32 g1.r] ∧
(CellsT w1 g1.b g1.T ∧
(0 : Nat) < g1.T.length ∧
g1.T.length ≤ (1000 : Nat) ∧ boundsOk g1.T = true ∧ (g1.T.getD (0 : Nat) ((0 : Int), (0 : Int))).fst = (0 : Int)) ∧
∀ (x : Int × Int) (w' : World),
FindOk g1.T (knownF g1.r) x.fst x.snd ∧ Ext w1 w' →
∃ (x1 : Int × Int),
Value.tuple #[Value.int IntKind.u8 x.fst, Value.int IntKind.i32 x.snd] =
Value.tuple #[Value.int IntKind.u8 x1.fst, Value.int IntKind.i32 x1.snd] ∧
FindOk widT (knownF g) x1.fst x1.snd ∧ Ext w w') :
    ((sTab widT)).Ok Tryd.prog 60 :=
  ok_of_vc (sTab widT) (annOf spFind) spFind (fun _ _ => rfl) (fun _ _ => rfl) hsp Tryd.func60 rfl (n := 1) (fun _ => rfl) (by kernel_rfl) (vcast (by kernel_rfl) h)

set_option maxRecDepth 1000000 in
theorem rwide_vc (hsp : SpecsOk Tryd.prog spCol) (h : ∀ (g : Int × Bool) (w : World),
True →
∃ (g1 : Int),
#[Value.int IntKind.i32 g.fst] = #[Value.int IntKind.i32 g1] ∧
True ∧
∀ (x : Int) (w' : World),
x = widR g1 ∧ w' = w →
bcase (x == (3 : Int))
(bcase g.snd
(∃ (x1 : Int), Value.int IntKind.i64 (2 : Int) = Value.int IntKind.i64 x1 ∧ x1 = wideR g.fst g.snd ∧ w' = w)
(∃ (x1 : Int), Value.int IntKind.i64 (1 : Int) = Value.int IntKind.i64 x1 ∧ x1 = wideR g.fst g.snd ∧ w' = w))
(∃ (x1 : Int), Value.int IntKind.i64 x = Value.int IntKind.i64 x1 ∧ x1 = wideR g.fst g.snd ∧ w' = w)) :
    ((sWide (fun w w' => w' = w))).Ok Tryd.prog 64 :=
  ok_of_vc (sWide (fun w w' => w' = w)) (annOf spCol) spCol (fun _ _ => rfl) (fun _ _ => rfl) hsp Tryd.func64 rfl (n := 2) (fun _ => rfl) (by kernel_rfl) (vcast (by kernel_rfl) h)

set_option maxRecDepth 1000000 in
theorem cwide_vc (hsp : SpecsOk Tryd.prog spWid) (h : ∀ (g : Int × Bool) (w : World),
True →
∃ (g1 : Int),
#[Value.int IntKind.i32 g.fst] = #[Value.int IntKind.i32 g1] ∧
True ∧
∀ (x : Int × Int) (w' : World),
FindOk widT (knownF g1) x.fst x.snd ∧ Ext w w' →
bcase (decide (x.fst < (3 : Int)))
(InR IntKind.i64 x.fst ∧
∃ (x1 : Int), Value.int IntKind.i64 x.fst = Value.int IntKind.i64 x1 ∧ x1 = wideR g.fst g.snd ∧ Ext w w')
(bcase g.snd
(∃ (x1 : Int), Value.int IntKind.i64 (2 : Int) = Value.int IntKind.i64 x1 ∧ x1 = wideR g.fst g.snd ∧ Ext w w')
(∃ (x1 : Int), Value.int IntKind.i64 (1 : Int) = Value.int IntKind.i64 x1 ∧ x1 = wideR g.fst g.snd ∧ Ext w w'))) :
    ((sWide (fun w w' => Ext w w'))).Ok Tryd.prog 49 :=
  ok_of_vc (sWide (fun w w' => Ext w w')) (annOf spWid) spWid (fun _ _ => rfl) (fun _ _ => rfl) hsp Tryd.func49 rfl (n := 2) (fun _ => rfl) (by kernel_rfl) (vcast (by kernel_rfl) h)

end Go.Proofs.YtniiamobbgnjaaaDoor
