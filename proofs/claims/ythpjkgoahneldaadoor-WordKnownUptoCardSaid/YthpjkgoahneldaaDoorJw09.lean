/-
  Texts joined by program: VgK, Gn, WkK, WkP, VgA, WkA.
-/
import Derived.Test.YthpjkgoahneldaaDoorJw05
import Derived.Test.YthpjkgoahneldaaDoorProg
import Derived.KernelRfl
import Derived.Test.YthpjkgoahneldaaDoorJw03
import Derived.Test.YthpjkgoahneldaaDoorJw08
import Derived.Test.YthpjkgoahneldaaDoorSh
set_option linter.unusedVariables false
set_option linter.unusedSimpArgs false

section
/-
  Verification conditions, printed by a program out of the specifications beside this text: each theorem says that the condition suffices. (Lean's kernel compares the printed condition with what 'wpE' computes.)
-/
set_option linter.unusedVariables false
namespace Go.Proofs.YthpjkgoahneldaaDoor
open Go Go.RowKit Vc Tb Cl

set_option maxRecDepth 1000000 in
theorem known_vc (hsp : SpecsOk Tryd.prog []) (h : ∀ (g : Int) (w : World), True → bcase (decide (g < (0 : Int)) || (decide (g > (1114111 : Int)) || decide (g ≥ (55296 : Int)) && decide (g ≤ (57343 : Int)))) (∃ (x : Int), Value.int IntKind.i32 (65533 : Int) = Value.int IntKind.i32 x ∧ x = knownF g ∧ w = w) (∃ (x : Int), Value.int IntKind.i32 g = Value.int IntKind.i32 x ∧ x = knownF g ∧ w = w)) :
    ((sRune .i32 knownF)).Ok Tryd.prog 128 :=
  ok_of_vc (sRune .i32 knownF) (annOf []) [] (fun _ _ => rfl) (fun _ _ => rfl) hsp Tryd.func128 rfl (n := 1) (fun _ => rfl) (by kernel_rfl) (vcast (by kernel_rfl) h)

set_option maxRecDepth 1000000 in
theorem find_vc (hsp : SpecsOk Tryd.prog []) (h : ∀ (g : GFind) (w : World), CellsT w g.b g.T ∧ (0 : Nat) < g.T.length ∧ g.T.length ≤ (1000 : Nat) ∧ boundsOk g.T = true ∧ (g.T.getD (0 : Nat) ((0 : Int), (0 : Int))).fst = (0 : Int) → bcase (decide (g.r < (0 : Int)) || (decide (g.r > (1114111 : Int)) || decide (g.r ≥ (55296 : Int)) && decide (g.r ≤ (57343 : Int)))) (∃ (c : Unit), Value.int IntKind.i32 (65533 : Int) = Value.int IntKind.i32 (knownF g.r) ∧ w = w) (∃ (c : Unit), Value.int IntKind.i32 g.r = Value.int IntKind.i32 (knownF g.r) ∧ w = w) ∧ ∀ (u : Nat → Value) (c : Unit) (w' : World), w' = w → (∃ (x : Nat × Nat), Value.int IntKind.i64 (0 : Int) = Value.int IntKind.i64 (↑x.fst : Int) ∧ Value.int IntKind.i64 (↑g.T.length : Int) = Value.int IntKind.i64 (↑x.snd : Int) ∧ x.fst < x.snd ∧ x.snd ≤ g.T.length ∧ (g.T.getD x.fst ((0 : Int), (0 : Int))).fst ≤ knownF g.r ∧ (x.snd = g.T.length ∨ knownF g.r < (g.T.getD x.snd ((0 : Int), (0 : Int))).fst) ∧ w' = w') ∧ ∀ (u1 : Nat → Value) (x : Nat × Nat) (w'1 : World), x.fst < x.snd ∧ x.snd ≤ g.T.length ∧ (g.T.getD x.fst ((0 : Int), (0 : Int))).fst ≤ knownF g.r ∧ (x.snd = g.T.length ∨ knownF g.r < (g.T.getD x.snd ((0 : Int), (0 : Int))).fst) ∧ w'1 = w' → InR IntKind.i64 ((↑x.snd : Int) - (↑x.fst : Int)) ∧ bcase (decide ((↑x.snd : Int) - (↑x.fst : Int) > (1 : Int))) (InR IntKind.i64 ((↑x.fst : Int) + (↑x.snd : Int)) ∧ (0 : Int) ≤ (↑x.fst : Int) + (↑x.snd : Int) ∧ (0 : Int) < (2 : Int) ∧ InR IntKind.i64 (((↑x.fst : Int) + (↑x.snd : Int)) / (2 : Int)) ∧ ∃ (k : Nat), ((↑x.fst : Int) + (↑x.snd : Int)) / (2 : Int) = (↑k : Int) ∧ k < g.T.length ∧ ∃ (n : Int), w'1.cell? { block := g.b, off := (0 : Nat) + k * (2 : Nat) } = some (Value.int IntKind.i32 n) ∧ bcase (decide (n > knownF g.r)) (∃ (y : Nat × Nat), Value.int IntKind.i64 (↑x.fst : Int) = Value.int IntKind.i64 (↑y.fst : Int) ∧ Value.int IntKind.i64 (((↑x.fst : Int) + (↑x.snd : Int)) / (2 : Int)) = Value.int IntKind.i64 (↑y.snd : Int) ∧ (y.fst < y.snd ∧ y.snd ≤ g.T.length ∧ (g.T.getD y.fst ((0 : Int), (0 : Int))).fst ≤ knownF g.r ∧ (y.snd = g.T.length ∨ knownF g.r < (g.T.getD y.snd ((0 : Int), (0 : Int))).fst) ∧ w'1 = w') ∧ y.snd - y.fst < x.snd - x.fst) (∃ (y : Nat × Nat), Value.int IntKind.i64 (((↑x.fst : Int) + (↑x.snd : Int)) / (2 : Int)) = Value.int IntKind.i64 (↑y.fst : Int) ∧ Value.int IntKind.i64 (↑x.snd : Int) = Value.int IntKind.i64 (↑y.snd : Int) ∧ (y.fst < y.snd ∧ y.snd ≤ g.T.length ∧ (g.T.getD y.fst ((0 : Int), (0 : Int))).fst ≤ knownF g.r ∧ (y.snd = g.T.length ∨ knownF g.r < (g.T.getD y.snd ((0 : Int), (0 : Int))).fst) ∧ w'1 = w') ∧ y.snd - y.fst < x.snd - x.fst)) (bcase (decide ((↑x.snd : Int) < (↑g.T.length : Int))) (∀ (w1 : World), Drew w'1 w1 → ∃ (k : Nat), (↑x.fst : Int) = (↑k : Int) ∧ k < g.T.length ∧ ∃ (n : Int), w'1.cell? { block := g.b, off := (0 : Nat) + k * (2 : Nat) + (1 : Nat) } = some (Value.int IntKind.u8 n) ∧ ∃ (k1 : Nat), (↑x.snd : Int) = (↑k1 : Int) ∧ k1 < g.T.length ∧ ∃ (n1 : Int),
 w'1.cell? { block := g.b, off := (0 : Nat) + k1 * (2 : Nat) } = some (Value.int IntKind.i32 n1) ∧ InR IntKind.i32 (n1 - (1 : Int)) ∧ ∃ (x1 : Int × Int), Value.tuple #[Value.int IntKind.u8 n, Value.int IntKind.i32 (n1 - (1 : Int))] = Value.tuple #[Value.int IntKind.u8 x1.fst, Value.int IntKind.i32 x1.snd] ∧ FindOk g.T (knownF g.r) x1.fst x1.snd ∧ Ext w w1) (∃ (k : Nat), (↑x.fst : Int) = (↑k : Int) ∧ k < g.T.length ∧ ∃ (n : Int), w'1.cell? { block := g.b, off := (0 : Nat) + k * (2 : Nat) + (1 : Nat) } = some (Value.int IntKind.u8 n) ∧ ∃ (x1 : Int × Int), Value.tuple #[Value.int IntKind.u8 n, Value.int IntKind.i32 (1114111 : Int)] = Value.tuple #[Value.int IntKind.u8 x1.fst, Value.int IntKind.i32 x1.snd] ∧ FindOk g.T (knownF g.r) x1.fst x1.snd ∧ Ext w w'1))) :
    (sFind).Ok Tryd.prog 130 :=
  ok_of_vc sFind (fun g _ => annFind g) [] (fun _ _ => rfl) (fun _ _ => rfl) hsp Tryd.func130 rfl (n := 2) (fun _ => rfl) (by kernel_rfl) (vcast (by kernel_rfl) h)

set_option maxRecDepth 1000000 in
theorem rkind_vc (hsp : SpecsOk Tryd.prog spKnown) (h : ∀ (g : Int) (w : World), True → ∃ (g1 : Int), #[Value.int IntKind.i32 g] = #[Value.int IntKind.i32 g1] ∧ True ∧ ∀ (x : Int) (w' : World), x = knownF g1 ∧ w' = w → bcase (decide (x ≤ (31 : Int)) || decide (x ≥ (127 : Int)) && decide (x ≤ (159 : Int))) (∃ (x1 : Int), Value.int IntKind.i8 (0 : Int) = Value.int IntKind.i8 x1 ∧ x1 = kindR g ∧ w' = w) (bcase (x == (173 : Int) || (x == (1564 : Int) || (decide (x ≥ (8203 : Int)) && decide (x ≤ (8207 : Int)) || (decide (x ≥ (8234 : Int)) && decide (x ≤ (8238 : Int)) || (decide (x ≥ (8288 : Int)) && decide (x ≤ (8297 : Int)) || x == (65279 : Int)))))) (∃ (x1 : Int), Value.int IntKind.i8 (1 : Int) = Value.int IntKind.i8 x1 ∧ x1 = kindR g ∧ w' = w) (bcase (decide (x ≥ (768 : Int)) && decide (x ≤ (879 : Int)) || (decide (x ≥ (1155 : Int)) && decide (x ≤ (1161 : Int)) || (decide (x ≥ (1425 : Int)) && decide (x ≤ (1469 : Int)) || (x == (1471 : Int) || (decide (x ≥ (1473 : Int)) && decide (x ≤ (1474 : Int)) || (decide (x ≥ (1476 : Int)) && decide (x ≤ (1477 : Int)) || (x == (1479 : Int) || (decide (x ≥ (1552 : Int)) && decide (x ≤ (1562 : Int)) || (decide (x ≥ (1611 : Int)) && decide (x ≤ (1631 : Int)) || (x == (1648 : Int) || (decide (x ≥ (1750 : Int)) && decide (x ≤ (1756 : Int)) || (decide (x ≥ (1759 : Int)) && decide (x ≤ (1764 : Int)) || (decide (x ≥ (1767 : Int)) && decide (x ≤ (1768 : Int)) || (decide (x ≥ (1770 : Int)) && decide (x ≤ (1773 : Int)) || (x == (3633 : Int) || (decide (x ≥ (3636 : Int)) && decide (x ≤ (3642 : Int)) || (decide (x ≥ (3655 : Int)) && decide (x ≤ (3662 : Int)) || (decide (x ≥ (6832 : Int)) && decide (x ≤ (6911 : Int)) || (decide (x ≥ (7616 : Int)) && decide (x ≤ (7679 : Int)) || (decide (x ≥ (8400 : Int)) && decide (x ≤ (8447 : Int)) || (decide (x ≥ (12330 : Int)) && decide (x ≤ (12333 : Int)) || (decide (x ≥ (12441 : Int)) && decide (x ≤ (12442 : Int)) || (decide (x ≥ (65024 : Int)) && decide (x ≤ (65039 : Int)) || decide (x ≥ (65056 : Int)) && decide (x ≤ (65071 : Int))))))))))))))))))))))))) (∃ (x1 : Int), Value.int IntKind.i8 (2 : Int) = Value.int IntKind.i8 x1 ∧ x1 = kindR g ∧ w' = w) (bcase (decide (x ≥ (48 : Int)) && decide (x ≤ (57 : Int)) || (decide (x ≥ (1632 : Int)) && decide (x ≤ (1641 : Int)) || (decide (x ≥ (1776 : Int)) && decide (x ≤ (1785 : Int)) || decide (x ≥ (65296 : Int)) && decide (x ≤ (65305 : Int))))) (∃ (x1 : Int), Value.int IntKind.i8 (4 : Int) = Value.int IntKind.i8 x1 ∧ x1 = kindR g ∧ w' = w) (bcase (x == (32 : Int) || (x == (160 : Int) || (x == (5760 : Int) || (decide (x ≥ (8192 : Int)) && decide (x ≤ (8202 : Int)) || (decide (x ≥ (8232 : Int)) && decide (x ≤ (8233 : Int)) || (x == (8239 : Int) || (x == (8287 : Int) || x == (12288 : Int)))))))) (∃ (x1 : Int), Value.int IntKind.i8 (5 : Int) = Value.int IntKind.i8 x1 ∧ x1 = kindR g ∧ w' = w) (bcase (x == (36 : Int) || (x == (43 : Int) || (decide (x ≥ (60 : Int)) && decide (x ≤ (62 : Int)) || (x == (94 : Int) || (x == (96 : Int) ||
 (x == (124 : Int) || (x == (126 : Int) || (decide (x ≥ (162 : Int)) && decide (x ≤ (166 : Int)) || (decide (x ≥ (168 : Int)) && decide (x ≤ (169 : Int)) || (x == (172 : Int) || (decide (x ≥ (174 : Int)) && decide (x ≤ (177 : Int)) || (x == (180 : Int) || (x == (184 : Int) || (x == (215 : Int) || (x == (247 : Int) || (decide (x ≥ (8352 : Int)) && decide (x ≤ (8399 : Int)) || (decide (x ≥ (8448 : Int)) && decide (x ≤ (9675 : Int)) || (decide (x ≥ (9677 : Int)) && decide (x ≤ (11263 : Int)) || (decide (x ≥ (65532 : Int)) && decide (x ≤ (65533 : Int)) || decide (x ≥ (126976 : Int)) && decide (x ≤ (129791 : Int))))))))))))))))))))) (∃ (x1 : Int), Value.int IntKind.i8 (7 : Int) = Value.int IntKind.i8 x1 ∧ x1 = kindR g ∧ w' = w) (bcase (decide (x ≥ (65 : Int)) && decide (x ≤ (90 : Int)) || (decide (x ≥ (97 : Int)) && decide (x ≤ (122 : Int)) || (x == (170 : Int) || (x == (181 : Int) || (x == (186 : Int) || (decide (x ≥ (192 : Int)) && decide (x ≤ (767 : Int)) || (decide (x ≥ (880 : Int)) && decide (x ≤ (883 : Int)) || (decide (x ≥ (886 : Int)) && decide (x ≤ (893 : Int)) || (x == (895 : Int) || (x == (902 : Int) || (decide (x ≥ (904 : Int)) && decide (x ≤ (1153 : Int)) || (decide (x ≥ (1162 : Int)) && decide (x ≤ (1366 : Int)) || (decide (x ≥ (1377 : Int)) && decide (x ≤ (1415 : Int)) || (decide (x ≥ (1488 : Int)) && decide (x ≤ (1522 : Int)) || (decide (x ≥ (1568 : Int)) && decide (x ≤ (1610 : Int)) || (decide (x ≥ (1646 : Int)) && decide (x ≤ (1747 : Int)) || (decide (x ≥ (1749 : Int)) && decide (x ≤ (1788 : Int)) || (decide (x ≥ (3585 : Int)) && decide (x ≤ (3654 : Int)) || (decide (x ≥ (4256 : Int)) && decide (x ≤ (4607 : Int)) || (decide (x ≥ (7680 : Int)) && decide (x ≤ (8191 : Int)) || (decide (x ≥ (11264 : Int)) && decide (x ≤ (11743 : Int)) || (decide (x ≥ (12293 : Int)) && decide (x ≤ (12295 : Int)) || (decide (x ≥ (12353 : Int)) && decide (x ≤ (12543 : Int)) || (decide (x ≥ (12549 : Int)) && decide (x ≤ (12686 : Int)) || (decide (x ≥ (13312 : Int)) && decide (x ≤ (19903 : Int)) || (decide (x ≥ (19968 : Int)) && decide (x ≤ (40959 : Int)) || (decide (x ≥ (44032 : Int)) && decide (x ≤ (55203 : Int)) || (decide (x ≥ (63744 : Int)) && decide (x ≤ (64255 : Int)) || (decide (x ≥ (64285 : Int)) && decide (x ≤ (65019 : Int)) || (decide (x ≥ (65136 : Int)) && decide (x ≤ (65276 : Int)) || (decide (x ≥ (65313 : Int)) && decide (x ≤ (65338 : Int)) || (decide (x ≥ (65345 : Int)) && decide (x ≤ (65370 : Int)) || (decide (x ≥ (65382 : Int)) && decide (x ≤ (65500 : Int)) || decide (x ≥ (131072 : Int)) && decide (x ≤ (262141 : Int))))))))))))))))))))))))))))))))))) (∃ (x1 : Int), Value.int IntKind.i8 (3 : Int) = Value.int IntKind.i8 x1 ∧ x1 = kindR g ∧ w' = w) (bcase (decide (x ≥ (33 : Int)) && decide (x ≤ (64 : Int)) || (decide (x ≥ (91 : Int)) && decide (x ≤ (96 : Int)) || (decide (x ≥ (123 : Int)) && decide (x ≤ (126 : Int)) || (decide (x ≥ (161 : Int)) && decide (x ≤ (191 : Int)) || (x == (894 : Int) || (x == (903 : Int) ||
 (decide (x ≥ (1417 : Int)) && decide (x ≤ (1418 : Int)) || (decide (x ≥ (1470 : Int)) && decide (x ≤ (1478 : Int)) || (decide (x ≥ (1523 : Int)) && decide (x ≤ (1524 : Int)) || (decide (x ≥ (1548 : Int)) && decide (x ≤ (1549 : Int)) || (decide (x ≥ (1563 : Int)) && decide (x ≤ (1567 : Int)) || (decide (x ≥ (1642 : Int)) && decide (x ≤ (1645 : Int)) || (x == (1748 : Int) || (decide (x ≥ (8208 : Int)) && decide (x ≤ (8286 : Int)) || (x == (9676 : Int) || (decide (x ≥ (12289 : Int)) && decide (x ≤ (12291 : Int)) || (decide (x ≥ (12296 : Int)) && decide (x ≤ (12319 : Int)) || (decide (x ≥ (65281 : Int)) && decide (x ≤ (65312 : Int)) || (decide (x ≥ (65339 : Int)) && decide (x ≤ (65344 : Int)) || decide (x ≥ (65371 : Int)) && decide (x ≤ (65381 : Int))))))))))))))))))))) (∃ (x1 : Int), Value.int IntKind.i8 (6 : Int) = Value.int IntKind.i8 x1 ∧ x1 = kindR g ∧ w' = w) (∃ (x1 : Int), Value.int IntKind.i8 (8 : Int) = Value.int IntKind.i8 x1 ∧ x1 = kindR g ∧ w' = w))))))))) :
    ((sRune .i8 kindR)).Ok Tryd.prog 102 :=
  ok_of_vc (sRune .i8 kindR) (annOf spKnown) spKnown (fun _ _ => rfl) (fun _ _ => rfl) hsp Tryd.func102 rfl (n := 1) (fun _ => rfl) (by kernel_rfl) (vcast (by kernel_rfl) h)

set_option maxRecDepth 1000000 in
theorem kinds_vc (hsp : SpecsOk Tryd.prog spFind) (h : ∀ (g : Int) (w : World), True → ∀ (b : Nat) (w1 : World), New w (Obj.cells #[Value.int IntKind.i32 (0 : Int), Value.int IntKind.u8 (0 : Int), Value.int IntKind.i32 (32 : Int), Value.int IntKind.u8 (5 : Int), Value.int IntKind.i32 (33 : Int), Value.int IntKind.u8 (6 : Int), Value.int IntKind.i32 (36 : Int), Value.int IntKind.u8 (7 : Int), Value.int IntKind.i32 (37 : Int), Value.int IntKind.u8 (6 : Int), Value.int IntKind.i32 (43 : Int), Value.int IntKind.u8 (7 : Int), Value.int IntKind.i32 (44 : Int), Value.int IntKind.u8 (6 : Int), Value.int IntKind.i32 (48 : Int), Value.int IntKind.u8 (4 : Int), Value.int IntKind.i32 (58 : Int), Value.int IntKind.u8 (6 : Int), Value.int IntKind.i32 (60 : Int), Value.int IntKind.u8 (7 : Int), Value.int IntKind.i32 (63 : Int), Value.int IntKind.u8 (6 : Int), Value.int IntKind.i32 (65 : Int), Value.int IntKind.u8 (3 : Int), Value.int IntKind.i32 (91 : Int), Value.int IntKind.u8 (6 : Int), Value.int IntKind.i32 (94 : Int), Value.int IntKind.u8 (7 : Int), Value.int IntKind.i32 (95 : Int), Value.int IntKind.u8 (6 : Int), Value.int IntKind.i32 (96 : Int), Value.int IntKind.u8 (7 : Int), Value.int IntKind.i32 (97 : Int), Value.int IntKind.u8 (3 : Int), Value.int IntKind.i32 (123 : Int), Value.int IntKind.u8 (6 : Int), Value.int IntKind.i32 (124 : Int), Value.int IntKind.u8 (7 : Int), Value.int IntKind.i32 (125 : Int), Value.int IntKind.u8 (6 : Int), Value.int IntKind.i32 (126 : Int), Value.int IntKind.u8 (7 : Int), Value.int IntKind.i32 (127 : Int), Value.int IntKind.u8 (0 : Int), Value.int IntKind.i32 (160 : Int), Value.int IntKind.u8 (5 : Int), Value.int IntKind.i32 (161 : Int), Value.int IntKind.u8 (6 : Int), Value.int IntKind.i32 (162 : Int), Value.int IntKind.u8 (7 : Int), Value.int IntKind.i32 (167 : Int), Value.int IntKind.u8 (6 : Int), Value.int IntKind.i32 (168 : Int), Value.int IntKind.u8 (7 : Int), Value.int IntKind.i32 (170 : Int), Value.int IntKind.u8 (3 : Int), Value.int IntKind.i32 (171 : Int), Value.int IntKind.u8 (6 : Int), Value.int IntKind.i32 (172 : Int), Value.int IntKind.u8 (7 : Int), Value.int IntKind.i32 (173 : Int), Value.int IntKind.u8 (1 : Int), Value.int IntKind.i32 (174 : Int), Value.int IntKind.u8 (7 : Int), Value.int IntKind.i32 (178 : Int), Value.int IntKind.u8 (6 : Int), Value.int IntKind.i32 (180 : Int), Value.int IntKind.u8 (7 : Int), Value.int IntKind.i32 (181 : Int), Value.int IntKind.u8 (3 : Int), Value.int IntKind.i32 (182 : Int), Value.int IntKind.u8 (6 : Int), Value.int IntKind.i32 (184 : Int), Value.int IntKind.u8 (7 : Int), Value.int IntKind.i32 (185 : Int), Value.int IntKind.u8 (6 : Int), Value.int IntKind.i32 (186 : Int), Value.int IntKind.u8 (3 : Int), Value.int IntKind.i32 (187 : Int), Value.int IntKind.u8 (6 : Int), Value.int IntKind.i32 (192 : Int), Value.int IntKind.u8 (3 : Int), Value.int IntKind.i32 (215 : Int), Value.int IntKind.u8 (7 : Int),
 Value.int IntKind.i32 (216 : Int), Value.int IntKind.u8 (3 : Int), Value.int IntKind.i32 (247 : Int), Value.int IntKind.u8 (7 : Int), Value.int IntKind.i32 (248 : Int), Value.int IntKind.u8 (3 : Int), Value.int IntKind.i32 (768 : Int), Value.int IntKind.u8 (2 : Int), Value.int IntKind.i32 (880 : Int), Value.int IntKind.u8 (3 : Int), Value.int IntKind.i32 (884 : Int), Value.int IntKind.u8 (8 : Int), Value.int IntKind.i32 (886 : Int), Value.int IntKind.u8 (3 : Int), Value.int IntKind.i32 (894 : Int), Value.int IntKind.u8 (6 : Int), Value.int IntKind.i32 (895 : Int), Value.int IntKind.u8 (3 : Int), Value.int IntKind.i32 (896 : Int), Value.int IntKind.u8 (8 : Int), Value.int IntKind.i32 (902 : Int), Value.int IntKind.u8 (3 : Int), Value.int IntKind.i32 (903 : Int), Value.int IntKind.u8 (6 : Int), Value.int IntKind.i32 (904 : Int), Value.int IntKind.u8 (3 : Int), Value.int IntKind.i32 (1154 : Int), Value.int IntKind.u8 (8 : Int), Value.int IntKind.i32 (1155 : Int), Value.int IntKind.u8 (2 : Int), Value.int IntKind.i32 (1162 : Int), Value.int IntKind.u8 (3 : Int), Value.int IntKind.i32 (1367 : Int), Value.int IntKind.u8 (8 : Int), Value.int IntKind.i32 (1377 : Int), Value.int IntKind.u8 (3 : Int), Value.int IntKind.i32 (1416 : Int), Value.int IntKind.u8 (8 : Int), Value.int IntKind.i32 (1417 : Int), Value.int IntKind.u8 (6 : Int), Value.int IntKind.i32 (1419 : Int), Value.int IntKind.u8 (8 : Int), Value.int IntKind.i32 (1425 : Int), Value.int IntKind.u8 (2 : Int), Value.int IntKind.i32 (1470 : Int), Value.int IntKind.u8 (6 : Int), Value.int IntKind.i32 (1471 : Int), Value.int IntKind.u8 (2 : Int), Value.int IntKind.i32 (1472 : Int), Value.int IntKind.u8 (6 : Int), Value.int IntKind.i32 (1473 : Int), Value.int IntKind.u8 (2 : Int), Value.int IntKind.i32 (1475 : Int), Value.int IntKind.u8 (6 : Int), Value.int IntKind.i32 (1476 : Int), Value.int IntKind.u8 (2 : Int), Value.int IntKind.i32 (1478 : Int), Value.int IntKind.u8 (6 : Int), Value.int IntKind.i32 (1479 : Int), Value.int IntKind.u8 (2 : Int), Value.int IntKind.i32 (1480 : Int), Value.int IntKind.u8 (8 : Int), Value.int IntKind.i32 (1488 : Int), Value.int IntKind.u8 (3 : Int), Value.int IntKind.i32 (1523 : Int), Value.int IntKind.u8 (6 : Int), Value.int IntKind.i32 (1525 : Int), Value.int IntKind.u8 (8 : Int), Value.int IntKind.i32 (1548 : Int), Value.int IntKind.u8 (6 : Int), Value.int IntKind.i32 (1550 : Int), Value.int IntKind.u8 (8 : Int), Value.int IntKind.i32 (1552 : Int), Value.int IntKind.u8 (2 : Int), Value.int IntKind.i32 (1563 : Int), Value.int IntKind.u8 (6 : Int), Value.int IntKind.i32 (1564 : Int), Value.int IntKind.u8 (1 : Int), Value.int IntKind.i32 (1565 : Int), Value.int IntKind.u8 (6 : Int), Value.int IntKind.i32 (1568 : Int), Value.int IntKind.u8 (3 : Int), Value.int IntKind.i32 (1611 : Int), Value.int IntKind.u8 (2 : Int), Value.int IntKind.i32 (1632 : Int), Value.int IntKind.u8 (4 : Int), Value.int IntKind.i32 (1642 : Int),
 Value.int IntKind.u8 (6 : Int), Value.int IntKind.i32 (1646 : Int), Value.int IntKind.u8 (3 : Int), Value.int IntKind.i32 (1648 : Int), Value.int IntKind.u8 (2 : Int), Value.int IntKind.i32 (1649 : Int), Value.int IntKind.u8 (3 : Int), Value.int IntKind.i32 (1748 : Int), Value.int IntKind.u8 (6 : Int), Value.int IntKind.i32 (1749 : Int), Value.int IntKind.u8 (3 : Int), Value.int IntKind.i32 (1750 : Int), Value.int IntKind.u8 (2 : Int), Value.int IntKind.i32 (1757 : Int), Value.int IntKind.u8 (3 : Int), Value.int IntKind.i32 (1759 : Int), Value.int IntKind.u8 (2 : Int), Value.int IntKind.i32 (1765 : Int), Value.int IntKind.u8 (3 : Int), Value.int IntKind.i32 (1767 : Int), Value.int IntKind.u8 (2 : Int), Value.int IntKind.i32 (1769 : Int), Value.int IntKind.u8 (3 : Int), Value.int IntKind.i32 (1770 : Int), Value.int IntKind.u8 (2 : Int), Value.int IntKind.i32 (1774 : Int), Value.int IntKind.u8 (3 : Int), Value.int IntKind.i32 (1776 : Int), Value.int IntKind.u8 (4 : Int), Value.int IntKind.i32 (1786 : Int), Value.int IntKind.u8 (3 : Int), Value.int IntKind.i32 (1789 : Int), Value.int IntKind.u8 (8 : Int), Value.int IntKind.i32 (3585 : Int), Value.int IntKind.u8 (3 : Int), Value.int IntKind.i32 (3633 : Int), Value.int IntKind.u8 (2 : Int), Value.int IntKind.i32 (3634 : Int), Value.int IntKind.u8 (3 : Int), Value.int IntKind.i32 (3636 : Int), Value.int IntKind.u8 (2 : Int), Value.int IntKind.i32 (3643 : Int), Value.int IntKind.u8 (3 : Int), Value.int IntKind.i32 (3655 : Int), Value.int IntKind.u8 (2 : Int), Value.int IntKind.i32 (3663 : Int), Value.int IntKind.u8 (8 : Int), Value.int IntKind.i32 (4256 : Int), Value.int IntKind.u8 (3 : Int), Value.int IntKind.i32 (4608 : Int), Value.int IntKind.u8 (8 : Int), Value.int IntKind.i32 (5760 : Int), Value.int IntKind.u8 (5 : Int), Value.int IntKind.i32 (5761 : Int), Value.int IntKind.u8 (8 : Int), Value.int IntKind.i32 (6832 : Int), Value.int IntKind.u8 (2 : Int), Value.int IntKind.i32 (6912 : Int), Value.int IntKind.u8 (8 : Int), Value.int IntKind.i32 (7616 : Int), Value.int IntKind.u8 (2 : Int), Value.int IntKind.i32 (7680 : Int), Value.int IntKind.u8 (3 : Int), Value.int IntKind.i32 (8192 : Int), Value.int IntKind.u8 (5 : Int), Value.int IntKind.i32 (8203 : Int), Value.int IntKind.u8 (1 : Int), Value.int IntKind.i32 (8208 : Int), Value.int IntKind.u8 (6 : Int), Value.int IntKind.i32 (8232 : Int), Value.int IntKind.u8 (5 : Int), Value.int IntKind.i32 (8234 : Int), Value.int IntKind.u8 (1 : Int), Value.int IntKind.i32 (8239 : Int), Value.int IntKind.u8 (5 : Int), Value.int IntKind.i32 (8240 : Int), Value.int IntKind.u8 (6 : Int), Value.int IntKind.i32 (8287 : Int), Value.int IntKind.u8 (5 : Int), Value.int IntKind.i32 (8288 : Int), Value.int IntKind.u8 (1 : Int), Value.int IntKind.i32 (8298 : Int), Value.int IntKind.u8 (8 : Int), Value.int IntKind.i32 (8352 : Int), Value.int IntKind.u8 (7 : Int), Value.int IntKind.i32 (8400 : Int), Value.int IntKind.u8 (2 : Int),
 Value.int IntKind.i32 (8448 : Int), Value.int IntKind.u8 (7 : Int), Value.int IntKind.i32 (9676 : Int), Value.int IntKind.u8 (6 : Int), Value.int IntKind.i32 (9677 : Int), Value.int IntKind.u8 (7 : Int), Value.int IntKind.i32 (11264 : Int), Value.int IntKind.u8 (3 : Int), Value.int IntKind.i32 (11744 : Int), Value.int IntKind.u8 (8 : Int), Value.int IntKind.i32 (12288 : Int), Value.int IntKind.u8 (5 : Int), Value.int IntKind.i32 (12289 : Int), Value.int IntKind.u8 (6 : Int), Value.int IntKind.i32 (12292 : Int), Value.int IntKind.u8 (8 : Int), Value.int IntKind.i32 (12293 : Int), Value.int IntKind.u8 (3 : Int), Value.int IntKind.i32 (12296 : Int), Value.int IntKind.u8 (6 : Int), Value.int IntKind.i32 (12320 : Int), Value.int IntKind.u8 (8 : Int), Value.int IntKind.i32 (12330 : Int), Value.int IntKind.u8 (2 : Int), Value.int IntKind.i32 (12334 : Int), Value.int IntKind.u8 (8 : Int), Value.int IntKind.i32 (12353 : Int), Value.int IntKind.u8 (3 : Int), Value.int IntKind.i32 (12441 : Int), Value.int IntKind.u8 (2 : Int), Value.int IntKind.i32 (12443 : Int), Value.int IntKind.u8 (3 : Int), Value.int IntKind.i32 (12544 : Int), Value.int IntKind.u8 (8 : Int), Value.int IntKind.i32 (12549 : Int), Value.int IntKind.u8 (3 : Int), Value.int IntKind.i32 (12687 : Int), Value.int IntKind.u8 (8 : Int), Value.int IntKind.i32 (13312 : Int), Value.int IntKind.u8 (3 : Int), Value.int IntKind.i32 (19904 : Int), Value.int IntKind.u8 (8 : Int), Value.int IntKind.i32 (19968 : Int), Value.int IntKind.u8 (3 : Int), Value.int IntKind.i32 (40960 : Int), Value.int IntKind.u8 (8 : Int), Value.int IntKind.i32 (44032 : Int), Value.int IntKind.u8 (3 : Int), Value.int IntKind.i32 (55204 : Int), Value.int IntKind.u8 (8 : Int), Value.int IntKind.i32 (63744 : Int), Value.int IntKind.u8 (3 : Int), Value.int IntKind.i32 (64256 : Int), Value.int IntKind.u8 (8 : Int), Value.int IntKind.i32 (64285 : Int), Value.int IntKind.u8 (3 : Int), Value.int IntKind.i32 (65020 : Int), Value.int IntKind.u8 (8 : Int), Value.int IntKind.i32 (65024 : Int), Value.int IntKind.u8 (2 : Int), Value.int IntKind.i32 (65040 : Int), Value.int IntKind.u8 (8 : Int), Value.int IntKind.i32 (65056 : Int), Value.int IntKind.u8 (2 : Int), Value.int IntKind.i32 (65072 : Int), Value.int IntKind.u8 (8 : Int), Value.int IntKind.i32 (65136 : Int), Value.int IntKind.u8 (3 : Int), Value.int IntKind.i32 (65277 : Int), Value.int IntKind.u8 (8 : Int), Value.int IntKind.i32 (65279 : Int), Value.int IntKind.u8 (1 : Int), Value.int IntKind.i32 (65280 : Int), Value.int IntKind.u8 (8 : Int), Value.int IntKind.i32 (65281 : Int), Value.int IntKind.u8 (6 : Int), Value.int IntKind.i32 (65296 : Int), Value.int IntKind.u8 (4 : Int), Value.int IntKind.i32 (65306 : Int), Value.int IntKind.u8 (6 : Int), Value.int IntKind.i32 (65313 : Int), Value.int IntKind.u8 (3 : Int), Value.int IntKind.i32 (65339 : Int), Value.int IntKind.u8 (6 : Int),
 Value.int IntKind.i32 (65345 : Int), Value.int IntKind.u8 (3 : Int), Value.int IntKind.i32 (65371 : Int), Value.int IntKind.u8 (6 : Int), Value.int IntKind.i32 (65382 : Int), Value.int IntKind.u8 (3 : Int), Value.int IntKind.i32 (65501 : Int), Value.int IntKind.u8 (8 : Int), Value.int IntKind.i32 (65532 : Int), Value.int IntKind.u8 (7 : Int), Value.int IntKind.i32 (65534 : Int), Value.int IntKind.u8 (8 : Int), Value.int IntKind.i32 (126976 : Int), Value.int IntKind.u8 (7 : Int), Value.int IntKind.i32 (129792 : Int), Value.int IntKind.u8 (8 : Int), Value.int IntKind.i32 (131072 : Int), Value.int IntKind.u8 (3 : Int), Value.int IntKind.i32 (262142 : Int), Value.int IntKind.u8 (8 : Int)] (124 : Nat)) b w1 → ∃ (g1 : GFind), #[Value.slice (some { block := b, off := (0 : Nat) }) (181 : Nat) (181 : Nat), Value.int IntKind.i32 g] = #[Value.slice (some { block := g1.b, off := (0 : Nat) }) g1.T.length g1.T.length, Value.int IntKind.i32 g1.r] ∧ (CellsT w1 g1.b g1.T ∧ (0 : Nat) < g1.T.length ∧ g1.T.length ≤ (1000 : Nat) ∧ boundsOk g1.T = true ∧ (g1.T.getD (0 : Nat) ((0 : Int), (0 : Int))).fst = (0 : Int)) ∧ ∀ (x : Int × Int) (w' : World), FindOk g1.T (knownF g1.r) x.fst x.snd ∧ Ext w1 w' → ∃ (x1 : Int × Int), Value.tuple #[Value.int IntKind.u8 x.fst, Value.int IntKind.i32 x.snd] = Value.tuple #[Value.int IntKind.u8 x1.fst, Value.int IntKind.i32 x1.snd] ∧ FindOk kindT (knownF g) x1.fst x1.snd ∧ Ext w w') :
    ((sTab kindT)).Ok Tryd.prog 106 :=
  ok_of_vc (sTab kindT) (annOf spFind) spFind (fun _ _ => rfl) (fun _ _ => rfl) hsp Tryd.func106 rfl (n := 1) (fun _ => rfl) (by kernel_rfl) (vcast (by kernel_rfl) h)

set_option maxRecDepth 1000000 in
theorem ckind_vc (hsp : SpecsOk Tryd.prog spKind) (h : ∀ (g : Int) (w : World), True → ∃ (g1 : Int), #[Value.int IntKind.i32 g] = #[Value.int IntKind.i32 g1] ∧ True ∧ ∀ (x : Int × Int) (w' : World), FindOk kindT (knownF g1) x.fst x.snd ∧ Ext w w' → InR IntKind.i8 x.fst ∧ ∃ (x1 : Int), Value.int IntKind.i8 x.fst = Value.int IntKind.i8 x1 ∧ x1 = kindR g ∧ Ext w w') :
    ((sRuneX .i8 kindR)).Ok Tryd.prog 75 :=
  ok_of_vc (sRuneX .i8 kindR) (annOf spKind) spKind (fun _ _ => rfl) (fun _ _ => rfl) hsp Tryd.func75 rfl (n := 1) (fun _ => rfl) (by kernel_rfl) (vcast (by kernel_rfl) h)

set_option maxRecDepth 1000000 in
theorem rbrk_vc (hsp : SpecsOk Tryd.prog spKnown) (h : ∀ (g : Int) (w : World), True → ∃ (g1 : Int), #[Value.int IntKind.i32 g] = #[Value.int IntKind.i32 g1] ∧ True ∧ ∀ (x : Int) (w' : World), x = knownF g1 ∧ w' = w → bcase (decide (x ≥ (10 : Int)) && decide (x ≤ (13 : Int)) || (x == (133 : Int) || decide (x ≥ (8232 : Int)) && decide (x ≤ (8233 : Int)))) (∃ (x1 : Int), Value.int IntKind.i8 (2 : Int) = Value.int IntKind.i8 x1 ∧ x1 = brkR g ∧ w' = w) (bcase (x == (8203 : Int)) (∃ (x1 : Int), Value.int IntKind.i8 (9 : Int) = Value.int IntKind.i8 x1 ∧ x1 = brkR g ∧ w' = w) (bcase (x == (9 : Int) || (x == (32 : Int) || (x == (5760 : Int) || (decide (x ≥ (8192 : Int)) && decide (x ≤ (8198 : Int)) || (decide (x ≥ (8200 : Int)) && decide (x ≤ (8202 : Int)) || (x == (8287 : Int) || x == (12288 : Int))))))) (∃ (x1 : Int), Value.int IntKind.i8 (1 : Int) = Value.int IntKind.i8 x1 ∧ x1 = brkR g ∧ w' = w) (bcase (x == (160 : Int) || (x == (8199 : Int) || (x == (8239 : Int) || (x == (8288 : Int) || x == (65279 : Int))))) (∃ (x1 : Int), Value.int IntKind.i8 (5 : Int) = Value.int IntKind.i8 x1 ∧ x1 = brkR g ∧ w' = w) (bcase (x == (8205 : Int)) (∃ (x1 : Int), Value.int IntKind.i8 (12 : Int) = Value.int IntKind.i8 x1 ∧ x1 = brkR g ∧ w' = w) (bcase (x == (45 : Int) || (x == (173 : Int) || (x == (1418 : Int) || (x == (1470 : Int) || (x == (8208 : Int) || decide (x ≥ (8210 : Int)) && decide (x ≤ (8212 : Int))))))) (∃ (x1 : Int), Value.int IntKind.i8 (6 : Int) = Value.int IntKind.i8 x1 ∧ x1 = brkR g ∧ w' = w) (bcase (decide (x ≤ (31 : Int)) || (decide (x ≥ (127 : Int)) && decide (x ≤ (159 : Int)) || (x == (173 : Int) || (x == (1564 : Int) || (decide (x ≥ (8203 : Int)) && decide (x ≤ (8207 : Int)) || (decide (x ≥ (8234 : Int)) && decide (x ≤ (8238 : Int)) || (decide (x ≥ (8288 : Int)) && decide (x ≤ (8297 : Int)) || (x == (65279 : Int) || (decide (x ≥ (768 : Int)) && decide (x ≤ (879 : Int)) || (decide (x ≥ (1155 : Int)) && decide (x ≤ (1161 : Int)) || (decide (x ≥ (1425 : Int)) && decide (x ≤ (1469 : Int)) || (x == (1471 : Int) || (decide (x ≥ (1473 : Int)) && decide (x ≤ (1474 : Int)) || (decide (x ≥ (1476 : Int)) && decide (x ≤ (1477 : Int)) || (x == (1479 : Int) || (decide (x ≥ (1552 : Int)) && decide (x ≤ (1562 : Int)) || (decide (x ≥ (1611 : Int)) && decide (x ≤ (1631 : Int)) || (x == (1648 : Int) || (decide (x ≥ (1750 : Int)) && decide (x ≤ (1756 : Int)) || (decide (x ≥ (1759 : Int)) && decide (x ≤ (1764 : Int)) || (decide (x ≥ (1767 : Int)) && decide (x ≤ (1768 : Int)) || (decide (x ≥ (1770 : Int)) && decide (x ≤ (1773 : Int)) || (x == (3633 : Int) || (decide (x ≥ (3636 : Int)) && decide (x ≤ (3642 : Int)) || (decide (x ≥ (3655 : Int)) && decide (x ≤ (3662 : Int)) || (decide (x ≥ (6832 : Int)) && decide (x ≤ (6911 : Int)) || (decide (x ≥ (7616 : Int)) && decide (x ≤ (7679 : Int)) || (decide (x ≥ (8400 : Int)) && decide (x ≤ (8447 : Int)) || (decide (x ≥ (12330 : Int)) && decide (x ≤ (12333 : Int)) || (decide (x ≥ (12441 : Int)) && decide (x ≤ (12442 : Int)) ||
 (decide (x ≥ (65024 : Int)) && decide (x ≤ (65039 : Int)) || decide (x ≥ (65056 : Int)) && decide (x ≤ (65071 : Int))))))))))))))))))))))))))))))))) (∃ (x1 : Int), Value.int IntKind.i8 (8 : Int) = Value.int IntKind.i8 x1 ∧ x1 = brkR g ∧ w' = w) (bcase (decide (x ≥ (48 : Int)) && decide (x ≤ (57 : Int)) || (decide (x ≥ (1632 : Int)) && decide (x ≤ (1641 : Int)) || (decide (x ≥ (1776 : Int)) && decide (x ≤ (1785 : Int)) || decide (x ≥ (65296 : Int)) && decide (x ≤ (65305 : Int))))) (∃ (x1 : Int), Value.int IntKind.i8 (10 : Int) = Value.int IntKind.i8 x1 ∧ x1 = brkR g ∧ w' = w) (bcase (x == (44 : Int) || (decide (x ≥ (46 : Int)) && decide (x ≤ (47 : Int)) || (decide (x ≥ (58 : Int)) && decide (x ≤ (59 : Int)) || (x == (1548 : Int) || decide (x ≥ (1643 : Int)) && decide (x ≤ (1644 : Int)))))) (∃ (x1 : Int), Value.int IntKind.i8 (11 : Int) = Value.int IntKind.i8 x1 ∧ x1 = brkR g ∧ w' = w) (bcase (x == (40 : Int) || (x == (91 : Int) || (x == (123 : Int) || (x == (161 : Int) || (x == (171 : Int) || (x == (191 : Int) || (x == (8216 : Int) || (x == (8218 : Int) || (x == (8220 : Int) || (x == (8222 : Int) || (x == (8249 : Int) || (x == (12296 : Int) || (x == (12298 : Int) || (x == (12300 : Int) || (x == (12302 : Int) || (x == (12304 : Int) || (x == (12308 : Int) || (x == (12310 : Int) || (x == (12312 : Int) || (x == (12314 : Int) || (x == (65288 : Int) || (x == (65339 : Int) || (x == (65371 : Int) || x == (65375 : Int)))))))))))))))))))))))) (∃ (x1 : Int), Value.int IntKind.i8 (3 : Int) = Value.int IntKind.i8 x1 ∧ x1 = brkR g ∧ w' = w) (bcase (x == (33 : Int) || (x == (41 : Int) || (x == (63 : Int) || (x == (93 : Int) || (x == (125 : Int) || (x == (187 : Int) || (x == (1563 : Int) || (x == (1567 : Int) || (x == (8217 : Int) || (x == (8221 : Int) || (x == (8250 : Int) || (decide (x ≥ (12289 : Int)) && decide (x ≤ (12290 : Int)) || (x == (12297 : Int) || (x == (12299 : Int) || (x == (12301 : Int) || (x == (12303 : Int) || (x == (12305 : Int) || (x == (12309 : Int) || (x == (12311 : Int) || (x == (12313 : Int) || (x == (12315 : Int) || (x == (65281 : Int) || (x == (65289 : Int) || (x == (65292 : Int) || (x == (65294 : Int) || (decide (x ≥ (65306 : Int)) && decide (x ≤ (65307 : Int)) || (x == (65311 : Int) || (x == (65341 : Int) || (x == (65373 : Int) || x == (65376 : Int)))))))))))))))))))))))))))))) (∃ (x1 : Int), Value.int IntKind.i8 (4 : Int) = Value.int IntKind.i8 x1 ∧ x1 = brkR g ∧ w' = w) (bcase (decide (x ≥ (11904 : Int)) && decide (x ≤ (12351 : Int)) || (decide (x ≥ (12353 : Int)) && decide (x ≤ (19903 : Int)) || (decide (x ≥ (19968 : Int)) && decide (x ≤ (42191 : Int)) || (decide (x ≥ (44032 : Int)) && decide (x ≤ (55203 : Int)) || (decide (x ≥ (63744 : Int)) && decide (x ≤ (64255 : Int)) || (decide (x ≥ (65282 : Int)) && decide (x ≤ (65374 : Int)) || (decide (x ≥ (127744 : Int)) && decide (x ≤ (129791 : Int)) || decide (x ≥ (131072 : Int)) && decide (x ≤ (262141 : Int)))))))))
 (∃ (x1 : Int), Value.int IntKind.i8 (7 : Int) = Value.int IntKind.i8 x1 ∧ x1 = brkR g ∧ w' = w) (∃ (x1 : Int), Value.int IntKind.i8 (0 : Int) = Value.int IntKind.i8 x1 ∧ x1 = brkR g ∧ w' = w))))))))))))) :
    ((sRune .i8 brkR)).Ok Tryd.prog 87 :=
  ok_of_vc (sRune .i8 brkR) (annOf spKnown) spKnown (fun _ _ => rfl) (fun _ _ => rfl) hsp Tryd.func87 rfl (n := 1) (fun _ => rfl) (by kernel_rfl) (vcast (by kernel_rfl) h)

set_option maxRecDepth 1000000 in
theorem brks_vc (hsp : SpecsOk Tryd.prog spFind) (h : ∀ (g : Int) (w : World), True → ∀ (b : Nat) (w1 : World), New w (Obj.cells #[Value.int IntKind.i32 (0 : Int), Value.int IntKind.u8 (8 : Int), Value.int IntKind.i32 (9 : Int), Value.int IntKind.u8 (1 : Int), Value.int IntKind.i32 (10 : Int), Value.int IntKind.u8 (2 : Int), Value.int IntKind.i32 (14 : Int), Value.int IntKind.u8 (8 : Int), Value.int IntKind.i32 (32 : Int), Value.int IntKind.u8 (1 : Int), Value.int IntKind.i32 (33 : Int), Value.int IntKind.u8 (4 : Int), Value.int IntKind.i32 (34 : Int), Value.int IntKind.u8 (0 : Int), Value.int IntKind.i32 (40 : Int), Value.int IntKind.u8 (3 : Int), Value.int IntKind.i32 (41 : Int), Value.int IntKind.u8 (4 : Int), Value.int IntKind.i32 (42 : Int), Value.int IntKind.u8 (0 : Int), Value.int IntKind.i32 (44 : Int), Value.int IntKind.u8 (11 : Int), Value.int IntKind.i32 (45 : Int), Value.int IntKind.u8 (6 : Int), Value.int IntKind.i32 (46 : Int), Value.int IntKind.u8 (11 : Int), Value.int IntKind.i32 (48 : Int), Value.int IntKind.u8 (10 : Int), Value.int IntKind.i32 (58 : Int), Value.int IntKind.u8 (11 : Int), Value.int IntKind.i32 (60 : Int), Value.int IntKind.u8 (0 : Int), Value.int IntKind.i32 (63 : Int), Value.int IntKind.u8 (4 : Int), Value.int IntKind.i32 (64 : Int), Value.int IntKind.u8 (0 : Int), Value.int IntKind.i32 (91 : Int), Value.int IntKind.u8 (3 : Int), Value.int IntKind.i32 (92 : Int), Value.int IntKind.u8 (0 : Int), Value.int IntKind.i32 (93 : Int), Value.int IntKind.u8 (4 : Int), Value.int IntKind.i32 (94 : Int), Value.int IntKind.u8 (0 : Int), Value.int IntKind.i32 (123 : Int), Value.int IntKind.u8 (3 : Int), Value.int IntKind.i32 (124 : Int), Value.int IntKind.u8 (0 : Int), Value.int IntKind.i32 (125 : Int), Value.int IntKind.u8 (4 : Int), Value.int IntKind.i32 (126 : Int), Value.int IntKind.u8 (0 : Int), Value.int IntKind.i32 (127 : Int), Value.int IntKind.u8 (8 : Int), Value.int IntKind.i32 (133 : Int), Value.int IntKind.u8 (2 : Int), Value.int IntKind.i32 (134 : Int), Value.int IntKind.u8 (8 : Int), Value.int IntKind.i32 (160 : Int), Value.int IntKind.u8 (5 : Int), Value.int IntKind.i32 (161 : Int), Value.int IntKind.u8 (3 : Int), Value.int IntKind.i32 (162 : Int), Value.int IntKind.u8 (0 : Int), Value.int IntKind.i32 (171 : Int), Value.int IntKind.u8 (3 : Int), Value.int IntKind.i32 (172 : Int), Value.int IntKind.u8 (0 : Int), Value.int IntKind.i32 (173 : Int), Value.int IntKind.u8 (6 : Int), Value.int IntKind.i32 (174 : Int), Value.int IntKind.u8 (0 : Int), Value.int IntKind.i32 (187 : Int), Value.int IntKind.u8 (4 : Int), Value.int IntKind.i32 (188 : Int), Value.int IntKind.u8 (0 : Int), Value.int IntKind.i32 (191 : Int), Value.int IntKind.u8 (3 : Int), Value.int IntKind.i32 (192 : Int), Value.int IntKind.u8 (0 : Int), Value.int IntKind.i32 (768 : Int), Value.int IntKind.u8 (8 : Int), Value.int IntKind.i32 (880 : Int), Value.int IntKind.u8 (0 : Int),
 Value.int IntKind.i32 (1155 : Int), Value.int IntKind.u8 (8 : Int), Value.int IntKind.i32 (1162 : Int), Value.int IntKind.u8 (0 : Int), Value.int IntKind.i32 (1418 : Int), Value.int IntKind.u8 (6 : Int), Value.int IntKind.i32 (1419 : Int), Value.int IntKind.u8 (0 : Int), Value.int IntKind.i32 (1425 : Int), Value.int IntKind.u8 (8 : Int), Value.int IntKind.i32 (1470 : Int), Value.int IntKind.u8 (6 : Int), Value.int IntKind.i32 (1471 : Int), Value.int IntKind.u8 (8 : Int), Value.int IntKind.i32 (1472 : Int), Value.int IntKind.u8 (0 : Int), Value.int IntKind.i32 (1473 : Int), Value.int IntKind.u8 (8 : Int), Value.int IntKind.i32 (1475 : Int), Value.int IntKind.u8 (0 : Int), Value.int IntKind.i32 (1476 : Int), Value.int IntKind.u8 (8 : Int), Value.int IntKind.i32 (1478 : Int), Value.int IntKind.u8 (0 : Int), Value.int IntKind.i32 (1479 : Int), Value.int IntKind.u8 (8 : Int), Value.int IntKind.i32 (1480 : Int), Value.int IntKind.u8 (0 : Int), Value.int IntKind.i32 (1548 : Int), Value.int IntKind.u8 (11 : Int), Value.int IntKind.i32 (1549 : Int), Value.int IntKind.u8 (0 : Int), Value.int IntKind.i32 (1552 : Int), Value.int IntKind.u8 (8 : Int), Value.int IntKind.i32 (1563 : Int), Value.int IntKind.u8 (4 : Int), Value.int IntKind.i32 (1564 : Int), Value.int IntKind.u8 (8 : Int), Value.int IntKind.i32 (1565 : Int), Value.int IntKind.u8 (0 : Int), Value.int IntKind.i32 (1567 : Int), Value.int IntKind.u8 (4 : Int), Value.int IntKind.i32 (1568 : Int), Value.int IntKind.u8 (0 : Int), Value.int IntKind.i32 (1611 : Int), Value.int IntKind.u8 (8 : Int), Value.int IntKind.i32 (1632 : Int), Value.int IntKind.u8 (10 : Int), Value.int IntKind.i32 (1642 : Int), Value.int IntKind.u8 (0 : Int), Value.int IntKind.i32 (1643 : Int), Value.int IntKind.u8 (11 : Int), Value.int IntKind.i32 (1645 : Int), Value.int IntKind.u8 (0 : Int), Value.int IntKind.i32 (1648 : Int), Value.int IntKind.u8 (8 : Int), Value.int IntKind.i32 (1649 : Int), Value.int IntKind.u8 (0 : Int), Value.int IntKind.i32 (1750 : Int), Value.int IntKind.u8 (8 : Int), Value.int IntKind.i32 (1757 : Int), Value.int IntKind.u8 (0 : Int), Value.int IntKind.i32 (1759 : Int), Value.int IntKind.u8 (8 : Int), Value.int IntKind.i32 (1765 : Int), Value.int IntKind.u8 (0 : Int), Value.int IntKind.i32 (1767 : Int), Value.int IntKind.u8 (8 : Int), Value.int IntKind.i32 (1769 : Int), Value.int IntKind.u8 (0 : Int), Value.int IntKind.i32 (1770 : Int), Value.int IntKind.u8 (8 : Int), Value.int IntKind.i32 (1774 : Int), Value.int IntKind.u8 (0 : Int), Value.int IntKind.i32 (1776 : Int), Value.int IntKind.u8 (10 : Int), Value.int IntKind.i32 (1786 : Int), Value.int IntKind.u8 (0 : Int), Value.int IntKind.i32 (3633 : Int), Value.int IntKind.u8 (8 : Int), Value.int IntKind.i32 (3634 : Int), Value.int IntKind.u8 (0 : Int), Value.int IntKind.i32 (3636 : Int), Value.int IntKind.u8 (8 : Int), Value.int IntKind.i32 (3643 : Int), Value.int IntKind.u8 (0 : Int), Value.int IntKind.i32 (3655 : Int),
 Value.int IntKind.u8 (8 : Int), Value.int IntKind.i32 (3663 : Int), Value.int IntKind.u8 (0 : Int), Value.int IntKind.i32 (5760 : Int), Value.int IntKind.u8 (1 : Int), Value.int IntKind.i32 (5761 : Int), Value.int IntKind.u8 (0 : Int), Value.int IntKind.i32 (6832 : Int), Value.int IntKind.u8 (8 : Int), Value.int IntKind.i32 (6912 : Int), Value.int IntKind.u8 (0 : Int), Value.int IntKind.i32 (7616 : Int), Value.int IntKind.u8 (8 : Int), Value.int IntKind.i32 (7680 : Int), Value.int IntKind.u8 (0 : Int), Value.int IntKind.i32 (8192 : Int), Value.int IntKind.u8 (1 : Int), Value.int IntKind.i32 (8199 : Int), Value.int IntKind.u8 (5 : Int), Value.int IntKind.i32 (8200 : Int), Value.int IntKind.u8 (1 : Int), Value.int IntKind.i32 (8203 : Int), Value.int IntKind.u8 (9 : Int), Value.int IntKind.i32 (8204 : Int), Value.int IntKind.u8 (8 : Int), Value.int IntKind.i32 (8205 : Int), Value.int IntKind.u8 (12 : Int), Value.int IntKind.i32 (8206 : Int), Value.int IntKind.u8 (8 : Int), Value.int IntKind.i32 (8208 : Int), Value.int IntKind.u8 (6 : Int), Value.int IntKind.i32 (8209 : Int), Value.int IntKind.u8 (0 : Int), Value.int IntKind.i32 (8210 : Int), Value.int IntKind.u8 (6 : Int), Value.int IntKind.i32 (8213 : Int), Value.int IntKind.u8 (0 : Int), Value.int IntKind.i32 (8216 : Int), Value.int IntKind.u8 (3 : Int), Value.int IntKind.i32 (8217 : Int), Value.int IntKind.u8 (4 : Int), Value.int IntKind.i32 (8218 : Int), Value.int IntKind.u8 (3 : Int), Value.int IntKind.i32 (8219 : Int), Value.int IntKind.u8 (0 : Int), Value.int IntKind.i32 (8220 : Int), Value.int IntKind.u8 (3 : Int), Value.int IntKind.i32 (8221 : Int), Value.int IntKind.u8 (4 : Int), Value.int IntKind.i32 (8222 : Int), Value.int IntKind.u8 (3 : Int), Value.int IntKind.i32 (8223 : Int), Value.int IntKind.u8 (0 : Int), Value.int IntKind.i32 (8232 : Int), Value.int IntKind.u8 (2 : Int), Value.int IntKind.i32 (8234 : Int), Value.int IntKind.u8 (8 : Int), Value.int IntKind.i32 (8239 : Int), Value.int IntKind.u8 (5 : Int), Value.int IntKind.i32 (8240 : Int), Value.int IntKind.u8 (0 : Int), Value.int IntKind.i32 (8249 : Int), Value.int IntKind.u8 (3 : Int), Value.int IntKind.i32 (8250 : Int), Value.int IntKind.u8 (4 : Int), Value.int IntKind.i32 (8251 : Int), Value.int IntKind.u8 (0 : Int), Value.int IntKind.i32 (8287 : Int), Value.int IntKind.u8 (1 : Int), Value.int IntKind.i32 (8288 : Int), Value.int IntKind.u8 (5 : Int), Value.int IntKind.i32 (8289 : Int), Value.int IntKind.u8 (8 : Int), Value.int IntKind.i32 (8298 : Int), Value.int IntKind.u8 (0 : Int), Value.int IntKind.i32 (8400 : Int), Value.int IntKind.u8 (8 : Int), Value.int IntKind.i32 (8448 : Int), Value.int IntKind.u8 (0 : Int), Value.int IntKind.i32 (11904 : Int), Value.int IntKind.u8 (7 : Int), Value.int IntKind.i32 (12288 : Int), Value.int IntKind.u8 (1 : Int), Value.int IntKind.i32 (12289 : Int), Value.int IntKind.u8 (4 : Int), Value.int IntKind.i32 (12291 : Int), Value.int IntKind.u8 (7 : Int),
 Value.int IntKind.i32 (12296 : Int), Value.int IntKind.u8 (3 : Int), Value.int IntKind.i32 (12297 : Int), Value.int IntKind.u8 (4 : Int), Value.int IntKind.i32 (12298 : Int), Value.int IntKind.u8 (3 : Int), Value.int IntKind.i32 (12299 : Int), Value.int IntKind.u8 (4 : Int), Value.int IntKind.i32 (12300 : Int), Value.int IntKind.u8 (3 : Int), Value.int IntKind.i32 (12301 : Int), Value.int IntKind.u8 (4 : Int), Value.int IntKind.i32 (12302 : Int), Value.int IntKind.u8 (3 : Int), Value.int IntKind.i32 (12303 : Int), Value.int IntKind.u8 (4 : Int), Value.int IntKind.i32 (12304 : Int), Value.int IntKind.u8 (3 : Int), Value.int IntKind.i32 (12305 : Int), Value.int IntKind.u8 (4 : Int), Value.int IntKind.i32 (12306 : Int), Value.int IntKind.u8 (7 : Int), Value.int IntKind.i32 (12308 : Int), Value.int IntKind.u8 (3 : Int), Value.int IntKind.i32 (12309 : Int), Value.int IntKind.u8 (4 : Int), Value.int IntKind.i32 (12310 : Int), Value.int IntKind.u8 (3 : Int), Value.int IntKind.i32 (12311 : Int), Value.int IntKind.u8 (4 : Int), Value.int IntKind.i32 (12312 : Int), Value.int IntKind.u8 (3 : Int), Value.int IntKind.i32 (12313 : Int), Value.int IntKind.u8 (4 : Int), Value.int IntKind.i32 (12314 : Int), Value.int IntKind.u8 (3 : Int), Value.int IntKind.i32 (12315 : Int), Value.int IntKind.u8 (4 : Int), Value.int IntKind.i32 (12316 : Int), Value.int IntKind.u8 (7 : Int), Value.int IntKind.i32 (12330 : Int), Value.int IntKind.u8 (8 : Int), Value.int IntKind.i32 (12334 : Int), Value.int IntKind.u8 (7 : Int), Value.int IntKind.i32 (12352 : Int), Value.int IntKind.u8 (0 : Int), Value.int IntKind.i32 (12353 : Int), Value.int IntKind.u8 (7 : Int), Value.int IntKind.i32 (12441 : Int), Value.int IntKind.u8 (8 : Int), Value.int IntKind.i32 (12443 : Int), Value.int IntKind.u8 (7 : Int), Value.int IntKind.i32 (19904 : Int), Value.int IntKind.u8 (0 : Int), Value.int IntKind.i32 (19968 : Int), Value.int IntKind.u8 (7 : Int), Value.int IntKind.i32 (42192 : Int), Value.int IntKind.u8 (0 : Int), Value.int IntKind.i32 (44032 : Int), Value.int IntKind.u8 (7 : Int), Value.int IntKind.i32 (55204 : Int), Value.int IntKind.u8 (0 : Int), Value.int IntKind.i32 (63744 : Int), Value.int IntKind.u8 (7 : Int), Value.int IntKind.i32 (64256 : Int), Value.int IntKind.u8 (0 : Int), Value.int IntKind.i32 (65024 : Int), Value.int IntKind.u8 (8 : Int), Value.int IntKind.i32 (65040 : Int), Value.int IntKind.u8 (0 : Int), Value.int IntKind.i32 (65056 : Int), Value.int IntKind.u8 (8 : Int), Value.int IntKind.i32 (65072 : Int), Value.int IntKind.u8 (0 : Int), Value.int IntKind.i32 (65279 : Int), Value.int IntKind.u8 (5 : Int), Value.int IntKind.i32 (65280 : Int), Value.int IntKind.u8 (0 : Int), Value.int IntKind.i32 (65281 : Int), Value.int IntKind.u8 (4 : Int), Value.int IntKind.i32 (65282 : Int), Value.int IntKind.u8 (7 : Int), Value.int IntKind.i32 (65288 : Int), Value.int IntKind.u8 (3 : Int),
 Value.int IntKind.i32 (65289 : Int), Value.int IntKind.u8 (4 : Int), Value.int IntKind.i32 (65290 : Int), Value.int IntKind.u8 (7 : Int), Value.int IntKind.i32 (65292 : Int), Value.int IntKind.u8 (4 : Int), Value.int IntKind.i32 (65293 : Int), Value.int IntKind.u8 (7 : Int), Value.int IntKind.i32 (65294 : Int), Value.int IntKind.u8 (4 : Int), Value.int IntKind.i32 (65295 : Int), Value.int IntKind.u8 (7 : Int), Value.int IntKind.i32 (65296 : Int), Value.int IntKind.u8 (10 : Int), Value.int IntKind.i32 (65306 : Int), Value.int IntKind.u8 (4 : Int), Value.int IntKind.i32 (65308 : Int), Value.int IntKind.u8 (7 : Int), Value.int IntKind.i32 (65311 : Int), Value.int IntKind.u8 (4 : Int), Value.int IntKind.i32 (65312 : Int), Value.int IntKind.u8 (7 : Int), Value.int IntKind.i32 (65339 : Int), Value.int IntKind.u8 (3 : Int), Value.int IntKind.i32 (65340 : Int), Value.int IntKind.u8 (7 : Int), Value.int IntKind.i32 (65341 : Int), Value.int IntKind.u8 (4 : Int), Value.int IntKind.i32 (65342 : Int), Value.int IntKind.u8 (7 : Int), Value.int IntKind.i32 (65371 : Int), Value.int IntKind.u8 (3 : Int), Value.int IntKind.i32 (65372 : Int), Value.int IntKind.u8 (7 : Int), Value.int IntKind.i32 (65373 : Int), Value.int IntKind.u8 (4 : Int), Value.int IntKind.i32 (65374 : Int), Value.int IntKind.u8 (7 : Int), Value.int IntKind.i32 (65375 : Int), Value.int IntKind.u8 (3 : Int), Value.int IntKind.i32 (65376 : Int), Value.int IntKind.u8 (4 : Int), Value.int IntKind.i32 (65377 : Int), Value.int IntKind.u8 (0 : Int), Value.int IntKind.i32 (127744 : Int), Value.int IntKind.u8 (7 : Int), Value.int IntKind.i32 (129792 : Int), Value.int IntKind.u8 (0 : Int), Value.int IntKind.i32 (131072 : Int), Value.int IntKind.u8 (7 : Int), Value.int IntKind.i32 (262142 : Int), Value.int IntKind.u8 (0 : Int)] (121 : Nat)) b w1 → ∃ (g1 : GFind), #[Value.slice (some { block := b, off := (0 : Nat) }) (197 : Nat) (197 : Nat), Value.int IntKind.i32 g] = #[Value.slice (some { block := g1.b, off := (0 : Nat) }) g1.T.length g1.T.length, Value.int IntKind.i32 g1.r] ∧ (CellsT w1 g1.b g1.T ∧ (0 : Nat) < g1.T.length ∧ g1.T.length ≤ (1000 : Nat) ∧ boundsOk g1.T = true ∧ (g1.T.getD (0 : Nat) ((0 : Int), (0 : Int))).fst = (0 : Int)) ∧ ∀ (x : Int × Int) (w' : World), FindOk g1.T (knownF g1.r) x.fst x.snd ∧ Ext w1 w' → ∃ (x1 : Int × Int), Value.tuple #[Value.int IntKind.u8 x.fst, Value.int IntKind.i32 x.snd] = Value.tuple #[Value.int IntKind.u8 x1.fst, Value.int IntKind.i32 x1.snd] ∧ FindOk brkT (knownF g) x1.fst x1.snd ∧ Ext w w') :
    ((sTab brkT)).Ok Tryd.prog 100 :=
  ok_of_vc (sTab brkT) (annOf spFind) spFind (fun _ _ => rfl) (fun _ _ => rfl) hsp Tryd.func100 rfl (n := 1) (fun _ => rfl) (by kernel_rfl) (vcast (by kernel_rfl) h)

set_option maxRecDepth 1000000 in
theorem cbrk_vc (hsp : SpecsOk Tryd.prog spBreak) (h : ∀ (g : Int) (w : World), True → ∃ (g1 : Int), #[Value.int IntKind.i32 g] = #[Value.int IntKind.i32 g1] ∧ True ∧ ∀ (x : Int × Int) (w' : World), FindOk brkT (knownF g1) x.fst x.snd ∧ Ext w w' → InR IntKind.i8 x.fst ∧ ∃ (x1 : Int), Value.int IntKind.i8 x.fst = Value.int IntKind.i8 x1 ∧ x1 = brkR g ∧ Ext w w') :
    ((sRuneX .i8 brkR)).Ok Tryd.prog 64 :=
  ok_of_vc (sRuneX .i8 brkR) (annOf spBreak) spBreak (fun _ _ => rfl) (fun _ _ => rfl) hsp Tryd.func64 rfl (n := 1) (fun _ => rfl) (by kernel_rfl) (vcast (by kernel_rfl) h)

set_option maxRecDepth 1000000 in
theorem rwid_vc (hsp : SpecsOk Tryd.prog spKnown) (h : ∀ (g : Int) (w : World), True → ∃ (g1 : Int), #[Value.int IntKind.i32 g] = #[Value.int IntKind.i32 g1] ∧ True ∧ ∀ (x : Int) (w' : World), x = knownF g1 ∧ w' = w → bcase (decide (x ≤ (31 : Int)) || (decide (x ≥ (127 : Int)) && decide (x ≤ (159 : Int)) || (x == (173 : Int) || (x == (1564 : Int) || (decide (x ≥ (8203 : Int)) && decide (x ≤ (8207 : Int)) || (decide (x ≥ (8234 : Int)) && decide (x ≤ (8238 : Int)) || (decide (x ≥ (8288 : Int)) && decide (x ≤ (8297 : Int)) || (x == (65279 : Int) || (decide (x ≥ (768 : Int)) && decide (x ≤ (879 : Int)) || (decide (x ≥ (1155 : Int)) && decide (x ≤ (1161 : Int)) || (decide (x ≥ (1425 : Int)) && decide (x ≤ (1469 : Int)) || (x == (1471 : Int) || (decide (x ≥ (1473 : Int)) && decide (x ≤ (1474 : Int)) || (decide (x ≥ (1476 : Int)) && decide (x ≤ (1477 : Int)) || (x == (1479 : Int) || (decide (x ≥ (1552 : Int)) && decide (x ≤ (1562 : Int)) || (decide (x ≥ (1611 : Int)) && decide (x ≤ (1631 : Int)) || (x == (1648 : Int) || (decide (x ≥ (1750 : Int)) && decide (x ≤ (1756 : Int)) || (decide (x ≥ (1759 : Int)) && decide (x ≤ (1764 : Int)) || (decide (x ≥ (1767 : Int)) && decide (x ≤ (1768 : Int)) || (decide (x ≥ (1770 : Int)) && decide (x ≤ (1773 : Int)) || (x == (3633 : Int) || (decide (x ≥ (3636 : Int)) && decide (x ≤ (3642 : Int)) || (decide (x ≥ (3655 : Int)) && decide (x ≤ (3662 : Int)) || (decide (x ≥ (6832 : Int)) && decide (x ≤ (6911 : Int)) || (decide (x ≥ (7616 : Int)) && decide (x ≤ (7679 : Int)) || (decide (x ≥ (8400 : Int)) && decide (x ≤ (8447 : Int)) || (decide (x ≥ (12330 : Int)) && decide (x ≤ (12333 : Int)) || (decide (x ≥ (12441 : Int)) && decide (x ≤ (12442 : Int)) || (decide (x ≥ (65024 : Int)) && decide (x ≤ (65039 : Int)) || (decide (x ≥ (65056 : Int)) && decide (x ≤ (65071 : Int)) || decide (x ≥ (4448 : Int)) && decide (x ≤ (4607 : Int)))))))))))))))))))))))))))))))))) (∃ (x1 : Int), Value.int IntKind.i64 (0 : Int) = Value.int IntKind.i64 x1 ∧ x1 = widR g ∧ w' = w) (bcase (decide (x ≥ (4352 : Int)) && decide (x ≤ (4447 : Int)) || (decide (x ≥ (8986 : Int)) && decide (x ≤ (8987 : Int)) || (decide (x ≥ (9001 : Int)) && decide (x ≤ (9002 : Int)) || (decide (x ≥ (9193 : Int)) && decide (x ≤ (9203 : Int)) || (decide (x ≥ (9748 : Int)) && decide (x ≤ (9749 : Int)) || (decide (x ≥ (9800 : Int)) && decide (x ≤ (9811 : Int)) || (decide (x ≥ (9917 : Int)) && decide (x ≤ (9918 : Int)) || (x == (9989 : Int) || (x == (10060 : Int) || (decide (x ≥ (10067 : Int)) && decide (x ≤ (10071 : Int)) || (decide (x ≥ (10133 : Int)) && decide (x ≤ (10135 : Int)) || (x == (11088 : Int) || (decide (x ≥ (11904 : Int)) && decide (x ≤ (12350 : Int)) || (decide (x ≥ (12353 : Int)) && decide (x ≤ (19903 : Int)) || (decide (x ≥ (19968 : Int)) && decide (x ≤ (42191 : Int)) || (decide (x ≥ (44032 : Int)) && decide (x ≤ (55203 : Int)) || (decide (x ≥ (63744 : Int)) && decide (x ≤ (64255 : Int)) || (decide (x ≥ (65072 : Int)) && decide (x ≤ (65135 : Int)) ||
 (decide (x ≥ (65281 : Int)) && decide (x ≤ (65376 : Int)) || (decide (x ≥ (65504 : Int)) && decide (x ≤ (65510 : Int)) || (decide (x ≥ (127744 : Int)) && decide (x ≤ (128591 : Int)) || (decide (x ≥ (128640 : Int)) && decide (x ≤ (128767 : Int)) || (decide (x ≥ (129280 : Int)) && decide (x ≤ (129791 : Int)) || decide (x ≥ (131072 : Int)) && decide (x ≤ (262141 : Int))))))))))))))))))))))))) (∃ (x1 : Int), Value.int IntKind.i64 (2 : Int) = Value.int IntKind.i64 x1 ∧ x1 = widR g ∧ w' = w) (bcase (x == (161 : Int) || (x == (164 : Int) || (decide (x ≥ (167 : Int)) && decide (x ≤ (168 : Int)) || (x == (174 : Int) || (decide (x ≥ (176 : Int)) && decide (x ≤ (180 : Int)) || (decide (x ≥ (182 : Int)) && decide (x ≤ (186 : Int)) || (decide (x ≥ (188 : Int)) && decide (x ≤ (191 : Int)) || (x == (215 : Int) || (x == (247 : Int) || (decide (x ≥ (913 : Int)) && decide (x ≤ (937 : Int)) || (decide (x ≥ (945 : Int)) && decide (x ≤ (969 : Int)) || (decide (x ≥ (1040 : Int)) && decide (x ≤ (1103 : Int)) || (decide (x ≥ (8208 : Int)) && decide (x ≤ (8214 : Int)) || (decide (x ≥ (8216 : Int)) && decide (x ≤ (8221 : Int)) || (decide (x ≥ (8224 : Int)) && decide (x ≤ (8231 : Int)) || (decide (x ≥ (8240 : Int)) && decide (x ≤ (8251 : Int)) || (decide (x ≥ (8592 : Int)) && decide (x ≤ (8601 : Int)) || (decide (x ≥ (8704 : Int)) && decide (x ≤ (8959 : Int)) || (decide (x ≥ (9312 : Int)) && decide (x ≤ (9450 : Int)) || (decide (x ≥ (9472 : Int)) && decide (x ≤ (9675 : Int)) || (decide (x ≥ (9677 : Int)) && decide (x ≤ (9681 : Int)) || (decide (x ≥ (9733 : Int)) && decide (x ≤ (9734 : Int)) || (decide (x ≥ (9824 : Int)) && decide (x ≤ (9831 : Int)) || decide (x ≥ (57344 : Int)) && decide (x ≤ (63743 : Int))))))))))))))))))))))))) (∃ (x1 : Int), Value.int IntKind.i64 (3 : Int) = Value.int IntKind.i64 x1 ∧ x1 = widR g ∧ w' = w) (∃ (x1 : Int), Value.int IntKind.i64 (1 : Int) = Value.int IntKind.i64 x1 ∧ x1 = widR g ∧ w' = w)))) :
    ((sRune .i64 widR)).Ok Tryd.prog 139 :=
  ok_of_vc (sRune .i64 widR) (annOf spKnown) spKnown (fun _ _ => rfl) (fun _ _ => rfl) hsp Tryd.func139 rfl (n := 1) (fun _ => rfl) (by kernel_rfl) (vcast (by kernel_rfl) h)

set_option maxRecDepth 1000000 in
theorem wids_vc (hsp : SpecsOk Tryd.prog spFind) (h : ∀ (g : Int) (w : World), True → ∀ (b : Nat) (w1 : World), New w (Obj.cells #[Value.int IntKind.i32 (0 : Int), Value.int IntKind.u8 (0 : Int), Value.int IntKind.i32 (32 : Int), Value.int IntKind.u8 (1 : Int), Value.int IntKind.i32 (127 : Int), Value.int IntKind.u8 (0 : Int), Value.int IntKind.i32 (160 : Int), Value.int IntKind.u8 (1 : Int), Value.int IntKind.i32 (161 : Int), Value.int IntKind.u8 (3 : Int), Value.int IntKind.i32 (162 : Int), Value.int IntKind.u8 (1 : Int), Value.int IntKind.i32 (164 : Int), Value.int IntKind.u8 (3 : Int), Value.int IntKind.i32 (165 : Int), Value.int IntKind.u8 (1 : Int), Value.int IntKind.i32 (167 : Int), Value.int IntKind.u8 (3 : Int), Value.int IntKind.i32 (169 : Int), Value.int IntKind.u8 (1 : Int), Value.int IntKind.i32 (173 : Int), Value.int IntKind.u8 (0 : Int), Value.int IntKind.i32 (174 : Int), Value.int IntKind.u8 (3 : Int), Value.int IntKind.i32 (175 : Int), Value.int IntKind.u8 (1 : Int), Value.int IntKind.i32 (176 : Int), Value.int IntKind.u8 (3 : Int), Value.int IntKind.i32 (181 : Int), Value.int IntKind.u8 (1 : Int), Value.int IntKind.i32 (182 : Int), Value.int IntKind.u8 (3 : Int), Value.int IntKind.i32 (187 : Int), Value.int IntKind.u8 (1 : Int), Value.int IntKind.i32 (188 : Int), Value.int IntKind.u8 (3 : Int), Value.int IntKind.i32 (192 : Int), Value.int IntKind.u8 (1 : Int), Value.int IntKind.i32 (215 : Int), Value.int IntKind.u8 (3 : Int), Value.int IntKind.i32 (216 : Int), Value.int IntKind.u8 (1 : Int), Value.int IntKind.i32 (247 : Int), Value.int IntKind.u8 (3 : Int), Value.int IntKind.i32 (248 : Int), Value.int IntKind.u8 (1 : Int), Value.int IntKind.i32 (768 : Int), Value.int IntKind.u8 (0 : Int), Value.int IntKind.i32 (880 : Int), Value.int IntKind.u8 (1 : Int), Value.int IntKind.i32 (913 : Int), Value.int IntKind.u8 (3 : Int), Value.int IntKind.i32 (938 : Int), Value.int IntKind.u8 (1 : Int), Value.int IntKind.i32 (945 : Int), Value.int IntKind.u8 (3 : Int), Value.int IntKind.i32 (970 : Int), Value.int IntKind.u8 (1 : Int), Value.int IntKind.i32 (1040 : Int), Value.int IntKind.u8 (3 : Int), Value.int IntKind.i32 (1104 : Int), Value.int IntKind.u8 (1 : Int), Value.int IntKind.i32 (1155 : Int), Value.int IntKind.u8 (0 : Int), Value.int IntKind.i32 (1162 : Int), Value.int IntKind.u8 (1 : Int), Value.int IntKind.i32 (1425 : Int), Value.int IntKind.u8 (0 : Int), Value.int IntKind.i32 (1470 : Int), Value.int IntKind.u8 (1 : Int), Value.int IntKind.i32 (1471 : Int), Value.int IntKind.u8 (0 : Int), Value.int IntKind.i32 (1472 : Int), Value.int IntKind.u8 (1 : Int), Value.int IntKind.i32 (1473 : Int), Value.int IntKind.u8 (0 : Int), Value.int IntKind.i32 (1475 : Int), Value.int IntKind.u8 (1 : Int), Value.int IntKind.i32 (1476 : Int), Value.int IntKind.u8 (0 : Int), Value.int IntKind.i32 (1478 : Int), Value.int IntKind.u8 (1 : Int), Value.int IntKind.i32 (1479 : Int), Value.int IntKind.u8 (0 : Int),
 Value.int IntKind.i32 (1480 : Int), Value.int IntKind.u8 (1 : Int), Value.int IntKind.i32 (1552 : Int), Value.int IntKind.u8 (0 : Int), Value.int IntKind.i32 (1563 : Int), Value.int IntKind.u8 (1 : Int), Value.int IntKind.i32 (1564 : Int), Value.int IntKind.u8 (0 : Int), Value.int IntKind.i32 (1565 : Int), Value.int IntKind.u8 (1 : Int), Value.int IntKind.i32 (1611 : Int), Value.int IntKind.u8 (0 : Int), Value.int IntKind.i32 (1632 : Int), Value.int IntKind.u8 (1 : Int), Value.int IntKind.i32 (1648 : Int), Value.int IntKind.u8 (0 : Int), Value.int IntKind.i32 (1649 : Int), Value.int IntKind.u8 (1 : Int), Value.int IntKind.i32 (1750 : Int), Value.int IntKind.u8 (0 : Int), Value.int IntKind.i32 (1757 : Int), Value.int IntKind.u8 (1 : Int), Value.int IntKind.i32 (1759 : Int), Value.int IntKind.u8 (0 : Int), Value.int IntKind.i32 (1765 : Int), Value.int IntKind.u8 (1 : Int), Value.int IntKind.i32 (1767 : Int), Value.int IntKind.u8 (0 : Int), Value.int IntKind.i32 (1769 : Int), Value.int IntKind.u8 (1 : Int), Value.int IntKind.i32 (1770 : Int), Value.int IntKind.u8 (0 : Int), Value.int IntKind.i32 (1774 : Int), Value.int IntKind.u8 (1 : Int), Value.int IntKind.i32 (3633 : Int), Value.int IntKind.u8 (0 : Int), Value.int IntKind.i32 (3634 : Int), Value.int IntKind.u8 (1 : Int), Value.int IntKind.i32 (3636 : Int), Value.int IntKind.u8 (0 : Int), Value.int IntKind.i32 (3643 : Int), Value.int IntKind.u8 (1 : Int), Value.int IntKind.i32 (3655 : Int), Value.int IntKind.u8 (0 : Int), Value.int IntKind.i32 (3663 : Int), Value.int IntKind.u8 (1 : Int), Value.int IntKind.i32 (4352 : Int), Value.int IntKind.u8 (2 : Int), Value.int IntKind.i32 (4448 : Int), Value.int IntKind.u8 (0 : Int), Value.int IntKind.i32 (4608 : Int), Value.int IntKind.u8 (1 : Int), Value.int IntKind.i32 (6832 : Int), Value.int IntKind.u8 (0 : Int), Value.int IntKind.i32 (6912 : Int), Value.int IntKind.u8 (1 : Int), Value.int IntKind.i32 (7616 : Int), Value.int IntKind.u8 (0 : Int), Value.int IntKind.i32 (7680 : Int), Value.int IntKind.u8 (1 : Int), Value.int IntKind.i32 (8203 : Int), Value.int IntKind.u8 (0 : Int), Value.int IntKind.i32 (8208 : Int), Value.int IntKind.u8 (3 : Int), Value.int IntKind.i32 (8215 : Int), Value.int IntKind.u8 (1 : Int), Value.int IntKind.i32 (8216 : Int), Value.int IntKind.u8 (3 : Int), Value.int IntKind.i32 (8222 : Int), Value.int IntKind.u8 (1 : Int), Value.int IntKind.i32 (8224 : Int), Value.int IntKind.u8 (3 : Int), Value.int IntKind.i32 (8232 : Int), Value.int IntKind.u8 (1 : Int), Value.int IntKind.i32 (8234 : Int), Value.int IntKind.u8 (0 : Int), Value.int IntKind.i32 (8239 : Int), Value.int IntKind.u8 (1 : Int), Value.int IntKind.i32 (8240 : Int), Value.int IntKind.u8 (3 : Int), Value.int IntKind.i32 (8252 : Int), Value.int IntKind.u8 (1 : Int), Value.int IntKind.i32 (8288 : Int), Value.int IntKind.u8 (0 : Int), Value.int IntKind.i32 (8298 : Int), Value.int IntKind.u8 (1 : Int), Value.int IntKind.i32 (8400 : Int),
 Value.int IntKind.u8 (0 : Int), Value.int IntKind.i32 (8448 : Int), Value.int IntKind.u8 (1 : Int), Value.int IntKind.i32 (8592 : Int), Value.int IntKind.u8 (3 : Int), Value.int IntKind.i32 (8602 : Int), Value.int IntKind.u8 (1 : Int), Value.int IntKind.i32 (8704 : Int), Value.int IntKind.u8 (3 : Int), Value.int IntKind.i32 (8960 : Int), Value.int IntKind.u8 (1 : Int), Value.int IntKind.i32 (8986 : Int), Value.int IntKind.u8 (2 : Int), Value.int IntKind.i32 (8988 : Int), Value.int IntKind.u8 (1 : Int), Value.int IntKind.i32 (9001 : Int), Value.int IntKind.u8 (2 : Int), Value.int IntKind.i32 (9003 : Int), Value.int IntKind.u8 (1 : Int), Value.int IntKind.i32 (9193 : Int), Value.int IntKind.u8 (2 : Int), Value.int IntKind.i32 (9204 : Int), Value.int IntKind.u8 (1 : Int), Value.int IntKind.i32 (9312 : Int), Value.int IntKind.u8 (3 : Int), Value.int IntKind.i32 (9451 : Int), Value.int IntKind.u8 (1 : Int), Value.int IntKind.i32 (9472 : Int), Value.int IntKind.u8 (3 : Int), Value.int IntKind.i32 (9676 : Int), Value.int IntKind.u8 (1 : Int), Value.int IntKind.i32 (9677 : Int), Value.int IntKind.u8 (3 : Int), Value.int IntKind.i32 (9682 : Int), Value.int IntKind.u8 (1 : Int), Value.int IntKind.i32 (9733 : Int), Value.int IntKind.u8 (3 : Int), Value.int IntKind.i32 (9735 : Int), Value.int IntKind.u8 (1 : Int), Value.int IntKind.i32 (9748 : Int), Value.int IntKind.u8 (2 : Int), Value.int IntKind.i32 (9750 : Int), Value.int IntKind.u8 (1 : Int), Value.int IntKind.i32 (9800 : Int), Value.int IntKind.u8 (2 : Int), Value.int IntKind.i32 (9812 : Int), Value.int IntKind.u8 (1 : Int), Value.int IntKind.i32 (9824 : Int), Value.int IntKind.u8 (3 : Int), Value.int IntKind.i32 (9832 : Int), Value.int IntKind.u8 (1 : Int), Value.int IntKind.i32 (9917 : Int), Value.int IntKind.u8 (2 : Int), Value.int IntKind.i32 (9919 : Int), Value.int IntKind.u8 (1 : Int), Value.int IntKind.i32 (9989 : Int), Value.int IntKind.u8 (2 : Int), Value.int IntKind.i32 (9990 : Int), Value.int IntKind.u8 (1 : Int), Value.int IntKind.i32 (10060 : Int), Value.int IntKind.u8 (2 : Int), Value.int IntKind.i32 (10061 : Int), Value.int IntKind.u8 (1 : Int), Value.int IntKind.i32 (10067 : Int), Value.int IntKind.u8 (2 : Int), Value.int IntKind.i32 (10072 : Int), Value.int IntKind.u8 (1 : Int), Value.int IntKind.i32 (10133 : Int), Value.int IntKind.u8 (2 : Int), Value.int IntKind.i32 (10136 : Int), Value.int IntKind.u8 (1 : Int), Value.int IntKind.i32 (11088 : Int), Value.int IntKind.u8 (2 : Int), Value.int IntKind.i32 (11089 : Int), Value.int IntKind.u8 (1 : Int), Value.int IntKind.i32 (11904 : Int), Value.int IntKind.u8 (2 : Int), Value.int IntKind.i32 (12330 : Int), Value.int IntKind.u8 (0 : Int), Value.int IntKind.i32 (12334 : Int), Value.int IntKind.u8 (2 : Int), Value.int IntKind.i32 (12351 : Int), Value.int IntKind.u8 (1 : Int), Value.int IntKind.i32 (12353 : Int), Value.int IntKind.u8 (2 : Int), Value.int IntKind.i32 (12441 : Int), Value.int IntKind.u8 (0 : Int),
 Value.int IntKind.i32 (12443 : Int), Value.int IntKind.u8 (2 : Int), Value.int IntKind.i32 (19904 : Int), Value.int IntKind.u8 (1 : Int), Value.int IntKind.i32 (19968 : Int), Value.int IntKind.u8 (2 : Int), Value.int IntKind.i32 (42192 : Int), Value.int IntKind.u8 (1 : Int), Value.int IntKind.i32 (44032 : Int), Value.int IntKind.u8 (2 : Int), Value.int IntKind.i32 (55204 : Int), Value.int IntKind.u8 (1 : Int), Value.int IntKind.i32 (57344 : Int), Value.int IntKind.u8 (3 : Int), Value.int IntKind.i32 (63744 : Int), Value.int IntKind.u8 (2 : Int), Value.int IntKind.i32 (64256 : Int), Value.int IntKind.u8 (1 : Int), Value.int IntKind.i32 (65024 : Int), Value.int IntKind.u8 (0 : Int), Value.int IntKind.i32 (65040 : Int), Value.int IntKind.u8 (1 : Int), Value.int IntKind.i32 (65056 : Int), Value.int IntKind.u8 (0 : Int), Value.int IntKind.i32 (65072 : Int), Value.int IntKind.u8 (2 : Int), Value.int IntKind.i32 (65136 : Int), Value.int IntKind.u8 (1 : Int), Value.int IntKind.i32 (65279 : Int), Value.int IntKind.u8 (0 : Int), Value.int IntKind.i32 (65280 : Int), Value.int IntKind.u8 (1 : Int), Value.int IntKind.i32 (65281 : Int), Value.int IntKind.u8 (2 : Int), Value.int IntKind.i32 (65377 : Int), Value.int IntKind.u8 (1 : Int), Value.int IntKind.i32 (65504 : Int), Value.int IntKind.u8 (2 : Int), Value.int IntKind.i32 (65511 : Int), Value.int IntKind.u8 (1 : Int), Value.int IntKind.i32 (127744 : Int), Value.int IntKind.u8 (2 : Int), Value.int IntKind.i32 (128592 : Int), Value.int IntKind.u8 (1 : Int), Value.int IntKind.i32 (128640 : Int), Value.int IntKind.u8 (2 : Int), Value.int IntKind.i32 (128768 : Int), Value.int IntKind.u8 (1 : Int), Value.int IntKind.i32 (129280 : Int), Value.int IntKind.u8 (2 : Int), Value.int IntKind.i32 (129792 : Int), Value.int IntKind.u8 (1 : Int), Value.int IntKind.i32 (131072 : Int), Value.int IntKind.u8 (2 : Int), Value.int IntKind.i32 (262142 : Int), Value.int IntKind.u8 (1 : Int)] (147 : Nat)) b w1 → ∃ (g1 : GFind), #[Value.slice (some { block := b, off := (0 : Nat) }) (157 : Nat) (157 : Nat), Value.int IntKind.i32 g] = #[Value.slice (some { block := g1.b, off := (0 : Nat) }) g1.T.length g1.T.length, Value.int IntKind.i32 g1.r] ∧ (CellsT w1 g1.b g1.T ∧ (0 : Nat) < g1.T.length ∧ g1.T.length ≤ (1000 : Nat) ∧ boundsOk g1.T = true ∧ (g1.T.getD (0 : Nat) ((0 : Int), (0 : Int))).fst = (0 : Int)) ∧ ∀ (x : Int × Int) (w' : World), FindOk g1.T (knownF g1.r) x.fst x.snd ∧ Ext w1 w' → ∃ (x1 : Int × Int), Value.tuple #[Value.int IntKind.u8 x.fst, Value.int IntKind.i32 x.snd] = Value.tuple #[Value.int IntKind.u8 x1.fst, Value.int IntKind.i32 x1.snd] ∧ FindOk widT (knownF g) x1.fst x1.snd ∧ Ext w w') :
    ((sTab widT)).Ok Tryd.prog 137 :=
  ok_of_vc (sTab widT) (annOf spFind) spFind (fun _ _ => rfl) (fun _ _ => rfl) hsp Tryd.func137 rfl (n := 1) (fun _ => rfl) (by kernel_rfl) (vcast (by kernel_rfl) h)

set_option maxRecDepth 1000000 in
theorem rwide_vc (hsp : SpecsOk Tryd.prog spCol) (h : ∀ (g : Int × Bool) (w : World), True → ∃ (g1 : Int), #[Value.int IntKind.i32 g.fst] = #[Value.int IntKind.i32 g1] ∧ True ∧ ∀ (x : Int) (w' : World), x = widR g1 ∧ w' = w → bcase (x == (3 : Int)) (bcase g.snd (∃ (x1 : Int), Value.int IntKind.i64 (2 : Int) = Value.int IntKind.i64 x1 ∧ x1 = wideR g.fst g.snd ∧ w' = w) (∃ (x1 : Int), Value.int IntKind.i64 (1 : Int) = Value.int IntKind.i64 x1 ∧ x1 = wideR g.fst g.snd ∧ w' = w)) (∃ (x1 : Int), Value.int IntKind.i64 x = Value.int IntKind.i64 x1 ∧ x1 = wideR g.fst g.snd ∧ w' = w)) :
    ((sWide (fun w w' => w' = w))).Ok Tryd.prog 122 :=
  ok_of_vc (sWide (fun w w' => w' = w)) (annOf spCol) spCol (fun _ _ => rfl) (fun _ _ => rfl) hsp Tryd.func122 rfl (n := 2) (fun _ => rfl) (by kernel_rfl) (vcast (by kernel_rfl) h)

set_option maxRecDepth 1000000 in
theorem cwide_vc (hsp : SpecsOk Tryd.prog spWid) (h : ∀ (g : Int × Bool) (w : World), True → ∃ (g1 : Int), #[Value.int IntKind.i32 g.fst] = #[Value.int IntKind.i32 g1] ∧ True ∧ ∀ (x : Int × Int) (w' : World), FindOk widT (knownF g1) x.fst x.snd ∧ Ext w w' → bcase (decide (x.fst < (3 : Int))) (InR IntKind.i64 x.fst ∧ ∃ (x1 : Int), Value.int IntKind.i64 x.fst = Value.int IntKind.i64 x1 ∧ x1 = wideR g.fst g.snd ∧ Ext w w') (bcase g.snd (∃ (x1 : Int), Value.int IntKind.i64 (2 : Int) = Value.int IntKind.i64 x1 ∧ x1 = wideR g.fst g.snd ∧ Ext w w') (∃ (x1 : Int), Value.int IntKind.i64 (1 : Int) = Value.int IntKind.i64 x1 ∧ x1 = wideR g.fst g.snd ∧ Ext w w'))) :
    ((sWide (fun w w' => Ext w w'))).Ok Tryd.prog 114 :=
  ok_of_vc (sWide (fun w w' => Ext w w')) (annOf spWid) spWid (fun _ _ => rfl) (fun _ _ => rfl) hsp Tryd.func114 rfl (n := 2) (fun _ => rfl) (by kernel_rfl) (vcast (by kernel_rfl) h)

end Go.Proofs.YthpjkgoahneldaaDoor
end

section
/-
  Facts that many proofs share.
-/
namespace Go.Proofs.YthpjkgoahneldaaDoor
open Go Go.RowKit Vc

theorem take_succ0 {xs : List Int} {x : Nat} (h : x < xs.length) : xs.take (x + 1) = xs.take x ++ [xs.getD x 0] := by
  rw [List.take_add_one, List.getD_eq_getElem?_getD, List.getElem?_eq_getElem h]; rfl
theorem getD_take_map {k : IntKind} {xs : List Int} {i : Nat} (h : i < xs.length) : ((xs.take (i + 1)).map (Value.int k)) = ((xs.take i).map (Value.int k)) ++ [.int k (xs.getD i 0)] := by
  rw [take_succ0 h]; simp
theorem take_eq_step {a b : List Int} {x : Nat} (ha : x < a.length) (hb : x < b.length) (h : a.take x = b.take x) (hv : a.getD x 0 = b.getD x 0) : a.take (x + 1) = b.take (x + 1) := by
  rw [take_succ0 ha, take_succ0 hb, h, hv]
theorem at_box {w w1 : World} {k : IntKind} {e : TypeId} {b : Nat} {xs : List Int} {cs : Array Value} (h : New w (.cells cs e) b w1) (hcs : cs = (xs.map (Value.int k)).toArray) (hl : xs.length ≤ 35184372087808) : GSl.at k ⟨some ⟨b, 0, none⟩, xs.length, xs⟩ w1 := by
  subst hcs; exact ⟨CellsAt.new h, hl⟩
theorem GSl.at_ext {k : IntKind} {g : GSl} {w w1 : World} (h : g.at k w) (hx : Ext w w1) : g.at k w1 := ⟨h.1.ext hx, h.2⟩
theorem at_made {w w1 : World} {k : IntKind} {e : TypeId} {a : Option Addr} {n c : Nat} {xs : List Int} (h : Made w w1 e 1 a n (xs.map (Value.int k)) c) (hl : xs.length ≤ 35184372087808) : GSl.at k ⟨a, c, xs⟩ w1 :=
  ⟨h.row.cells, hl⟩
theorem Ext.fr_new {w0 w w' : World} {S : Nat → Prop} (h : Ext w0 w) (hf : Fr S w w') (hS : ∀ q, S q → w0.heap.size ≤ q) : Ext w0 w' :=
  Below.trans h (hf.below h.size (fun q hq hs => by have := hS q hs; omega))
theorem beq_nat (a b : Nat) : ((a : Int) == (b : Int)) = decide (a = b) := decide_eq_decide.2 (by omega)
theorem bne_nat (a b : Nat) : ((a : Int) != (b : Int)) = decide (a ≠ b) := by
  rw [bne, beq_nat, decide_not]

theorem flat_at {α : Type} {f : α → List Value} {s : Nat} (hf : ∀ x, (f x).length = s) : ∀ {l : List α} {k j : Nat} {x : α}, l[k]? = some x → j < s → (l.flatMap f)[k * s + j]? = (f x)[j]?
  | [], k, j, x, h, _ => by simp at h
  | y :: l, 0, j, x, h, hj => by
    simp only [List.getElem?_cons_zero, Option.some.injEq] at h
    subst h
    rw [List.flatMap_cons, Nat.zero_mul, Nat.zero_add, List.getElem?_append_left (by rw [hf]; exact hj)]
  | y :: l, k + 1, j, x, h, hj => by
    simp only [List.getElem?_cons_succ] at h
    rw [List.flatMap_cons, List.getElem?_append_right (by rw [hf, Nat.add_mul]; omega), hf, show (k + 1) * s + j - s = k * s + j from by rw [Nat.add_mul]; omega]
    exact flat_at hf h hj
theorem flat_len' {α : Type} {f : α → List Value} {s : Nat} (hf : ∀ x, (f x).length = s) (l : List α) : (l.flatMap f).length = l.length * s := by
  induction l with
  | nil => simp
  | cons x l ih => rw [List.flatMap_cons, List.length_append, ih, hf, List.length_cons, Nat.add_mul]; omega

end Go.Proofs.YthpjkgoahneldaaDoor

namespace Go.Proofs.YthpjkgoahneldaaDoor.Vc
open Go Go.RowKit

/-- A cell of an element of several cells. -/
theorem CellsAt.fld {w : World} {ad : Option Addr} {vs : List Value} {k s j : Nat} {v : Value} {K : Nat → Nat → Prop} (h : CellsAt w ad vs) (hv : vs[k * s + j]? = some v)
    (hk : ∀ b o, w.cell? ⟨b, o + k * s + j, none⟩ = some v → K b o) : ptrE ad K := by
  rcases h with h | ⟨b, o, h1, h2⟩
  · subst h; simp at hv
  · subst h1
    refine hk b o ?_
    rw [Nat.add_assoc]; exact h2 _ _ hv
/-- All cells of an element. -/
theorem CellsAt.elem {w : World} {ad : Option Addr} {vs : List Value} {k s : Nat} {K : Nat → Nat → Prop} (h : CellsAt w ad vs) (hs : 0 < s) (hl : k * s + s ≤ vs.length)
    (hk : ∀ b o, (∀ j v, vs[k * s + j]? = some v → w.cell? ⟨b, o + k * s + j, none⟩ = some v) → K b o) : ptrE ad K := by
  rcases h with h | ⟨b, o, h1, h2⟩
  · subst h; simp at hl; omega
  · subst h1
    exact hk b o fun j v hv => by rw [Nat.add_assoc]; exact h2 _ _ hv
/-- An iterator over a string goes on: a block of the call's own. -/
theorem Nexted.below {w0 w w1 : World} {r i B : Nat} {s : ByteArray} (h : Nexted w r s i w1) (hb : Below B w0 w) (hr : B ≤ r) : Below B w0 w1 := by
  subst h
  exact ⟨hb.os, hb.tape, hb.output, by simpa using hb.size, fun b hlt => (World.putObj_heap_other (by omega)).trans (hb.block b hlt)⟩
theorem Nexted.heap {w w1 : World} {r i : Nat} {s : ByteArray} {o : Obj} (h : Nexted w r s i w1) (hr : w.heap[r]? = some o) : w1.heap[r]? = some (.stringIter s (i + dcN s i)) := by
  subst h
  have := (Array.getElem?_eq_some_iff.1 hr).1
  simp [World.putObj, this]
theorem Nexted.other {w w1 : World} {r i b : Nat} {s : ByteArray} (h : Nexted w r s i w1) (hb : b ≠ r) : w1.heap[b]? = w.heap[b]? := by
  subst h; exact World.putObj_heap_other hb
theorem Nexted.size {w w1 : World} {r i : Nat} {s : ByteArray} (h : Nexted w r s i w1) : w1.heap.size = w.heap.size := by subst h; simp
theorem Row.nexted {w w1 : World} {e : TypeId} {r i s' n c : Nat} {s : ByteArray} {ad : Option Addr} {vs : List Value} (h : Row w e s' ad n vs c) (hn : Nexted w r s i w1) (hr : ∃ s0 i0, w.heap[r]? = some (.stringIter s0 i0)) : Row w1 e s' ad n vs c := by
  refine ⟨h.1, ?_⟩
  rcases h.2 with h1 | ⟨g, cur, h1, h2, h3⟩
  · exact .inl h1
  · refine .inr ⟨g, cur, h1, ?_, h3⟩
    have : g ≠ r := by rintro rfl; obtain ⟨s0, i0, hr⟩ := hr; rw [hr] at h2; cases h2
    rw [hn.other this]; exact h2
theorem Made.nexted {w0 w w1 : World} {e : TypeId} {r i s' n c : Nat} {s : ByteArray} {ad : Option Addr} {vs : List Value} (h : Made w0 w e s' ad n vs c) (hn : Nexted w r s i w1) (hr : ∃ s0 i0, w.heap[r]? = some (.stringIter s0 i0)) (hB : w0.heap.size ≤ r) : Made w0 w1 e s' ad n vs c :=
  ⟨h.row.nexted hn hr, h.new, hn.below h.ext hB⟩

end Go.Proofs.YthpjkgoahneldaaDoor.Vc
end

section
/-
  Chapter 2's tables: the reference's functions and the program's both give the number that the table says.
-/
namespace Go.Proofs.YthpjkgoahneldaaDoor
open Go Go.RowKit Vc Tb Cl

theorem known_ok : (sRune .i32 knownF).Ok Tryd.prog 128 := by
  refine known_vc trivial ?_
  intro g w _
  refine bcase_mk (fun h => ⟨_, rfl, ?_, rfl⟩) (fun h => ⟨_, rfl, ?_, rfl⟩)
  · unfold knownF; rw [h]
  · unfold knownF; rw [h]

def chainC (L : List (List RC × Int)) (K : Int → Prop) (d x : Int) : Prop := match L with
  | [] => K d
  | (c, v) :: l => bcase (anyC c x) (K v) (chainC l K d x)
theorem chainC_mk {L : List (List RC × Int)} {K : Int → Prop} {d x : Int} (h : K (lookC L d x)) : chainC L K d x := by
  induction L with
  | nil => exact h
  | cons p l ih =>
    obtain ⟨c, v⟩ := p
    simp only [lookC] at h
    simp only [chainC]
    cases hb : anyC c x with
    | true => rw [hb] at h; exact h
    | false => rw [hb] at h; exact ih h

theorem bounds_at {T : List (Int × Int)} (h : boundsOk T = true) (j : Nat) : 0 ≤ (T.getD j (0, 0)).1 ∧ (T.getD j (0, 0)).1 ≤ 1114111 ∧ 0 ≤ (T.getD j (0, 0)).2 ∧ (T.getD j (0, 0)).2 ≤ 255 := by
  by_cases hj : j < T.length
  · have h1 := List.all_eq_true.1 h T[j] (List.getElem_mem hj)
    simp only [Bool.and_eq_true, decide_eq_true_eq] at h1
    rw [List.getD_eq_getElem?_getD, List.getElem?_eq_getElem hj]
    exact ⟨h1.1.1.1, h1.1.1.2, h1.1.2, h1.2⟩
  · rw [List.getD_eq_getElem?_getD, List.getElem?_eq_none (by omega)]
    simp

theorem find_ok : sFind.Ok Tryd.prog 130 := by
  refine find_vc trivial ?_
  rintro ⟨b, T, r⟩ w ⟨hc, hpos, hlen, hbd, h0⟩
  have hk := knownF_bd r
  dsimp only at hc hpos hlen hbd h0 ⊢
  refine ⟨bcase_mk (fun h => ⟨(), ?_, rfl⟩) (fun h => ⟨(), ?_, rfl⟩), ?_⟩
  · unfold knownF; rw [h]
  · unfold knownF; rw [h]
  generalize knownF r = q at hk ⊢
  rintro _ _ w' rfl
  refine ⟨⟨(0, T.length), rfl, rfl, hpos, Nat.le_refl _, by rw [h0]; exact hk.1, .inl rfl, rfl⟩, ?_⟩
  rintro _ ⟨lo, hi⟩ w2 ⟨h1, h2, h3, h4, rfl⟩
  dsimp only at h1 h2 h3 h4 ⊢
  refine ⟨inr_i64 (by omega) (by omega), bcase_mk (fun h => ?_) (fun h => ?_)⟩
  · simp only [gt_iff_lt, decide_eq_true_eq] at h
    refine ⟨inr_i64 (by omega) (by omega), by omega, by omega, inr_i64 (by omega) (by omega), (lo + hi) / 2, by omega, by omega, ?_⟩
    have hm : (lo + hi) / 2 < T.length := by omega
    refine ⟨_, (hc _ hm).1, bcase_mk (fun h => ?_) (fun h => ?_)⟩
    · simp only [gt_iff_lt, decide_eq_true_eq] at h
      exact ⟨(lo, (lo + hi) / 2), rfl, by simp, ⟨by dsimp only; omega, by dsimp only; omega, h3, .inr h, rfl⟩, by dsimp only; omega⟩
    · simp only [gt_iff_lt, decide_eq_false_iff_not] at h
      exact ⟨((lo + hi) / 2, hi), by simp, rfl, ⟨by dsimp only; omega, by dsimp only; omega, Int.not_lt.1 h, h4, rfl⟩, by dsimp only; omega⟩
  · simp only [gt_iff_lt, decide_eq_false_iff_not] at h
    have hlo : lo < T.length := by omega
    have hhi : hi = lo + 1 := by omega
    subst hhi
    refine bcase_mk (fun h => ?_) (fun h => ?_)
    · simp only [decide_eq_true_eq] at h
      have hh : lo + 1 < T.length := by omega
      have hb := bounds_at hbd (lo + 1)
      refine fun w3 hw3 => ⟨lo, rfl, hlo, _, (hc _ hlo).2, lo + 1, rfl, hh, _, (hc _ hh).1, inr_i32 (by omega) (by omega), (_, _), rfl, ⟨lo, hlo, h3, rfl, .inr ⟨hh, ?_, rfl⟩⟩, hw3.ext⟩
      rcases h4 with h4 | h4
      · omega
      · exact h4
    · simp only [decide_eq_false_iff_not] at h
      refine ⟨lo, rfl, hlo, _, (hc _ hlo).2, (_, _), rfl, ⟨lo, hlo, h3, rfl, .inl ⟨by omega, rfl⟩⟩, Ext.refl _⟩

/-- The cells of a table that was laid out in a block. -/
def tblCells (T : List (Int × Int)) : List Value := match T with
  | [] => []
  | (a, v) :: r => .int .i32 a :: .int .u8 v :: tblCells r

theorem tblCells_at {T : List (Int × Int)} {j : Nat} (hj : j < T.length) : (tblCells T)[j * 2]? = some (.int .i32 (T.getD j (0, 0)).1) ∧ (tblCells T)[j * 2 + 1]? = some (.int .u8 (T.getD j (0, 0)).2) := by
  induction T generalizing j with
  | nil => simp at hj
  | cons p r ih =>
    obtain ⟨a, v⟩ := p
    cases j with
    | zero => simp [tblCells]
    | succ j =>
      have := ih (j := j) (by simpa using hj)
      rw [show (j + 1) * 2 = j * 2 + 1 + 1 from by omega]
      simpa [tblCells] using this

theorem tbl_new {w w1 : World} {T : List (Int × Int)} {e : TypeId} {b : Nat} {cs : Array Value} (h : New w (.cells cs e) b w1) (hcs : cs.toList = tblCells T) : CellsT w1 b T := by
  intro j hj
  have := tblCells_at hj
  rw [← hcs] at this
  constructor
  · rw [h.cell, Nat.zero_add, ← Array.getElem?_toList]; exact this.1
  · rw [h.cell, Nat.zero_add, ← Array.getElem?_toList]; exact this.2

theorem small_val {T : List (Int × Int)} {r u t : Int} (hs : smallOk T = true) (h : FindOk T r u t) : 0 ≤ u ∧ u ≤ 127 := by
  obtain ⟨j, h1, _, rfl, _⟩ := h
  have h2 := List.all_eq_true.1 hs T[j] (List.getElem_mem h1)
  simp only [Bool.and_eq_true, decide_eq_true_eq] at h2
  rw [List.getD_eq_getElem?_getD, List.getElem?_eq_getElem h1]
  exact h2

set_option maxRecDepth 20000 in
theorem rkind_ok : (sRune .i8 kindR).Ok Tryd.prog 102 := by
  refine rkind_vc ⟨known_ok, trivial⟩ ?_
  intro g w _
  refine ⟨g, rfl, trivial, ?_⟩
  rintro x w' ⟨rfl, rfl⟩
  exact chainC_mk (L := kindL) (d := kindD) (K := fun v => ∃ x1 : Int, Value.int .i8 v = Value.int .i8 x1 ∧ x1 = kindR g ∧ w' = w') ⟨_, rfl, rfl, rfl⟩
set_option maxRecDepth 20000 in
theorem kinds_ok : (sTab kindT).Ok Tryd.prog 106 := by
  refine kinds_vc ⟨find_ok, trivial⟩ ?_
  intro g w _ b w1 hn
  refine ⟨⟨b, kindT, g⟩, rfl, ⟨tbl_new hn rfl, (by decide +kernel : 0 < kindT.length), (by decide +kernel : kindT.length ≤ 1000), (by decide +kernel : boundsOk kindT = true), rfl⟩, ?_⟩
  rintro ⟨u, t⟩ w2 ⟨h1, h2⟩
  exact ⟨(u, t), rfl, h1, hn.ext.trans h2⟩
set_option maxRecDepth 20000 in
theorem rwid_ok : (sRune .i64 widR).Ok Tryd.prog 139 := by
  refine rwid_vc ⟨known_ok, trivial⟩ ?_
  intro g w _
  refine ⟨g, rfl, trivial, ?_⟩
  rintro x w' ⟨rfl, rfl⟩
  exact chainC_mk (L := widL) (d := widD) (K := fun v => ∃ x1 : Int, Value.int .i64 v = Value.int .i64 x1 ∧ x1 = widR g ∧ w' = w') ⟨_, rfl, rfl, rfl⟩
set_option maxRecDepth 20000 in
theorem wids_ok : (sTab widT).Ok Tryd.prog 137 := by
  refine wids_vc ⟨find_ok, trivial⟩ ?_
  intro g w _ b w1 hn
  refine ⟨⟨b, widT, g⟩, rfl, ⟨tbl_new hn rfl, (by decide +kernel : 0 < widT.length), (by decide +kernel : widT.length ≤ 1000), (by decide +kernel : boundsOk widT = true), rfl⟩, ?_⟩
  rintro ⟨u, t⟩ w2 ⟨h1, h2⟩
  exact ⟨(u, t), rfl, h1, hn.ext.trans h2⟩
set_option maxRecDepth 20000 in
theorem rbrk_ok : (sRune .i8 brkR).Ok Tryd.prog 87 := by
  refine rbrk_vc ⟨known_ok, trivial⟩ ?_
  intro g w _
  refine ⟨g, rfl, trivial, ?_⟩
  rintro x w' ⟨rfl, rfl⟩
  exact chainC_mk (L := brkL) (d := brkD) (K := fun v => ∃ x1 : Int, Value.int .i8 v = Value.int .i8 x1 ∧ x1 = brkR g ∧ w' = w') ⟨_, rfl, rfl, rfl⟩
set_option maxRecDepth 20000 in
theorem brks_ok : (sTab brkT).Ok Tryd.prog 100 := by
  refine brks_vc ⟨find_ok, trivial⟩ ?_
  intro g w _ b w1 hn
  refine ⟨⟨b, brkT, g⟩, rfl, ⟨tbl_new hn rfl, (by decide +kernel : 0 < brkT.length), (by decide +kernel : brkT.length ≤ 1000), (by decide +kernel : boundsOk brkT = true), rfl⟩, ?_⟩
  rintro ⟨u, t⟩ w2 ⟨h1, h2⟩
  exact ⟨(u, t), rfl, h1, hn.ext.trans h2⟩
theorem ckind_ok : (sRuneX .i8 kindR).Ok Tryd.prog 75 := by
  refine ckind_vc ⟨kinds_ok, trivial⟩ ?_
  intro g w _
  refine ⟨g, rfl, trivial, ?_⟩
  rintro ⟨u, t⟩ w' ⟨h1, h2⟩
  have hs := small_val (by decide +kernel) h1
  exact ⟨inr_i8 (by dsimp only at hs ⊢; omega) (by dsimp only at hs ⊢; omega), u, rfl, h1.val kind_agree, h2⟩
theorem cbrk_ok : (sRuneX .i8 brkR).Ok Tryd.prog 64 := by
  refine cbrk_vc ⟨brks_ok, trivial⟩ ?_
  intro g w _
  refine ⟨g, rfl, trivial, ?_⟩
  rintro ⟨u, t⟩ w' ⟨h1, h2⟩
  have hs := small_val (by decide +kernel) h1
  exact ⟨inr_i8 (by dsimp only at hs ⊢; omega) (by dsimp only at hs ⊢; omega), u, rfl, h1.val brk_agree, h2⟩
theorem wid_small {r u t : Int} (h : FindOk widT (knownF r) u t) : 0 ≤ u ∧ u ≤ 3 := by
  obtain ⟨j, h1, _, rfl, _⟩ := h
  have h2 : widT.all (fun p => decide (0 ≤ p.2) && decide (p.2 ≤ 3)) = true := by decide +kernel
  have h3 := List.all_eq_true.1 h2 widT[j] (List.getElem_mem h1)
  simp only [Bool.and_eq_true, decide_eq_true_eq] at h3
  rw [List.getD_eq_getElem?_getD, List.getElem?_eq_getElem h1]
  exact h3
theorem rwide_ok : (sWide (fun w w' => w' = w)).Ok Tryd.prog 122 := by
  refine rwide_vc ⟨rwid_ok, trivial⟩ ?_
  rintro ⟨r, b⟩ w _
  refine ⟨r, rfl, trivial, ?_⟩
  rintro x w' ⟨rfl, rfl⟩
  have hd : widR r = 0 ∨ widR r = 1 ∨ widR r = 2 ∨ widR r = 3 := by
    have h2 : (widL.all (fun p => decide (p.2 = 0 ∨ p.2 = 1 ∨ p.2 = 2 ∨ p.2 = 3))) = true := by decide +kernel
    have : ∀ (l : List (List RC × Int)) (q : Int), l.all (fun p => decide (p.2 = 0 ∨ p.2 = 1 ∨ p.2 = 2 ∨ p.2 = 3)) = true → lookC l 1 q = 0 ∨ lookC l 1 q = 1 ∨ lookC l 1 q = 2 ∨ lookC l 1 q = 3 := by
      intro l q hl
      induction l with
      | nil => simp [lookC]
      | cons p l ih =>
        obtain ⟨c, v⟩ := p
        simp only [List.all_cons, Bool.and_eq_true, decide_eq_true_eq] at hl
        simp only [lookC]
        split
        · exact hl.1
        · exact ih hl.2
    exact this widL (knownF r) h2
  refine bcase_mk (fun h => ?_) (fun h => ⟨_, rfl, ?_, rfl⟩)
  · have h3 : widR r = 3 := by simpa using h
    refine bcase_mk (fun hb => ⟨_, rfl, ?_, rfl⟩) (fun hb => ⟨_, rfl, ?_, rfl⟩)
    · have hb : b = true := hb
      show _ = wideR r b
      unfold wideR; rw [h3, hb]; rfl
    · have hb : b = false := hb
      show _ = wideR r b
      unfold wideR; rw [h3, hb]; rfl
  · have h3 : widR r ≠ 3 := by simpa using h
    show _ = wideR r b
    unfold wideR; rw [if_pos (by omega)]
theorem cwide_ok : (sWide (fun w w' => Ext w w')).Ok Tryd.prog 114 := by
  refine cwide_vc ⟨wids_ok, trivial⟩ ?_
  rintro ⟨r, b⟩ w _
  refine ⟨r, rfl, trivial, ?_⟩
  rintro ⟨u, t⟩ w' ⟨h1, h2⟩
  have hs := wid_small h1
  have hv : u = widR r := h1.val wid_agree
  dsimp only at hs ⊢
  refine bcase_mk (fun h => ?_) (fun h => ?_)
  · have h : u < 3 := by simpa using h
    exact ⟨inr_i64 (by omega) (by omega), _, rfl, by show _ = wideR r b; unfold wideR; rw [← hv, if_pos h], h2⟩
  · have h : ¬ u < 3 := by simpa using h
    refine bcase_mk (fun hb => ⟨_, rfl, ?_, h2⟩) (fun hb => ⟨_, rfl, ?_, h2⟩)
    · have hb : b = true := hb
      show _ = wideR r b
      unfold wideR; rw [← hv, if_neg h, hb]; rfl
    · have hb : b = false := hb
      show _ = wideR r b
      unfold wideR; rw [← hv, if_neg h, hb]; rfl


end Go.Proofs.YthpjkgoahneldaaDoor
end

section
/-
  Chapter 3: what a character is: the program's words and the document's say the same.
-/
namespace Go.Proofs.YthpjkgoahneldaaDoor
open Go Go.RowKit Vc Tb Cl

theorem regional_ok : (sRB regB).Ok Tryd.prog 109 := by
  refine regional_vc trivial ?_
  intro r w _
  exact ⟨_, rfl, rfl, Ext.refl _⟩
theorem rregional_ok : (sRB regB).Ok Tryd.prog 121 := by
  refine rregional_vc trivial ?_
  intro r w _
  exact ⟨_, rfl, rfl, Ext.refl _⟩
theorem joiner_ok : (sRB joinB).Ok Tryd.prog 108 := by
  refine joiner_vc trivial ?_
  intro r w _
  exact ⟨_, rfl, rfl, Ext.refl _⟩
theorem rjoiner_ok : (sRB joinB).Ok Tryd.prog 118 := by
  refine rjoiner_vc trivial ?_
  intro r w _
  exact ⟨_, rfl, rfl, Ext.refl _⟩
theorem picture_ok : (sRB picB).Ok Tryd.prog 110 := by
  refine picture_vc ⟨ckind_ok, cwide_ok, trivial⟩ ?_
  intro r w _
  refine ⟨r, rfl, trivial, ?_⟩
  rintro _ w1 ⟨rfl, e1⟩
  refine bcase_mk (fun h => ?_) (fun h => ?_)
  · refine ⟨(r, false), rfl, trivial, ?_⟩
    rintro _ w2 ⟨rfl, e2⟩
    refine ⟨_, rfl, ?_, e1.trans e2⟩
    unfold picB; rw [h]; rfl
  · refine ⟨_, rfl, ?_, e1⟩
    unfold picB; rw [h]; rfl
theorem rpicture_ok : (sRB picB).Ok Tryd.prog 141 := by
  refine rpicture_vc ⟨rkind_ok, rwide_ok, trivial⟩ ?_
  intro r w _
  refine ⟨r, rfl, trivial, ?_⟩
  rintro _ _ ⟨rfl, rfl⟩
  refine bcase_mk (fun h => ?_) (fun h => ?_)
  · refine ⟨(r, false), rfl, trivial, ?_⟩
    rintro _ _ ⟨rfl, rfl⟩
    refine ⟨_, rfl, ?_, Ext.refl _⟩
    unfold picB; rw [h]; rfl
  · refine ⟨_, rfl, ?_, Ext.refl _⟩
    unfold picB; rw [h]; rfl
theorem alone_ok : (sRB aloneB).Ok Tryd.prog 107 := by
  refine alone_vc ⟨ckind_ok, joiner_ok, trivial⟩ ?_
  intro r w _
  refine ⟨r, rfl, trivial, ?_⟩
  rintro _ w1 ⟨rfl, e1⟩
  refine bcase_mk (fun h => ⟨_, rfl, ?_, e1⟩) (fun h => bcase_mk (fun h1 => ?_) (fun h1 => ⟨_, rfl, ?_, e1⟩))
  · unfold aloneB; rw [h]; rfl
  · refine ⟨r, rfl, trivial, ?_⟩
    rintro _ w2 ⟨rfl, e2⟩
    refine ⟨_, rfl, ?_, e1.trans e2⟩
    have hr : (r == 8232 || r == 8233) = false := by
      rw [Bool.or_eq_false_iff, beq_eq_false_iff_ne, beq_eq_false_iff_ne]
      have hk : kindR r = 1 := by simpa using h1
      refine ⟨?_, ?_⟩
      · rintro rfl; revert hk; decide +kernel
      · rintro rfl; revert hk; decide +kernel
    unfold aloneB; rw [h, h1, hr]; simp
  · unfold aloneB; rw [h, h1]; simp
theorem ralone_ok : (sRB aloneB).Ok Tryd.prog 124 := by
  refine ralone_vc ⟨rkind_ok, rjoiner_ok, trivial⟩ ?_
  intro r w _
  refine ⟨r, rfl, trivial, ?_⟩
  rintro _ _ ⟨rfl, rfl⟩
  refine bcase_mk (fun h => ⟨_, rfl, ?_, Ext.refl _⟩) (fun h => bcase_mk (fun h1 => ⟨_, rfl, ?_, Ext.refl _⟩) (fun h1 => bcase_mk (fun h2 => ⟨_, rfl, ?_, Ext.refl _⟩) (fun h2 => bcase_mk (fun h3 => ?_) (fun h3 => ⟨_, rfl, ?_, Ext.refl _⟩))))
  · unfold aloneB; rw [h]; rfl
  · unfold aloneB; rw [h, h1]; rfl
  · unfold aloneB; rw [h, h1, h2]; rfl
  · refine ⟨r, rfl, trivial, ?_⟩
    rintro _ w2 ⟨rfl, e2⟩
    refine ⟨_, rfl, ?_, e2⟩
    unfold aloneB; rw [h, h1, h2, h3]; simp
  · unfold aloneB; rw [h, h1, h2, h3]; rfl
theorem part_ok : (sRN partP).Ok Tryd.prog 131 := by
  refine part_vc trivial ?_
  intro r w _
  have hP : ∀ {k : Nat} {v : Int} {n : Nat}, partN r = k → bitN k = n → v = (n : Int) → ∃ x : Nat, Value.int .i64 v = .int .i64 (x : Int) ∧ x = partP r ∧ Ext w w := by
    intro k v n h1 h2 h3
    exact ⟨n, by rw [h3], by unfold partP; rw [h1, h2], Ext.refl _⟩
  refine bcase_mk (fun h => ?_) (fun h => ?_)
  · have h : r < 4352 ∨ 55203 < r := by simpa using h
    refine hP (k := 0) ?_ rfl rfl
    unfold partN
    rw [if_neg (by omega), if_neg (by omega), if_neg (by omega), if_neg (by omega)]
  have h : ¬ r < 4352 ∧ ¬ 55203 < r := by simpa using h
  refine bcase_mk (fun h1 => ?_) (fun h1 => ?_)
  · have h1 := of_decide_eq_true h1
    refine hP (k := 1) ?_ rfl rfl
    unfold partN; rw [if_pos (by omega)]
  have h1 := of_decide_eq_false h1
  refine bcase_mk (fun h2 => ?_) (fun h2 => ?_)
  · have h2 := of_decide_eq_true h2
    refine hP (k := 2) ?_ rfl rfl
    unfold partN; rw [if_neg (by omega), if_pos (by omega)]
  have h2 := of_decide_eq_false h2
  refine bcase_mk (fun h3 => ?_) (fun h3 => ?_)
  · have h3 := of_decide_eq_true h3
    refine hP (k := 3) ?_ rfl rfl
    unfold partN; rw [if_neg (by omega), if_neg (by omega), if_pos (by omega)]
  have h3 := of_decide_eq_false h3
  refine bcase_mk (fun h4 => ?_) (fun h4 => ?_)
  · have h4 := of_decide_eq_true h4
    refine hP (k := 0) ?_ rfl rfl
    unfold partN; rw [if_neg (by omega), if_neg (by omega), if_neg (by omega), if_neg (by omega)]
  have h4 := of_decide_eq_false h4
  refine ⟨inr_i32 (by omega) (by omega), by omega, by omega, bcase_mk (fun h5 => ?_) (fun h5 => ?_)⟩
  · have h5 : (r - 44032) % 28 = 0 := by simpa using h5
    refine hP (k := 4) ?_ rfl rfl
    unfold partN; rw [if_neg (by omega), if_neg (by omega), if_neg (by omega), if_pos (by omega), if_pos h5]
  · have h5 : ¬ (r - 44032) % 28 = 0 := by simpa using h5
    refine hP (k := 5) ?_ rfl rfl
    unfold partN; rw [if_neg (by omega), if_neg (by omega), if_neg (by omega), if_pos (by omega), if_neg h5]
theorem rpart_ok : (sRN partN).Ok Tryd.prog 150 := by
  refine rpart_vc trivial ?_
  intro r w _
  have hP : ∀ {n : Nat} {v : Int}, partN r = n → v = (n : Int) → ∃ x : Nat, Value.int .i64 v = .int .i64 (x : Int) ∧ x = partN r ∧ Ext w w := by
    intro n v h1 h3
    exact ⟨n, by rw [h3], h1.symm, Ext.refl _⟩
  refine bcase_mk (fun h => ?_) (fun h => ?_)
  · simp only [Bool.and_eq_true, decide_eq_true_eq] at h
    refine hP (n := 1) ?_ rfl
    unfold partN; rw [if_pos (by omega)]
  simp only [Bool.and_eq_false_iff, decide_eq_false_iff_not] at h
  refine bcase_mk (fun h1 => ?_) (fun h1 => ?_)
  · simp only [Bool.and_eq_true, decide_eq_true_eq] at h1
    refine hP (n := 2) ?_ rfl
    unfold partN; rw [if_neg (by omega), if_pos (by omega)]
  simp only [Bool.and_eq_false_iff, decide_eq_false_iff_not] at h1
  refine bcase_mk (fun h2 => ?_) (fun h2 => ?_)
  · simp only [Bool.and_eq_true, decide_eq_true_eq] at h2
    refine hP (n := 3) ?_ rfl
    unfold partN; rw [if_neg (by omega), if_neg (by omega), if_pos (by omega)]
  simp only [Bool.and_eq_false_iff, decide_eq_false_iff_not] at h2
  have none : ¬ (44032 ≤ r ∧ r ≤ 55203) → partN r = 0 := fun h4 => by
    unfold partN; rw [if_neg (by omega), if_neg (by omega), if_neg (by omega), if_neg h4]
  have last : ∀ (A : ¬ (44032 ≤ r ∧ r ≤ 55203)), bcase (decide (r ≥ 44032) && decide (r ≤ 55203)) (∃ x : Nat, Value.int .i64 5 = .int .i64 (x : Int) ∧ x = partN r ∧ Ext w w) (∃ x : Nat, Value.int .i64 0 = .int .i64 (x : Int) ∧ x = partN r ∧ Ext w w) := fun A =>
    bcase_mk (fun h => by simp only [Bool.and_eq_true, decide_eq_true_eq] at h; omega) (fun _ => hP (none A) rfl)
  refine bcase_mk (fun h3 => ?_) (fun h3 => last (by have := of_decide_eq_false h3; omega))
  refine bcase_mk (fun h4 => ?_) (fun h4 => last (by have := of_decide_eq_false h4; omega))
  have h3 := of_decide_eq_true h3
  have h4 := of_decide_eq_true h4
  refine ⟨inr_i32 (by omega) (by omega), by omega, by omega, bcase_mk (fun h5 => ?_) (fun h5 => ?_)⟩
  · have h5 : (r - 44032) % 28 = 0 := by simpa using h5
    refine hP (n := 4) ?_ rfl
    unfold partN; rw [if_neg (by omega), if_neg (by omega), if_neg (by omega), if_pos (by omega), if_pos h5]
  · have h5 : ¬ (r - 44032) % 28 = 0 := by simpa using h5
    refine bcase_mk (fun _ => hP (n := 5) ?_ rfl) (fun h => by simp only [Bool.and_eq_false_iff, decide_eq_false_iff_not] at h; omega)
    unfold partN; rw [if_neg (by omega), if_neg (by omega), if_neg (by omega), if_pos (by omega), if_neg h5]

theorem part_lt (r : Int) : partN r < 6 := by
  unfold partN
  repeat' split
  all_goals omega
theorem goes_all : ∀ a : Fin 6, ∀ b : Fin 6, (bitN a.val = 1 → (IntKind.i64.wrap ((BitVec.ofInt IntKind.i64.bits 27 &&& BitVec.ofInt IntKind.i64.bits ((bitN b.val : Nat) : Int)).toNat : Int) != 0) = sylT a.val b.val) ∧
    ((bitN a.val = 2 ∨ bitN a.val = 8) → (IntKind.i64.wrap ((BitVec.ofInt IntKind.i64.bits 6 &&& BitVec.ofInt IntKind.i64.bits ((bitN b.val : Nat) : Int)).toNat : Int) != 0) = sylT a.val b.val) ∧
    ((bitN a.val = 4 ∨ bitN a.val = 16) → (IntKind.i64.wrap ((BitVec.ofInt IntKind.i64.bits 4 &&& BitVec.ofInt IntKind.i64.bits ((bitN b.val : Nat) : Int)).toNat : Int) != 0) = sylT a.val b.val) ∧
    (bitN a.val ≠ 1 → bitN a.val ≠ 2 → bitN a.val ≠ 8 → bitN a.val ≠ 4 → bitN a.val ≠ 16 → false = sylT a.val b.val) := by decide +kernel
theorem goesP_ok : (sTwoB sylB).Ok Tryd.prog 111 := by
  refine goesP_vc ⟨part_ok, trivial⟩ ?_
  rintro ⟨a, b⟩ w _
  dsimp only
  obtain ⟨g1, g2, g3, g4⟩ := goes_all ⟨partN a, part_lt a⟩ ⟨partN b, part_lt b⟩
  dsimp only at g1 g2 g3 g4
  refine ⟨a, rfl, trivial, ?_⟩
  rintro _ w1 ⟨rfl, e1⟩
  refine bcase_mk (fun h => ?_) (fun h => ?_)
  · refine ⟨b, rfl, trivial, ?_⟩
    rintro _ w2 ⟨rfl, e2⟩
    exact ⟨_, rfl, g1 (by simp only [beq_iff_eq] at h; unfold partP at h; omega), e1.trans e2⟩
  refine bcase_mk (fun h1 => ?_) (fun h1 => ?_)
  · refine ⟨b, rfl, trivial, ?_⟩
    rintro _ w2 ⟨rfl, e2⟩
    exact ⟨_, rfl, g2 (by simp only [Bool.or_eq_true, beq_iff_eq] at h1; unfold partP at h1; omega), e1.trans e2⟩
  refine bcase_mk (fun h2 => ?_) (fun h2 => ?_)
  · refine ⟨b, rfl, trivial, ?_⟩
    rintro _ w2 ⟨rfl, e2⟩
    exact ⟨_, rfl, g3 (by simp only [Bool.or_eq_true, beq_iff_eq] at h2; unfold partP at h2; omega), e1.trans e2⟩
  · refine ⟨b, rfl, trivial, ?_⟩
    rintro _ w2 ⟨rfl, e2⟩
    simp only [Bool.or_eq_false_iff, beq_eq_false_iff_ne, ne_eq] at h h1 h2
    unfold partP at h h1 h2
    exact ⟨_, rfl, g4 (by omega) (by omega) (by omega) (by omega) (by omega), e1.trans e2⟩
theorem syl_all : ∀ a : Fin 6, ∀ b : Fin 6, (a.val = 1 → (((b.val : Nat) : Int) == 1 || (((b.val : Nat) : Int) == 2 || (((b.val : Nat) : Int) == 4 || ((b.val : Nat) : Int) == 5))) = sylT a.val b.val) ∧ ((a.val = 2 ∨ a.val = 4) → (((b.val : Nat) : Int) == 2 || ((b.val : Nat) : Int) == 3) = sylT a.val b.val) ∧
    ((a.val = 3 ∨ a.val = 5) → (((b.val : Nat) : Int) == 3) = sylT a.val b.val) ∧ (a.val = 0 → false = sylT a.val b.val) := by decide +kernel
theorem syl_ok : (sTwoB sylB).Ok Tryd.prog 142 := by
  refine syl_vc ⟨rpart_ok, trivial⟩ ?_
  rintro ⟨a, b⟩ w _
  dsimp only
  obtain ⟨g1, g2, g3, g4⟩ := syl_all ⟨partN a, part_lt a⟩ ⟨partN b, part_lt b⟩
  have hlt := part_lt a
  dsimp only at g1 g2 g3 g4
  refine ⟨a, rfl, trivial, ?_⟩
  rintro _ w1 ⟨rfl, e1⟩
  refine ⟨b, rfl, trivial, ?_⟩
  rintro _ w2 ⟨rfl, e2⟩
  have E := e1.trans e2
  refine bcase_mk (fun h => ⟨_, rfl, g1 (by simp only [beq_iff_eq] at h; omega), E⟩) (fun h => ?_)
  refine bcase_mk (fun h1 => ⟨_, rfl, g2 (by simp only [Bool.or_eq_true, beq_iff_eq] at h1; omega), E⟩) (fun h1 => ?_)
  refine bcase_mk (fun h2 => ⟨_, rfl, g3 (by simp only [Bool.or_eq_true, beq_iff_eq] at h2; omega), E⟩) (fun h2 => ?_)
  simp only [Bool.or_eq_false_iff, beq_eq_false_iff_ne, ne_eq] at h h1 h2
  exact ⟨_, rfl, g4 (by omega), E⟩

theorem takes_ok : sTakes.Ok Tryd.prog 125 := by
  refine takes_vc ⟨rkind_ok, rjoiner_ok, rregional_ok, rpicture_ok, syl_ok, trivial⟩ ?_
  rintro ⟨x, z, y, n⟩ w _
  dsimp only
  have hn : ((n : Int) == 1) = (n == 1) := by
    rw [Bool.eq_iff_iff, beq_iff_eq, beq_iff_eq]; omega
  rw [hn]
  clear hn
  refine ⟨y, rfl, trivial, ?_⟩
  rintro _ w1 ⟨rfl, hw⟩
  have E : Ext w w1 := by rw [hw]; exact Ext.refl w
  clear hw
  repeat' first
    | refine ⟨_, rfl, ?_, E⟩
    | refine bcase_mk (fun h => ?_) (fun h => ?_)
    | (refine ⟨_, rfl, trivial, ?_⟩; rintro _ _ ⟨rfl, e⟩; replace E := E.trans e)
    | (refine ⟨(_, _), rfl, trivial, ?_⟩; rintro _ _ ⟨rfl, e⟩; replace E := E.trans e)
  all_goals (clear E; simp_all only [takesB, Bool.true_or, Bool.or_true, Bool.false_or, Bool.and_true, Bool.and_false, Bool.false_and, Bool.true_and, Bool.or_false])

end Go.Proofs.YthpjkgoahneldaaDoor
end

section
/-
  Verification conditions, printed by a program out of the specifications beside this text: each theorem says that the condition suffices. (Lean's kernel compares the printed condition with what 'wpE' computes.)
-/
set_option linter.unusedVariables false
namespace Go.Proofs.YthpjkgoahneldaaDoor
open Go Go.RowKit Vc Ut

set_option maxRecDepth 1000000 in
theorem within_vc (hsp : SpecsOk Tryd.prog []) (h : ∀ (g : Nat × Nat × Nat) (w : World), True → ∃ (x : Bool), Value.bool (decide ((↑g.fst : Int) ≥ (↑g.snd.fst : Int)) && decide ((↑g.fst : Int) ≤ (↑g.snd.snd : Int))) = Value.bool x ∧ x = decide (g.snd.fst ≤ g.fst ∧ g.fst ≤ g.snd.snd) ∧ w = w) :
    (sWithin).Ok Tryd.prog 144 :=
  ok_of_vc sWithin (annOf []) [] (fun _ _ => rfl) (fun _ _ => rfl) hsp Tryd.func144 rfl (n := 3) (fun _ => rfl) (by kernel_rfl) (vcast (by kernel_rfl) h)

set_option maxRecDepth 1000000 in
theorem second_vc (hsp : SpecsOk Tryd.prog spSecond) (h : ∀ (g : Nat) (w : World), True → ∃ (g1 : Nat × Nat × Nat), #[Value.int IntKind.u8 (↑g : Int), Value.int IntKind.u8 (194 : Int), Value.int IntKind.u8 (223 : Int)] = #[Value.int IntKind.u8 (↑g1.fst : Int), Value.int IntKind.u8 (↑g1.snd.fst : Int), Value.int IntKind.u8 (↑g1.snd.snd : Int)] ∧ True ∧ ∀ (x : Bool) (w' : World), x = decide (g1.snd.fst ≤ g1.fst ∧ g1.fst ≤ g1.snd.snd) ∧ w' = w → bcase x (∃ (x1 : Nat × Nat × Nat), Value.tuple #[Value.int IntKind.u8 (128 : Int), Value.int IntKind.u8 (191 : Int), Value.int IntKind.i64 (2 : Int)] = Value.tuple #[Value.int IntKind.u8 (↑x1.fst : Int), Value.int IntKind.u8 (↑x1.snd.fst : Int), Value.int IntKind.i64 (↑x1.snd.snd : Int)] ∧ x1 = secN g ∧ w' = w) (bcase ((↑g : Int) == (224 : Int)) (∃ (x1 : Nat × Nat × Nat), Value.tuple #[Value.int IntKind.u8 (160 : Int), Value.int IntKind.u8 (191 : Int), Value.int IntKind.i64 (3 : Int)] = Value.tuple #[Value.int IntKind.u8 (↑x1.fst : Int), Value.int IntKind.u8 (↑x1.snd.fst : Int), Value.int IntKind.i64 (↑x1.snd.snd : Int)] ∧ x1 = secN g ∧ w' = w) (bcase ((↑g : Int) == (237 : Int)) (∃ (x1 : Nat × Nat × Nat), Value.tuple #[Value.int IntKind.u8 (128 : Int), Value.int IntKind.u8 (159 : Int), Value.int IntKind.i64 (3 : Int)] = Value.tuple #[Value.int IntKind.u8 (↑x1.fst : Int), Value.int IntKind.u8 (↑x1.snd.fst : Int), Value.int IntKind.i64 (↑x1.snd.snd : Int)] ∧ x1 = secN g ∧ w' = w) (∃ (g2 : Nat × Nat × Nat), #[Value.int IntKind.u8 (↑g : Int), Value.int IntKind.u8 (225 : Int), Value.int IntKind.u8 (239 : Int)] = #[Value.int IntKind.u8 (↑g2.fst : Int), Value.int IntKind.u8 (↑g2.snd.fst : Int), Value.int IntKind.u8 (↑g2.snd.snd : Int)] ∧ True ∧ ∀ (x1 : Bool) (w'1 : World), x1 = decide (g2.snd.fst ≤ g2.fst ∧ g2.fst ≤ g2.snd.snd) ∧ w'1 = w' → bcase x1 (∃ (x2 : Nat × Nat × Nat), Value.tuple #[Value.int IntKind.u8 (128 : Int), Value.int IntKind.u8 (191 : Int), Value.int IntKind.i64 (3 : Int)] = Value.tuple #[Value.int IntKind.u8 (↑x2.fst : Int), Value.int IntKind.u8 (↑x2.snd.fst : Int), Value.int IntKind.i64 (↑x2.snd.snd : Int)] ∧ x2 = secN g ∧ w'1 = w) (bcase ((↑g : Int) == (240 : Int)) (∃ (x2 : Nat × Nat × Nat), Value.tuple #[Value.int IntKind.u8 (144 : Int), Value.int IntKind.u8 (191 : Int), Value.int IntKind.i64 (4 : Int)] = Value.tuple #[Value.int IntKind.u8 (↑x2.fst : Int), Value.int IntKind.u8 (↑x2.snd.fst : Int), Value.int IntKind.i64 (↑x2.snd.snd : Int)] ∧ x2 = secN g ∧ w'1 = w) (∃ (g3 : Nat × Nat × Nat), #[Value.int IntKind.u8 (↑g : Int), Value.int IntKind.u8 (241 : Int), Value.int IntKind.u8 (243 : Int)] = #[Value.int IntKind.u8 (↑g3.fst : Int), Value.int IntKind.u8 (↑g3.snd.fst : Int), Value.int IntKind.u8 (↑g3.snd.snd : Int)] ∧ True ∧ ∀ (x2 : Bool) (w'2 : World), x2 = decide (g3.snd.fst ≤ g3.fst ∧ g3.fst ≤ g3.snd.snd) ∧ w'2 = w'1 → bcase x2 (∃ (x3 : Nat × Nat × Nat), Value.tuple #[Value.int IntKind.u8 (128 : Int), Value.int IntKind.u8 (191 : Int), Value.int IntKind.i64 (4 : Int)] = Value.tuple
 #[Value.int IntKind.u8 (↑x3.fst : Int), Value.int IntKind.u8 (↑x3.snd.fst : Int), Value.int IntKind.i64 (↑x3.snd.snd : Int)] ∧ x3 = secN g ∧ w'2 = w) (bcase ((↑g : Int) == (244 : Int)) (∃ (x3 : Nat × Nat × Nat), Value.tuple #[Value.int IntKind.u8 (128 : Int), Value.int IntKind.u8 (143 : Int), Value.int IntKind.i64 (4 : Int)] = Value.tuple #[Value.int IntKind.u8 (↑x3.fst : Int), Value.int IntKind.u8 (↑x3.snd.fst : Int), Value.int IntKind.i64 (↑x3.snd.snd : Int)] ∧ x3 = secN g ∧ w'2 = w) (∃ (x3 : Nat × Nat × Nat), Value.tuple #[Value.int IntKind.u8 (0 : Int), Value.int IntKind.u8 (0 : Int), Value.int IntKind.i64 (0 : Int)] = Value.tuple #[Value.int IntKind.u8 (↑x3.fst : Int), Value.int IntKind.u8 (↑x3.snd.fst : Int), Value.int IntKind.i64 (↑x3.snd.snd : Int)] ∧ x3 = secN g ∧ w'2 = w)))))))) :
    (sSecond).Ok Tryd.prog 143 :=
  ok_of_vc sSecond (annOf spSecond) spSecond (fun _ _ => rfl) (fun _ _ => rfl) hsp Tryd.func143 rfl (n := 1) (fun _ => rfl) (by kernel_rfl) (vcast (by kernel_rfl) h)

set_option maxRecDepth 1000000 in
theorem begins_vc (hsp : SpecsOk Tryd.prog spBegins) (h : ∀ (g : ByteArray) (w : World), g.size ≤ (67108864 : Nat) → bcase (g.toList == (ByteArray.mk #[]).toList) (∃ (x : Nat × Nat), Value.tuple #[Value.int IntKind.i64 (0 : Int), Value.int IntKind.i64 (0 : Int)] = Value.tuple #[Value.int IntKind.i64 (↑x.fst : Int), Value.int IntKind.i64 (↑x.snd : Int)] ∧ x.fst = begN g ∧ x.snd = begS g ∧ w = w) (∃ (k : Nat), (0 : Int) = (↑k : Int) ∧ k < g.size ∧ bcase (decide ((↑(g.data.toList.getD k (0 : UInt8)).toNat : Int) < (128 : Int))) (∃ (x : Nat × Nat), Value.tuple #[Value.int IntKind.i64 (1 : Int), Value.int IntKind.i64 (1 : Int)] = Value.tuple #[Value.int IntKind.i64 (↑x.fst : Int), Value.int IntKind.i64 (↑x.snd : Int)] ∧ x.fst = begN g ∧ x.snd = begS g ∧ w = w) (∃ (k1 : Nat), (0 : Int) = (↑k1 : Int) ∧ k1 < g.size ∧ ∃ (g1 : Nat), #[Value.int IntKind.u8 (↑(g.data.toList.getD k1 (0 : UInt8)).toNat : Int)] = #[Value.int IntKind.u8 (↑g1 : Int)] ∧ True ∧ ∀ (x : Nat × Nat × Nat) (w' : World), x = secN g1 ∧ w' = w → bcase ((↑x.snd.snd : Int) == (0 : Int)) (∃ (x1 : Nat × Nat), Value.tuple #[Value.int IntKind.i64 (0 : Int), Value.int IntKind.i64 (0 : Int)] = Value.tuple #[Value.int IntKind.i64 (↑x1.fst : Int), Value.int IntKind.i64 (↑x1.snd : Int)] ∧ x1.fst = begN g ∧ x1.snd = begS g ∧ w' = w) ((∃ (x1 : Nat), Value.int IntKind.i64 (1 : Int) = Value.int IntKind.i64 (↑x1 : Int) ∧ Value.int IntKind.u8 (↑x.fst : Int) = Value.int IntKind.u8 (↑(loB g x1) : Int) ∧ Value.int IntKind.u8 (↑x.snd.fst : Int) = Value.int IntKind.u8 (↑(hiB g x1) : Int) ∧ w' = w' ∧ (1 : Nat) ≤ x1 ∧ x1 ≤ (secN (bt g (0 : Nat))).snd.snd ∧ x1 ≤ g.size ∧ runB g ((secN (bt g (0 : Nat))).snd.snd - x1) x1 = runB g ((secN (bt g (0 : Nat))).snd.snd - (1 : Nat)) (1 : Nat)) ∧ ∀ (u : Nat → Value) (x1 : Nat) (w'1 : World), w'1 = w' ∧ (1 : Nat) ≤ x1 ∧ x1 ≤ (secN (bt g (0 : Nat))).snd.snd ∧ x1 ≤ g.size ∧ runB g ((secN (bt g (0 : Nat))).snd.snd - x1) x1 = runB g ((secN (bt g (0 : Nat))).snd.snd - (1 : Nat)) (1 : Nat) → bcase (decide ((↑x1 : Int) < (↑x.snd.snd : Int))) (bcase (decide ((↑x1 : Int) < (↑g.size : Int))) (∃ (k2 : Nat), (↑x1 : Int) = (↑k2 : Int) ∧ k2 < g.size ∧ ∃ (g2 : Nat × Nat × Nat), #[Value.int IntKind.u8 (↑(g.data.toList.getD k2 (0 : UInt8)).toNat : Int), Value.int IntKind.u8 (↑(loB g x1) : Int), Value.int IntKind.u8 (↑(hiB g x1) : Int)] = #[Value.int IntKind.u8 (↑g2.fst : Int), Value.int IntKind.u8 (↑g2.snd.fst : Int), Value.int IntKind.u8 (↑g2.snd.snd : Int)] ∧ True ∧ ∀ (x2 : Bool) (w'2 : World), x2 = decide (g2.snd.fst ≤ g2.fst ∧ g2.fst ≤ g2.snd.snd) ∧ w'2 = w'1 → bcase x2 (InR IntKind.i64 ((↑x1 : Int) + (1 : Int)) ∧ ∃ (y : Nat), Value.int IntKind.i64 ((↑x1 : Int) + (1 : Int)) = Value.int IntKind.i64 (↑y : Int) ∧ Value.int IntKind.u8 (128 : Int) = Value.int IntKind.u8 (↑(loB g y) : Int) ∧ Value.int IntKind.u8 (191 : Int) = Value.int IntKind.u8 (↑(hiB g y) : Int) ∧ (w'2 = w' ∧ (1 : Nat) ≤ y ∧ y ≤ (secN (bt g (0 : Nat))).snd.snd ∧ y ≤ g.size ∧
 runB g ((secN (bt g (0 : Nat))).snd.snd - y) y = runB g ((secN (bt g (0 : Nat))).snd.snd - (1 : Nat)) (1 : Nat)) ∧ g.size - y < g.size - x1) (∃ (x3 : Nat × Nat), Value.tuple #[Value.int IntKind.i64 (↑x1 : Int), Value.int IntKind.i64 (↑x.snd.snd : Int)] = Value.tuple #[Value.int IntKind.i64 (↑x3.fst : Int), Value.int IntKind.i64 (↑x3.snd : Int)] ∧ x3.fst = begN g ∧ x3.snd = begS g ∧ w'2 = w)) (∃ (x2 : Nat × Nat), Value.tuple #[Value.int IntKind.i64 (↑x1 : Int), Value.int IntKind.i64 (↑x.snd.snd : Int)] = Value.tuple #[Value.int IntKind.i64 (↑x2.fst : Int), Value.int IntKind.i64 (↑x2.snd : Int)] ∧ x2.fst = begN g ∧ x2.snd = begS g ∧ w'1 = w)) (∃ (x2 : Nat × Nat), Value.tuple #[Value.int IntKind.i64 (↑x1 : Int), Value.int IntKind.i64 (↑x.snd.snd : Int)] = Value.tuple #[Value.int IntKind.i64 (↑x2.fst : Int), Value.int IntKind.i64 (↑x2.snd : Int)] ∧ x2.fst = begN g ∧ x2.snd = begS g ∧ w'1 = w))))) :
    (sBegins).Ok Tryd.prog 126 :=
  ok_of_vc sBegins annBegins spBegins (fun _ _ => rfl) (fun _ _ => rfl) hsp Tryd.func126 rfl (n := 1) (fun _ => rfl) (by kernel_rfl) (vcast (by kernel_rfl) h)

set_option maxRecDepth 1000000 in
theorem number_vc (hsp : SpecsOk Tryd.prog []) (h : ∀ (g : ByteArray) (w : World), (1 : Nat) ≤ g.size ∧ g.size ≤ (4 : Nat) → ∀ (b : Nat) (w1 : World), New w (Obj.cells #[Value.int IntKind.u8 (127 : Int), Value.int IntKind.u8 (31 : Int), Value.int IntKind.u8 (15 : Int), Value.int IntKind.u8 (7 : Int)] (5 : Nat)) b w1 → ∀ (w11 : World), Drew w1 w11 → ∃ (k : Nat), (0 : Int) = (↑k : Int) ∧ k < g.size ∧ InR IntKind.i64 ((↑g.size : Int) - (1 : Int)) ∧ ∃ (k1 : Nat), (↑g.size : Int) - (1 : Int) = (↑k1 : Int) ∧ k1 < (4 : Nat) ∧ ∃ (n : Int), w1.cell? { block := b, off := (0 : Nat) + k1 } = some (Value.int IntKind.u8 n) ∧ InR IntKind.i32 (IntKind.u8.wrap (↑(BitVec.ofInt IntKind.u8.bits (↑(g.data.toList.getD k (0 : UInt8)).toNat : Int) &&& BitVec.ofInt IntKind.u8.bits n).toNat : Int)) ∧ (∃ (x : Nat), Value.int IntKind.i64 (1 : Int) = Value.int IntKind.i64 ((↑x : Int) + (1 : Int)) ∧ Value.int IntKind.i32 (IntKind.u8.wrap (↑(BitVec.ofInt IntKind.u8.bits (↑(g.data.toList.getD k (0 : UInt8)).toNat : Int) &&& BitVec.ofInt IntKind.u8.bits n).toNat : Int)) = Value.int IntKind.i32 (↑(numP g g.size x) : Int) ∧ x + (1 : Nat) ≤ g.size ∧ Ext w11 w11) ∧ ∀ (u : Nat → Value) (x : Nat) (w' : World), x + (1 : Nat) ≤ g.size ∧ Ext w11 w' → bcase (decide ((↑x : Int) + (1 : Int) < (↑g.size : Int))) (InR IntKind.i32 ((64 : Int) * (↑(numP g g.size x) : Int)) ∧ ∃ (k2 : Nat), (↑x : Int) + (1 : Int) = (↑k2 : Int) ∧ k2 < g.size ∧ InR IntKind.i32 (IntKind.u8.wrap (↑(BitVec.ofInt IntKind.u8.bits (↑(g.data.toList.getD k2 (0 : UInt8)).toNat : Int) &&& BitVec.ofInt IntKind.u8.bits (63 : Int)).toNat : Int)) ∧ InR IntKind.i32 ((64 : Int) * (↑(numP g g.size x) : Int) + IntKind.u8.wrap (↑(BitVec.ofInt IntKind.u8.bits (↑(g.data.toList.getD k2 (0 : UInt8)).toNat : Int) &&& BitVec.ofInt IntKind.u8.bits (63 : Int)).toNat : Int)) ∧ InR IntKind.i64 ((↑x : Int) + (1 : Int) + (1 : Int)) ∧ ∃ (y : Nat), Value.int IntKind.i64 ((↑x : Int) + (1 : Int) + (1 : Int)) = Value.int IntKind.i64 ((↑y : Int) + (1 : Int)) ∧ Value.int IntKind.i32 ((64 : Int) * (↑(numP g g.size x) : Int) + IntKind.u8.wrap (↑(BitVec.ofInt IntKind.u8.bits (↑(g.data.toList.getD k2 (0 : UInt8)).toNat : Int) &&& BitVec.ofInt IntKind.u8.bits (63 : Int)).toNat : Int)) = Value.int IntKind.i32 (↑(numP g g.size y) : Int) ∧ (y + (1 : Nat) ≤ g.size ∧ Ext w11 w') ∧ g.size - y < g.size - x) (∃ (x1 : Nat), Value.int IntKind.i32 (↑(numP g g.size x) : Int) = Value.int IntKind.i32 (↑x1 : Int) ∧ x1 = numR g g.size ∧ Ext w w')) :
    (sNumber).Ok Tryd.prog 127 :=
  ok_of_vc sNumber annNumber [] (fun _ _ => rfl) (fun _ _ => rfl) hsp Tryd.func127 rfl (n := 1) (fun _ => rfl) (by kernel_rfl) (vcast (by kernel_rfl) h)

set_option maxRecDepth 1000000 in
theorem rnext_vc (hsp : SpecsOk Tryd.prog spRNext) (h : ∀ (g : ByteArray) (w : World), U8 w ∧ g.size ≤ (67108864 : Nat) → ∃ (g1 : ByteArray), #[Value.string g] = #[Value.string g1] ∧ g1.size ≤ (67108864 : Nat) ∧ ∀ (x : Nat × Nat) (w' : World), x.fst = begN g1 ∧ x.snd = begS g1 ∧ w' = w → bcase (g.toList == (ByteArray.mk #[]).toList) (∃ (x1 : Int × Nat), Value.tuple #[Value.int IntKind.i32 (65533 : Int), Value.int IntKind.i64 (0 : Int)] = Value.tuple #[Value.int IntKind.i32 x1.fst, Value.int IntKind.i64 (↑x1.snd : Int)] ∧ x1.fst = nxR g ∧ x1.snd = nxN g ∧ Ext w w') (bcase ((↑x.fst : Int) == (0 : Int) || decide ((↑x.fst : Int) < (↑x.snd : Int))) (∃ (x1 : Int × Nat), Value.tuple #[Value.int IntKind.i32 (65533 : Int), Value.int IntKind.i64 (1 : Int)] = Value.tuple #[Value.int IntKind.i32 x1.fst, Value.int IntKind.i64 (↑x1.snd : Int)] ∧ x1.fst = nxR g ∧ x1.snd = nxN g ∧ Ext w w') (∃ (k : Nat), (↑x.snd : Int) = (↑k : Int) ∧ (0 : Nat) ≤ k ∧ k ≤ g.size ∧ ∃ (g2 : ByteArray), #[Value.string (g.extract (0 : Nat) k)] = #[Value.string g2] ∧ ((1 : Nat) ≤ g2.size ∧ g2.size ≤ (4 : Nat)) ∧ ∀ (x1 : Nat) (w'1 : World), x1 = numR g2 g2.size ∧ Ext w' w'1 → ∃ (x2 : Int × Nat), Value.tuple #[Value.int IntKind.i32 (↑x1 : Int), Value.int IntKind.i64 (↑x.snd : Int)] = Value.tuple #[Value.int IntKind.i32 x2.fst, Value.int IntKind.i64 (↑x2.snd : Int)] ∧ x2.fst = nxR g ∧ x2.snd = nxN g ∧ Ext w w'1))) :
    ((sDec nxR nxN)).Ok Tryd.prog 86 :=
  ok_of_vc (sDec nxR nxN) (annOf spRNext) spRNext (fun _ _ => rfl) (fun _ _ => rfl) hsp Tryd.func86 rfl (n := 1) (fun _ => rfl) (by kernel_rfl) (vcast (by kernel_rfl) h)

set_option maxRecDepth 1000000 in
theorem next_vc (hsp : SpecsOk Tryd.prog spNext) (h : ∀ (g : ByteArray) (w : World), U8 w ∧ g.size ≤ (67108864 : Nat) → ∃ (g1 : ByteArray), #[Value.string g] = #[Value.string g1] ∧ (U8 w ∧ g1.size ≤ (67108864 : Nat)) ∧ ∀ (x : Int × Nat) (w' : World), x.fst = nxR g1 ∧ x.snd = nxN g1 ∧ Ext w w' → ∃ (x1 : Int × Nat), Value.tuple #[Value.int IntKind.i32 x.fst, Value.int IntKind.i64 (↑x.snd : Int)] = Value.tuple #[Value.int IntKind.i32 x1.fst, Value.int IntKind.i64 (↑x1.snd : Int)] ∧ x1.fst = nxR g ∧ x1.snd = nxN g ∧ Ext w w') :
    ((sDec nxR nxN)).Ok Tryd.prog 63 :=
  ok_of_vc (sDec nxR nxN) (annOf spNext) spNext (fun _ _ => rfl) (fun _ _ => rfl) hsp Tryd.func63 rfl (n := 1) (fun _ => rfl) (by kernel_rfl) (vcast (by kernel_rfl) h)

end Go.Proofs.YthpjkgoahneldaaDoor
end

section
/-
  Chapter 1: one step of the decoders: the document's and the library's say the same.
-/
namespace Go.Proofs.YthpjkgoahneldaaDoor
open Go Go.RowKit Vc Ut

theorem U8.ext {w w' : World} (h : U8 w) (hx : Ext w w') : U8 w' := ⟨fun c hc => hx.cell (h.1 c hc), fun i hi => ⟨hx.cell (h.2 i hi).1, hx.cell (h.2 i hi).2⟩⟩
theorem U8.fr {S : Nat → Prop} {w w' : World} (h : U8 w) (hf : Fr S w w') (h0 : ¬ S 0) (h1 : ¬ S 1) : U8 w' := by
  have k : ∀ (g o : Nat) (v : Value), ¬ S g → w.cell? ⟨g, o, none⟩ = some v → w'.cell? ⟨g, o, none⟩ = some v := fun g o v hg hc =>
    (World.cell?_of_block (w := w) (hf.block g (World.block_lt_of_cell? w _ hc) hg)).trans hc
  exact ⟨fun c hc => k _ _ _ h0 (h.1 c hc), fun i hi => ⟨k _ _ _ h1 (h.2 i hi).1, k _ _ _ h1 (h.2 i hi).2⟩⟩
theorem U8.lt {w : World} (h : U8 w) : 0 < w.heap.size ∧ 1 < w.heap.size :=
  ⟨World.block_lt_of_cell? w _ (h.1 0 (by decide)), World.block_lt_of_cell? w _ (h.2 0 (by decide)).1⟩

theorem str_eq (a b : ByteArray) : (a.toList == b.toList) = decide (a = b) := by
  rw [ByteArray.toList_eq, ByteArray.toList_eq]
  by_cases h : a = b
  · subst h; simp
  · rw [decide_eq_false h]
    have : ¬ a.data.toList = b.data.toList := fun hh => h (ByteArray.ext (Array.ext' hh))
    simpa using this
theorem size_zero {a : ByteArray} (h : a.size = 0) : a = ByteArray.mk #[] := by
  apply ByteArray.ext
  exact Array.eq_empty_of_size_eq_zero h
theorem str_nil (a : ByteArray) : (a.toList == (ByteArray.mk #[]).toList) = decide (a.size = 0) := by
  rw [str_eq]
  exact decide_eq_decide.2 ⟨fun h => by rw [h]; rfl, size_zero⟩

theorem within_ok : sWithin.Ok Tryd.prog 144 := by
  refine within_vc trivial ?_
  rintro ⟨c, a, b⟩ w _
  refine ⟨_, rfl, ?_, rfl⟩
  dsimp only
  rw [Bool.decide_and]
  congr 1 <;> exact decide_eq_decide.2 (by omega)

theorem second_ok : sSecond.Ok Tryd.prog 143 := by
  refine second_vc ⟨within_ok, trivial⟩ ?_
  rintro c w _
  refine ⟨(c, 194, 223), rfl, trivial, ?_⟩
  rintro x w1 ⟨rfl, rfl⟩
  dsimp only
  refine bcase_mk (fun h => ⟨(128, 191, 2), rfl, ?_, rfl⟩) (fun h1 => ?_)
  · simp only [decide_eq_true_eq] at h; unfold secN; rw [if_pos h]
  simp only [decide_eq_false_iff_not] at h1
  refine bcase_mk (fun h => ⟨(160, 191, 3), rfl, ?_, rfl⟩) (fun h2 => ?_)
  · simp only [beq_iff_eq] at h; unfold secN; rw [if_neg h1, if_pos (by omega)]
  simp only [beq_eq_false_iff_ne, ne_eq] at h2
  refine bcase_mk (fun h => ⟨(128, 159, 3), rfl, ?_, rfl⟩) (fun h3 => ?_)
  · simp only [beq_iff_eq] at h; unfold secN; rw [if_neg h1, if_neg (by omega), if_pos (by omega)]
  simp only [beq_eq_false_iff_ne, ne_eq] at h3
  refine ⟨(c, 225, 239), rfl, trivial, ?_⟩
  rintro x w2 ⟨rfl, rfl⟩
  refine bcase_mk (fun h => ⟨(128, 191, 3), rfl, ?_, rfl⟩) (fun h4 => ?_)
  · simp only [decide_eq_true_eq] at h; unfold secN; rw [if_neg h1, if_neg (by omega), if_neg (by omega), if_pos h]
  simp only [decide_eq_false_iff_not] at h4
  refine bcase_mk (fun h => ⟨(144, 191, 4), rfl, ?_, rfl⟩) (fun h5 => ?_)
  · simp only [beq_iff_eq] at h; unfold secN; rw [if_neg h1, if_neg (by omega), if_neg (by omega), if_neg h4, if_pos (by omega)]
  simp only [beq_eq_false_iff_ne, ne_eq] at h5
  refine ⟨(c, 241, 243), rfl, trivial, ?_⟩
  rintro x w3 ⟨rfl, rfl⟩
  refine bcase_mk (fun h => ⟨(128, 191, 4), rfl, ?_, rfl⟩) (fun h6 => ?_)
  · simp only [decide_eq_true_eq] at h; unfold secN; rw [if_neg h1, if_neg (by omega), if_neg (by omega), if_neg h4, if_neg (by omega), if_pos h]
  simp only [decide_eq_false_iff_not] at h6
  refine bcase_mk (fun h => ⟨(128, 143, 4), rfl, ?_, rfl⟩) (fun h7 => ⟨(0, 0, 0), rfl, ?_, rfl⟩)
  · simp only [beq_iff_eq] at h; unfold secN; rw [if_neg h1, if_neg (by omega), if_neg (by omega), if_neg h4, if_neg (by omega), if_neg h6, if_pos (by omega)]
  · simp only [beq_eq_false_iff_ne, ne_eq] at h7; unfold secN; rw [if_neg h1, if_neg (by omega), if_neg (by omega), if_neg h4, if_neg (by omega), if_neg h6, if_neg (by omega)]

theorem runB_stop {s : ByteArray} {f n : Nat} (h : ¬ okB s n) : runB s f n = n := by
  cases f with
  | zero => rfl
  | succ f => unfold runB; rw [if_neg h]
theorem runB_go {s : ByteArray} {k n : Nat} (h : okB s n) (hk : n < k) : runB s (k - n) n = runB s (k - (n + 1)) (n + 1) := by
  rw [show k - n = k - (n + 1) + 1 from by omega]
  unfold runB
  rw [if_pos h]
  cases k - (n + 1) <;> rfl

set_option maxRecDepth 20000 in
theorem begins_ok : sBegins.Ok Tryd.prog 126 := by
  refine begins_vc ⟨second_ok, within_ok, trivial⟩ ?_
  rintro s w hsm
  rw [str_nil]
  refine bcase_mk (fun h => ?_) (fun h => ?_)
  · have h0 : s.size = 0 := by simpa using h
    exact ⟨(0, 0), rfl, by unfold begN; rw [if_pos h0], by unfold begS; rw [if_pos h0], rfl⟩
  have h0 : ¬ s.size = 0 := by simpa using h
  refine ⟨0, rfl, by omega, ?_⟩
  refine bcase_mk (fun h => ?_) (fun h => ?_)
  · have h1 : bt s 0 < 128 := by simp only [decide_eq_true_eq] at h; unfold bt; omega
    exact ⟨(1, 1), rfl, by unfold begN; rw [if_neg h0, if_pos h1], by unfold begS; rw [if_neg h0, if_pos h1], rfl⟩
  have h1 : ¬ bt s 0 < 128 := by simp only [decide_eq_false_iff_not] at h; unfold bt; omega
  refine ⟨0, rfl, by omega, bt s 0, rfl, trivial, ?_⟩
  rintro x w1 ⟨rfl, rfl⟩
  have hS : begS s = (secN (bt s 0)).2.2 := by unfold begS; rw [if_neg h0, if_neg h1]
  refine bcase_mk (fun h => ?_) (fun h => ?_)
  · have h2 : (secN (bt s 0)).2.2 = 0 := by simp only [beq_iff_eq] at h; omega
    exact ⟨(0, 0), rfl, by unfold begN; rw [if_neg h0, if_neg h1, if_pos h2], by rw [hS, h2], rfl⟩
  have h2 : ¬ (secN (bt s 0)).2.2 = 0 := by simp only [beq_eq_false_iff_ne, ne_eq] at h; omega
  have hN : begN s = runB s ((secN (bt s 0)).2.2 - 1) 1 := by unfold begN; rw [if_neg h0, if_neg h1, if_neg h2]
  have hbd := secN_bd (bt s 0)
  refine ⟨⟨1, rfl, rfl, rfl, rfl, Nat.le_refl _, by omega, by omega, rfl⟩, ?_⟩
  rintro _ n w2 ⟨rfl, hn1, hn2, hn3, hrun⟩
  have done : runB s ((secN (bt s 0)).2.2 - n) n = n → ∃ x2 : Nat × Nat, Value.tuple #[.int .i64 n, .int .i64 (secN (bt s 0)).2.2] = Value.tuple #[.int .i64 x2.1, .int .i64 x2.2] ∧ x2.1 = begN s ∧ x2.2 = begS s ∧ w2 = w2 :=
    fun hd => ⟨(n, (secN (bt s 0)).2.2), rfl, by rw [hN, ← hrun, hd], hS.symm, rfl⟩
  refine bcase_mk (fun h => ?_) (fun h => ?_)
  · have hk : n < (secN (bt s 0)).2.2 := by simp only [decide_eq_true_eq] at h; omega
    refine bcase_mk (fun h => ?_) (fun h => ?_)
    · have hs : n < s.size := by simp only [decide_eq_true_eq] at h; omega
      refine ⟨n, rfl, hs, (bt s n, loB s n, hiB s n), rfl, trivial, ?_⟩
      rintro x w3 ⟨rfl, rfl⟩
      dsimp only
      refine bcase_mk (fun h => ?_) (fun h => ?_)
      · have hok : okB s n := by simp only [decide_eq_true_eq] at h; exact ⟨hs, h⟩
        refine ⟨inr_i64 (by omega) (by omega), n + 1, by simp, ?_, ?_, ⟨rfl, by omega, by omega, by omega, by rw [← hrun, runB_go hok hk]⟩, by omega⟩
        · unfold loB; rw [if_neg (by omega)]; rfl
        · unfold hiB; rw [if_neg (by omega)]; rfl
      · exact done (runB_stop (fun hok => by simp only [decide_eq_false_iff_not] at h; exact h hok.2))
    · exact done (runB_stop (fun hok => by simp only [decide_eq_false_iff_not] at h; have := hok.1; omega))
  · have hk : n = (secN (bt s 0)).2.2 := by simp only [decide_eq_false_iff_not] at h; omega
    refine done ?_
    rw [← hk, Nat.sub_self]; rfl

set_option maxRecDepth 100000 in
theorem and_masks : ∀ x : Fin 256, IntKind.u8.wrap ((BitVec.ofInt IntKind.u8.bits ((x.val : Nat) : Int) &&& BitVec.ofInt IntKind.u8.bits 127).toNat : Int) = ((x.val % 128 : Nat) : Int) ∧
    IntKind.u8.wrap ((BitVec.ofInt IntKind.u8.bits ((x.val : Nat) : Int) &&& BitVec.ofInt IntKind.u8.bits 31).toNat : Int) = ((x.val % 32 : Nat) : Int) ∧
    IntKind.u8.wrap ((BitVec.ofInt IntKind.u8.bits ((x.val : Nat) : Int) &&& BitVec.ofInt IntKind.u8.bits 15).toNat : Int) = ((x.val % 16 : Nat) : Int) ∧
    IntKind.u8.wrap ((BitVec.ofInt IntKind.u8.bits ((x.val : Nat) : Int) &&& BitVec.ofInt IntKind.u8.bits 7).toNat : Int) = ((x.val % 8 : Nat) : Int) ∧
    IntKind.u8.wrap ((BitVec.ofInt IntKind.u8.bits ((x.val : Nat) : Int) &&& BitVec.ofInt IntKind.u8.bits 63).toNat : Int) = ((x.val % 64 : Nat) : Int) := by decide
theorem and_mask (s : ByteArray) (i : Nat) {m : Int} {k : Nat} (h : (m = 127 ∧ k = 128) ∨ (m = 31 ∧ k = 32) ∨ (m = 15 ∧ k = 16) ∨ (m = 7 ∧ k = 8) ∨ (m = 63 ∧ k = 64)) :
    IntKind.u8.wrap ((BitVec.ofInt IntKind.u8.bits ((s.data.toList.getD i 0).toNat : Int) &&& BitVec.ofInt IntKind.u8.bits m).toNat : Int) = ((bt s i % k : Nat) : Int) := by
  have := and_masks ⟨bt s i, bt_lt s i⟩
  dsimp only at this
  rcases h with ⟨rfl, rfl⟩ | ⟨rfl, rfl⟩ | ⟨rfl, rfl⟩ | ⟨rfl, rfl⟩ | ⟨rfl, rfl⟩
  · exact this.1
  · exact this.2.1
  · exact this.2.2.1
  · exact this.2.2.2.1
  · exact this.2.2.2.2

theorem number_ok : sNumber.Ok Tryd.prog 127 := by
  refine number_vc trivial ?_
  rintro s w ⟨h1, h4⟩ b w1 hn w2 hd
  have hcell : ∃ m : Int, w1.cell? ⟨b, 0 + (s.size - 1), none⟩ = some (.int .u8 m) ∧ ((m = 127 ∧ maskN s.size = 128) ∨ (m = 31 ∧ maskN s.size = 32) ∨ (m = 15 ∧ maskN s.size = 16) ∨ (m = 7 ∧ maskN s.size = 8) ∨ (m = 63 ∧ maskN s.size = 64)) := by
    rw [Nat.zero_add, hn.cell]
    have : s.size = 1 ∨ s.size = 2 ∨ s.size = 3 ∨ s.size = 4 := by omega
    rcases this with h | h | h | h <;> rw [h]
    · exact ⟨127, rfl, .inl ⟨rfl, rfl⟩⟩
    · exact ⟨31, rfl, .inr (.inl ⟨rfl, rfl⟩)⟩
    · exact ⟨15, rfl, .inr (.inr (.inl ⟨rfl, rfl⟩))⟩
    · exact ⟨7, rfl, .inr (.inr (.inr (.inl ⟨rfl, rfl⟩)))⟩
  obtain ⟨m, hc, hm⟩ := hcell
  have hmod := and_mask s 0 hm
  have hb := bt_lt s 0
  have hml : bt s 0 % maskN s.size ≤ bt s 0 := Nat.mod_le _ _
  refine ⟨0, rfl, by omega, inr_i64 (by omega) (by omega), s.size - 1, by omega, by omega, m, hc, ?_, ⟨0, rfl, ?_, by omega, Ext.refl _⟩, ?_⟩
  · rw [hmod]; exact inr_i32 (by omega) (by omega)
  · rw [hmod]; rfl
  rintro _ n w3 ⟨hn1, hw3⟩
  refine bcase_mk (fun h => ?_) (fun h => ?_)
  · have hn2 : n + 1 < s.size := by simp only [decide_eq_true_eq] at h; omega
    have hp := numP_le s s.size n
    have hp64 : (64 : Nat) ^ n ≤ 64 ^ 2 := Nat.pow_le_pow_right (by omega) (by omega)
    have hm63 := and_mask s (n + 1) (m := 63) (k := 64) (.inr (.inr (.inr (.inr ⟨rfl, rfl⟩))))
    have h64 : bt s (n + 1) % 64 < 64 := Nat.mod_lt _ (by omega)
    refine ⟨inr_i32 (by omega) (by omega), n + 1, by omega, hn2, ?_, ?_, inr_i64 (by omega) (by omega), n + 1, by simp, ?_, ⟨by omega, hw3⟩, by omega⟩
    · rw [hm63]; exact inr_i32 (by omega) (by omega)
    · rw [hm63]; exact inr_i32 (by omega) (by omega)
    · rw [hm63]; simp only [numP]; simp
  · have hn2 : n = s.size - 1 := by simp only [decide_eq_false_iff_not] at h; omega
    refine ⟨numP s s.size n, rfl, by unfold numR; rw [hn2], ?_⟩
    exact Ext.trans hn.ext (Ext.trans hd.ext hw3)

theorem numP_ext {s : ByteArray} {k a n : Nat} (hk : k ≤ s.size) (hn : n < k) : numP (s.extract 0 k) a n = numP s a n := by
  induction n with
  | zero => simp only [numP]; rw [bt_ext (by omega)]
  | succ n ih => simp only [numP]; rw [ih (by omega), bt_ext (by omega), Nat.zero_add]

theorem rnext_ok : (sDec nxR nxN).Ok Tryd.prog 86 := by
  refine rnext_vc ⟨begins_ok, number_ok, trivial⟩ ?_
  rintro s w ⟨hU, hsm⟩
  refine ⟨s, rfl, hsm, ?_⟩
  rintro ⟨n, k⟩ w1 ⟨hn, hk, rfl⟩
  dsimp only at hn hk ⊢
  have hx := nextR_nx s
  rw [str_nil]
  refine bcase_mk (fun h => ?_) (fun h => ?_)
  · have h0 : s.size = 0 := by simpa using h
    exact ⟨(65533, 0), rfl, by unfold nxR; rw [if_pos h0], by unfold nxN; rw [if_pos h0], Ext.refl _⟩
  have h0 : ¬ s.size = 0 := by simpa using h
  unfold nextR at hx
  rw [if_neg h0] at hx
  refine bcase_mk (fun h => ?_) (fun h => ?_)
  · have hb : begN s = 0 ∨ begN s < begS s := by simp only [Bool.or_eq_true, beq_iff_eq, decide_eq_true_eq] at h; omega
    rw [if_pos hb] at hx
    exact ⟨(65533, 1), rfl, hx.1, hx.2, Ext.refl _⟩
  · have hb : ¬ (begN s = 0 ∨ begN s < begS s) := by simp only [Bool.or_eq_false_iff, beq_eq_false_iff_ne, ne_eq, decide_eq_false_iff_not] at h; omega
    rw [if_neg hb] at hx
    have hle := begN_le s
    have hsz : (s.extract 0 k).size = k := by rw [size_ext (by omega)]; rfl
    refine ⟨k, rfl, Nat.zero_le _, by omega, _, rfl, by rw [hsz]; omega, ?_⟩
    rintro x w2 ⟨hx2, hw2⟩
    refine ⟨(x, k), rfl, ?_, by rw [hk]; exact hx.2, hw2⟩
    dsimp only
    rw [hx2, hsz, ← hx.1, hk]
    unfold numR
    rw [numP_ext (by omega) (by omega)]

theorem dec_ok : (sDec nxR nxN).Ok Tryd.prog 99 := by
  rintro (s : ByteArray) w ⟨hU, hsm⟩
  refine (Tryd.utf8_DecodeRuneInString s w hU).mono fun e w' ⟨he, hx⟩ => ⟨(nxR s, nxN s), ?_, ⟨rfl, rfl, hx⟩, KO.below hx (Nat.le_refl _)⟩
  have := decodeGo_eq s
  rw [he, this.1, this.2]; rfl
theorem next_ok : (sDec nxR nxN).Ok Tryd.prog 63 := by
  refine next_vc ⟨dec_ok, trivial⟩ ?_
  rintro s w hp
  refine ⟨s, rfl, hp, ?_⟩
  rintro x w1 ⟨h1, h2, h3⟩
  exact ⟨x, rfl, h1, h2, h3⟩
/-! ### FullRuneInString -/

theorem wholeB_cases (s : ByteArray) (h0 : s.size ≠ 0) : wholeB s = if begS s ≤ s.size then true else if 1 < s.size ∧ ¬ okB s 1 then true else if 2 < s.size ∧ ¬ okB s 2 then true else false := by
  have hle := begN_le s
  unfold wholeB
  by_cases h1 : begS s ≤ s.size
  · rw [if_pos h1]; simp only [decide_eq_true_eq]; omega
  · rw [if_neg h1]
    have hS : begS s = (secN (bt s 0)).2.2 ∧ ¬ bt s 0 < 128 := by
      unfold begS at h1 ⊢
      rw [if_neg h0] at h1 ⊢
      by_cases h : bt s 0 < 128
      · rw [if_pos h] at h1; omega
      · exact ⟨if_neg h, h⟩
    have hN : begN s = runB s (begS s - 1) 1 := by
      unfold begN; rw [if_neg h0, if_neg hS.2, ← hS.1, if_neg (by omega)]
    have : s.size = 1 ∨ s.size = 2 ∨ s.size = 3 := by omega
    rcases this with h | h | h
    · have : ¬ okB s 1 := fun hh => by have := hh.1; omega
      rw [runB_stop this] at hN
      rw [if_neg (by omega), if_neg (by omega)]; simp only [decide_eq_false_iff_not]; omega
    · have n2 : ¬ okB s 2 := fun hh => by have := hh.1; omega
      by_cases k1 : okB s 1
      · rw [runB_go k1 (by omega), runB_stop n2] at hN
        rw [if_neg (fun hh => hh.2 k1), if_neg (by omega)]; simp only [decide_eq_false_iff_not]; omega
      · rw [runB_stop k1] at hN
        rw [if_pos ⟨by omega, k1⟩]; simp only [decide_eq_true_eq]; omega
    · have n3 : ¬ okB s 3 := fun hh => by have := hh.1; omega
      by_cases k1 : okB s 1
      · rw [runB_go k1 (by omega)] at hN
        rw [if_neg (fun hh => hh.2 k1)]
        by_cases k2 : okB s 2
        · rw [runB_go k2 (by omega), runB_stop n3] at hN
          rw [if_neg (fun hh => hh.2 k2)]; simp only [decide_eq_false_iff_not]; omega
        · rw [runB_stop k2] at hN
          rw [if_pos ⟨by omega, k2⟩]; simp only [decide_eq_true_eq]; omega
      · rw [runB_stop k1] at hN
        rw [if_pos ⟨by omega, k1⟩]; simp only [decide_eq_true_eq]; omega

set_option maxRecDepth 100000 in
theorem first_sec : ∀ c : Fin 256, IntKind.u8.wrap ((BitVec.ofInt IntKind.u8.bits ((Lib.firstT c.val : Nat) : Int) &&& BitVec.ofInt IntKind.u8.bits 7).toNat : Int) = (if c.val < 128 then 0 else if (secN c.val).2.2 = 0 then 1 else ((secN c.val).2.2 : Int)) ∧
    ((Lib.firstT c.val : Nat) : Int).fdiv (2 ^ min (Int.toNat 4) IntKind.u8.bits) = ((Lib.firstT c.val / 16 : Nat) : Int) ∧ Lib.firstT c.val / 16 < 16 ∧
    ((secN c.val).2.2 ≠ 0 → Lib.accLo (Lib.firstT c.val / 16) = (secN c.val).1 ∧ Lib.accHi (Lib.firstT c.val / 16) = (secN c.val).2.1) := by decide

end Go.Proofs.YthpjkgoahneldaaDoor
end
