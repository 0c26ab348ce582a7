/-
  Texts joined by program: VgWa, VgI, VgN, VgP.
-/
import Derived.Test.YthpjkgoahneldaaDoorJw07
import Derived.Test.YthpjkgoahneldaaDoorProg
import Derived.KernelRfl
import Derived.Test.YthpjkgoahneldaaDoorJw06
import Derived.Test.YthpjkgoahneldaaDoorJw05
set_option linter.unusedVariables false
set_option linter.unusedSimpArgs false

section
/-
  Verification conditions, printed by a program out of the specifications beside this text: each theorem says that the condition suffices. (Lean's kernel compares the printed condition with what 'wpE' computes.)
-/
set_option linter.unusedVariables false
namespace Go.Proofs.YthpjkgoahneldaaDoor
open Go Go.RowKit Vc Ut Tb Cl Wd

set_option maxRecDepth 1000000 in
theorem sortP_vc (hsp : SpecsOk Tryd.prog spSortP) (h : ∀ (g : ByteArray) (w : World),
U8 w ∧ g.size ≤ (67108864 : Nat) →
∃ (g1 : ByteArray),
#[Value.string g] = #[Value.string g1] ∧
(U8 w ∧ g1.size ≤ (67108864 : Nat)) ∧
∀ (x : Int × Nat) (w' : World),
x.fst = nxR g1 ∧ x.snd = nxN g1 ∧ Ext w w' →
bcase (x.fst == (65533 : Int) && decide ((↑x.snd : Int) < (2 : Int)))
(∃ (x1 : Nat), Value.int IntKind.i64 (0 : Int) = Value.int IntKind.i64 (↑x1 : Int) ∧ x1 = sortC g ∧ Ext w w')
(∃ (g2 : Int),
#[Value.int IntKind.i32 x.fst] = #[Value.int IntKind.i32 g2] ∧
True ∧
∀ (x1 : Int) (w'1 : World),
x1 = kindR g2 ∧ Ext w' w'1 →
∃ (g3 : Int),
#[Value.int IntKind.i32 x.fst] = #[Value.int IntKind.i32 g3] ∧
True ∧
∀ (x2 : Int) (w'2 : World),
x2 = brkR g3 ∧ Ext w'1 w'2 →
bcase (x1 == (3 : Int) && x2 == (7 : Int))
(∃ (x3 : Nat), Value.int IntKind.i64 (2 : Int) = Value.int IntKind.i64 (↑x3 : Int) ∧ x3 = sortC g ∧ Ext w w'2)
(bcase (x1 == (3 : Int) || (x1 == (2 : Int) || x.fst == (95 : Int)))
(∃ (x3 : Nat), Value.int IntKind.i64 (3 : Int) = Value.int IntKind.i64 (↑x3 : Int) ∧ x3 = sortC g ∧ Ext w w'2)
(bcase (x1 == (4 : Int))
(∃ (x3 : Nat), Value.int IntKind.i64 (4 : Int) = Value.int IntKind.i64 (↑x3 : Int) ∧ x3 = sortC g ∧ Ext w w'2)
(bcase (x.fst == (9 : Int) || x1 == (5 : Int) && x2 != (2 : Int))
(∃ (x3 : Nat), Value.int IntKind.i64 (1 : Int) = Value.int IntKind.i64 (↑x3 : Int) ∧ x3 = sortC g ∧ Ext w w'2)
(∃ (x3 : Nat), Value.int IntKind.i64 (0 : Int) = Value.int IntKind.i64 (↑x3 : Int) ∧ x3 = sortC g ∧ Ext w w'2)))))) :
    ((sSN sortC)).Ok Tryd.prog 104 :=
  ok_of_vc (sSN sortC) (annOf spSortP) spSortP (fun _ _ => rfl) (fun _ _ => rfl) hsp Tryd.func104 rfl (n := 1) (fun _ => rfl) (by kernel_rfl) (vcast (by kernel_rfl) h)

set_option maxRecDepth 1000000 in
theorem sortR_vc (hsp : SpecsOk Tryd.prog spSortR) (h : ∀ (g : ByteArray) (w : World),
U8 w ∧ g.size ≤ (67108864 : Nat) ∧ (0 : Nat) < g.size →
∃ (g1 : ByteArray),
#[Value.string g] = #[Value.string g1] ∧
(U8 w ∧ g1.size ≤ (67108864 : Nat)) ∧
∀ (x : Option Addr × Nat × Nat) (w' : World),
x.snd.fst = cnt g1 ∧
Made w w' (103 : TypeId) (3 : Nat) x.fst x.snd.fst (List.flatMap (sgnV g1) (List.range (cnt g1))) x.snd.snd →
∃ (k : Nat),
(0 : Int) = (↑k : Int) ∧
k < x.snd.fst ∧
ptrE x.fst fun (b o : Nat) =>
∃ (n : Int),
w'.cell? { block := b, off := o + k * (3 : Nat) } = some (Value.int IntKind.i32 n) ∧
∃ (k1 : Nat),
(0 : Int) = (↑k1 : Int) ∧
k1 < x.snd.fst ∧
ptrE x.fst fun (b1 o1 : Nat) =>
∃ (b2 : Bool),
w'.cell? { block := b1, off := o1 + k1 * (3 : Nat) + (2 : Nat) } = some (Value.bool b2) ∧
bcase b2
(∃ (x1 : Nat), Value.int IntKind.i64 (0 : Int) = Value.int IntKind.i64 (↑x1 : Int) ∧ x1 = sortQ (sortC g) ∧ Ext w w')
(∃ (g2 : Int),
#[Value.int IntKind.i32 n] = #[Value.int IntKind.i32 g2] ∧
True ∧
∀ (x1 : Int) (w'1 : World),
x1 = kindR g2 ∧ w'1 = w' →
∃ (g3 : Int),
#[Value.int IntKind.i32 n] = #[Value.int IntKind.i32 g3] ∧
True ∧
∀ (x2 : Int) (w'2 : World),
x2 = brkR g3 ∧ w'2 = w'1 →
bcase (x1 == (3 : Int) && x2 == (7 : Int))
(∃ (x3 : Nat), Value.int IntKind.i64 (3 : Int) = Value.int IntKind.i64 (↑x3 : Int) ∧ x3 = sortQ (sortC g) ∧ Ext w w'2)
(bcase (x1 == (3 : Int) || (x1 == (2 : Int) || n == (95 : Int)))
(∃ (x3 : Nat), Value.int IntKind.i64 (1 : Int) = Value.int IntKind.i64 (↑x3 : Int) ∧ x3 = sortQ (sortC g) ∧ Ext w w'2)
(bcase (x1 == (4 : Int))
(∃ (x3 : Nat), Value.int IntKind.i64 (2 : Int) = Value.int IntKind.i64 (↑x3 : Int) ∧ x3 = sortQ (sortC g) ∧ Ext w w'2)
(bcase (bif x1 == (5 : Int) then x2 != (2 : Int) || n == (9 : Int) else n == (9 : Int))
(∃ (x3 : Nat), Value.int IntKind.i64 (4 : Int) = Value.int IntKind.i64 (↑x3 : Int) ∧ x3 = sortQ (sortC g) ∧ Ext w w'2)
(∃ (x3 : Nat),
Value.int IntKind.i64 (0 : Int) = Value.int IntKind.i64 (↑x3 : Int) ∧ x3 = sortQ (sortC g) ∧ Ext w w'2)))))) :
    (sSortR).Ok Tryd.prog 66 :=
  ok_of_vc sSortR (annOf spSortR) spSortR (fun _ _ => rfl) (fun _ _ => rfl) hsp Tryd.func66 rfl (n := 1) (fun _ => rfl) (by kernel_rfl) (vcast (by kernel_rfl) h)

set_option maxRecDepth 1000000 in
theorem betw_vc (hsp : SpecsOk Tryd.prog []) (h : ∀ (g : ByteArray) (w : World),
True →
bcase
(g.toList == (ByteArray.mk #[(39 : UInt8)]).toList ||
(g.toList == (ByteArray.mk #[(226 : UInt8), (128 : UInt8), (153 : UInt8)]).toList ||
(g.toList == (ByteArray.mk #[(194 : UInt8), (183 : UInt8)]).toList || g.toList == (ByteArray.mk #[(58 : UInt8)]).toList)))
(∃ (x : Nat), Value.int IntKind.i64 (3 : Int) = Value.int IntKind.i64 (↑x : Int) ∧ x = betC g ∧ w = w)
(bcase (g.toList == (ByteArray.mk #[(46 : UInt8)]).toList || g.toList == (ByteArray.mk #[(44 : UInt8)]).toList)
(∃ (x : Nat), Value.int IntKind.i64 (4 : Int) = Value.int IntKind.i64 (↑x : Int) ∧ x = betC g ∧ w = w)
(∃ (x : Nat), Value.int IntKind.i64 (0 : Int) = Value.int IntKind.i64 (↑x : Int) ∧ x = betC g ∧ w = w))) :
    (sBet).Ok Tryd.prog 105 :=
  ok_of_vc sBet (annOf []) [] (fun _ _ => rfl) (fun _ _ => rfl) hsp Tryd.func105 rfl (n := 1) (fun _ => rfl) (by kernel_rfl) (vcast (by kernel_rfl) h)

set_option maxRecDepth 1000000 in
theorem joins_vc (hsp : SpecsOk Tryd.prog []) (h : ∀ (g : ByteArray × Nat × Nat) (w : World),
g.snd.fst ≤ (4 : Nat) ∧ g.snd.snd ≤ (4 : Nat) →
bcase
(g.fst.toList == (ByteArray.mk #[(39 : UInt8)]).toList ||
(g.fst.toList == (ByteArray.mk #[(226 : UInt8), (128 : UInt8), (153 : UInt8)]).toList ||
(g.fst.toList == (ByteArray.mk #[(194 : UInt8), (183 : UInt8)]).toList ||
g.fst.toList == (ByteArray.mk #[(58 : UInt8)]).toList)))
(∃ (x : Bool),
Value.bool ((↑(sortQ g.snd.fst) : Int) == (1 : Int) && (↑(sortQ g.snd.snd) : Int) == (1 : Int)) = Value.bool x ∧
x = decide (Jn (betC g.fst) g.snd.fst g.snd.snd) ∧ w = w)
(bcase (g.fst.toList == (ByteArray.mk #[(46 : UInt8)]).toList || g.fst.toList == (ByteArray.mk #[(44 : UInt8)]).toList)
(∃ (x : Bool),
Value.bool ((↑(sortQ g.snd.fst) : Int) == (2 : Int) && (↑(sortQ g.snd.snd) : Int) == (2 : Int)) = Value.bool x ∧
x = decide (Jn (betC g.fst) g.snd.fst g.snd.snd) ∧ w = w)
(∃ (x : Bool), Value.bool false = Value.bool x ∧ x = decide (Jn (betC g.fst) g.snd.fst g.snd.snd) ∧ w = w))) :
    (sJoins).Ok Tryd.prog 103 :=
  ok_of_vc sJoins (annOf []) [] (fun _ _ => rfl) (fun _ _ => rfl) hsp Tryd.func103 rfl (n := 3) (fun _ => rfl) (by kernel_rfl) (vcast (by kernel_rfl) h)

set_option maxRecDepth 1000000 in
theorem goes12_vc (hsp : SpecsOk Tryd.prog spGoes12) (h : ∀ (g : GGo) (w : World),
g.i < ncl g.s ∧
g.s.size ≤ (67108864 : Nat) ∧
CellsAt w g.la (List.flatMap encPc (pcL g.s)) ∧ CellsAt w g.sa (List.map (Value.int IntKind.i64) (ksQ g.s)) →
InR IntKind.i64 ((↑g.i : Int) + (1 : Int)) ∧
bcase (decide ((↑g.i : Int) + (1 : Int) ≥ (↑(ncl g.s) : Int)))
(∃ (x : Bool), Value.bool false = Value.bool x ∧ x = decide (GoW (ncl g.s) (kw g.s) (bw g.s) g.i) ∧ Ext w w)
(∃ (k : Nat),
(↑g.i : Int) = (↑k : Int) ∧
k < ncl g.s ∧
ptrE g.sa fun (b o : Nat) =>
∃ (n : Int),
w.cell? { block := b, off := o + k } = some (Value.int IntKind.i64 n) ∧
InR IntKind.i64 ((↑g.i : Int) + (1 : Int)) ∧
∃ (k1 : Nat),
(↑g.i : Int) + (1 : Int) = (↑k1 : Int) ∧
k1 < ncl g.s ∧
ptrE g.sa fun (b1 o1 : Nat) =>
∃ (n1 : Int),
w.cell? { block := b1, off := o1 + k1 } = some (Value.int IntKind.i64 n1) ∧
bcase
(bif n == (1 : Int) || n == (2 : Int) then n1 == (1 : Int) || n1 == (2 : Int) || n == (4 : Int) && n1 == (4 : Int)
else n == (4 : Int) && n1 == (4 : Int))
(∃ (x : Bool), Value.bool true = Value.bool x ∧ x = decide (GoW (ncl g.s) (kw g.s) (bw g.s) g.i) ∧ Ext w w)
(∀ (w1 : World),
Drew w w1 →
bcase (n == (1 : Int) || n == (2 : Int))
(InR IntKind.i64 ((↑g.i : Int) + (2 : Int)) ∧
bcase (decide ((↑g.i : Int) + (2 : Int) < (↑(ncl g.s) : Int)))
(InR IntKind.i64 ((↑g.i : Int) + (1 : Int)) ∧
∃ (k2 : Nat),
(↑g.i : Int) + (1 : Int) = (↑k2 : Int) ∧
k2 < ncl g.s ∧
ptrE g.la fun (b2 o2 : Nat) =>
∃ (s : ByteArray),
w.cell? { block := b2, off := o2 + k2 * (2 : Nat) + (1 : Nat) } = some (Value.string s) ∧
InR IntKind.i64 ((↑g.i : Int) + (2 : Int)) ∧
∃ (k3 : Nat),
(↑g.i : Int) + (2 : Int) = (↑k3 : Int) ∧
k3 < ncl g.s ∧
ptrE g.sa fun (b3 o3 : Nat) =>
∃ (n2 : Int),
w.cell? { block := b3, off := o3 + k3 } = some (Value.int IntKind.i64 n2) ∧
∃ (g1 : ByteArray × Nat × Nat),
#[Value.string s, Value.int IntKind.i64 n, Value.int IntKind.i64 n2] =
#[Value.string g1.fst, Value.int IntKind.i64 (↑(sortQ g1.snd.fst) : Int),
Value.int IntKind.i64 (↑(sortQ g1.snd.snd) : Int)] ∧
(g1.snd.fst ≤ (4 : Nat) ∧ g1.snd.snd ≤ (4 : Nat)) ∧
∀ (x : Bool) (w' : World),
x = decide (Jn (betC g1.fst) g1.snd.fst g1.snd.snd) ∧ w' = w1 →
bcase x (∃ (x1 : Bool), Value.bool true = Value.bool x1 ∧ x1 = decide (GoW (ncl g.s) (kw g.s) (bw g.s) g.i) ∧ Ext w w')
(∀ (w11 : World),
Drew w' w11 →
bcase (n1 == (1 : Int) || n1 == (2 : Int))
(bcase (decide ((↑g.i : Int) > (0 : Int)))
(∃ (k4 : Nat),
(↑g.i : Int) = (↑k4 : Int) ∧
k4 < ncl g.s ∧
ptrE g.la fun (b4 o4 : Nat) =>
∃ (s1 : ByteArray),
w'.cell? { block := b4, off := o4 + k4 * (2 : Nat) + (1 : Nat) } = some (Value.string s1) ∧
InR IntKind.i64 ((↑g.i : Int) - (1 : Int)) ∧
∃ (k5 : Nat),
(↑g.i : Int) - (1 : Int) = (↑k5 : Int) ∧
k5 < ncl g.s ∧
ptrE g.sa fun (b5 o5 : Nat) =>
∃ (n3 : Int),
w'.cell? { block := b5, off := o5 + k5 } = some (Value.int IntKind.i64 n3) ∧
∃ (g2 : ByteArray × Nat × Nat),
#[Value.string s1, Value.int IntKind.i64 n3, Value.int IntKind.i64 n1] =
#[Value.string g2.fst, Value.int IntKind.i64 (↑(sortQ g2.snd.fst) : Int),
Value.int IntKind.i64 (↑(sortQ g2.snd.snd) : Int)] ∧
(g2.snd.fst ≤ (4 : Nat) ∧ g2.snd.snd ≤ (4 : Nat)) ∧
∀ (x1 : Bool) (w'1 : World),
x1 = decide (Jn (betC g2.fst) g2.snd.fst g2.snd.snd) ∧ w'1 = w11 →
∃ (x2 : Bool), Value.bool x1 = Value.bool x2 ∧ x2 = decide (GoW (ncl g.s) (kw g.s) (bw g.s) g.i) ∧ Ext w w'1)
(∃ (x1 : Bool), Value.bool false = Value.bool x1 ∧ x1 = decide (GoW (ncl g.s) (kw g.s) (bw g.s) g.i) ∧ Ext w w11))
(∃ (x1 : Bool), Value.bool false = Value.bool x1 ∧ x1 = decide (GoW (ncl g.s) (kw g.s) (bw g.s) g.i) ∧ Ext w w11)))
(∀ (w11 : World),
Drew w1 w11 →
bcase (n1 == (1 : Int) || n1 == (2 : Int))
(bcase (decide ((↑g.i : Int) > (0 : Int)))
(∃ (k2 : Nat),
(↑g.i : Int) = (↑k2 : Int) ∧
k2 < ncl g.s ∧
ptrE g.la fun (b2 o2 : Nat) =>
∃ (s : ByteArray),
w1.cell? { block := b2, off := o2 + k2 * (2 : Nat) + (1 : Nat) } = some (Value.string s) ∧
InR IntKind.i64 ((↑g.i : Int) - (1 : Int)) ∧
∃ (k3 : Nat),
(↑g.i : Int) - (1 : Int) = (↑k3 : Int) ∧
k3 < ncl g.s ∧
ptrE g.sa fun (b3 o3 : Nat) =>
∃ (n2 : Int),
w1.cell? { block := b3, off := o3 + k3 } = some (Value.int IntKind.i64 n2) ∧
∃ (g1 : ByteArray × Nat × Nat),
#[Value.string s, Value.int IntKind.i64 n2, Value.int IntKind.i64 n1] =
#[Value.string g1.fst, Value.int IntKind.i64 (↑(sortQ g1.snd.fst) : Int),
Value.int IntKind.i64 (↑(sortQ g1.snd.snd) : Int)] ∧
(g1.snd.fst ≤ (4 : Nat) ∧ g1.snd.snd ≤ (4 : Nat)) ∧
∀ (x : Bool) (w' : World),
x = decide (Jn (betC g1.fst) g1.snd.fst g1.snd.snd) ∧ w' = w11 →
∃ (x1 : Bool), Value.bool x = Value.bool x1 ∧ x1 = decide (GoW (ncl g.s) (kw g.s) (bw g.s) g.i) ∧ Ext w w')
(∃ (x : Bool), Value.bool false = Value.bool x ∧ x = decide (GoW (ncl g.s) (kw g.s) (bw g.s) g.i) ∧ Ext w w11))
(∃ (x : Bool), Value.bool false = Value.bool x ∧ x = decide (GoW (ncl g.s) (kw g.s) (bw g.s) g.i) ∧ Ext w w11)))
(∀ (w11 : World),
Drew w1 w11 →
bcase (n1 == (1 : Int) || n1 == (2 : Int))
(bcase (decide ((↑g.i : Int) > (0 : Int)))
(∃ (k2 : Nat),
(↑g.i : Int) = (↑k2 : Int) ∧
k2 < ncl g.s ∧
ptrE g.la fun (b2 o2 : Nat) =>
∃ (s : ByteArray),
w1.cell? { block := b2, off := o2 + k2 * (2 : Nat) + (1 : Nat) } = some (Value.string s) ∧
InR IntKind.i64 ((↑g.i : Int) - (1 : Int)) ∧
∃ (k3 : Nat),
(↑g.i : Int) - (1 : Int) = (↑k3 : Int) ∧
k3 < ncl g.s ∧
ptrE g.sa fun (b3 o3 : Nat) =>
∃ (n2 : Int),
w1.cell? { block := b3, off := o3 + k3 } = some (Value.int IntKind.i64 n2) ∧
∃ (g1 : ByteArray × Nat × Nat),
#[Value.string s, Value.int IntKind.i64 n2, Value.int IntKind.i64 n1] =
#[Value.string g1.fst, Value.int IntKind.i64 (↑(sortQ g1.snd.fst) : Int),
Value.int IntKind.i64 (↑(sortQ g1.snd.snd) : Int)] ∧
(g1.snd.fst ≤ (4 : Nat) ∧ g1.snd.snd ≤ (4 : Nat)) ∧
∀ (x : Bool) (w' : World),
x = decide (Jn (betC g1.fst) g1.snd.fst g1.snd.snd) ∧ w' = w11 →
∃ (x1 : Bool), Value.bool x = Value.bool x1 ∧ x1 = decide (GoW (ncl g.s) (kw g.s) (bw g.s) g.i) ∧ Ext w w')
(∃ (x : Bool), Value.bool false = Value.bool x ∧ x = decide (GoW (ncl g.s) (kw g.s) (bw g.s) g.i) ∧ Ext w w11))
(∃ (x : Bool), Value.bool false = Value.bool x ∧ x = decide (GoW (ncl g.s) (kw g.s) (bw g.s) g.i) ∧ Ext w w11))))) :
    (sGoes12).Ok Tryd.prog 67 :=
  ok_of_vc sGoes12 (annOf spGoes12) spGoes12 (fun _ _ => rfl) (fun _ _ => rfl) hsp Tryd.func67 rfl (n := 3) (fun _ => rfl) (by kernel_rfl) (vcast (by kernel_rfl) h)

set_option maxRecDepth 1000000 in
theorem rallW_vc (hsp : SpecsOk Tryd.prog spRAllW) (h : ∀ (g : ByteArray) (w : World),
U8 w ∧ g.size ≤ (67108864 : Nat) →
∃ (g1 : ByteArray),
#[Value.string g] = #[Value.string g1] ∧
(U8 w ∧ g1.size ≤ (67108864 : Nat)) ∧
∀ (x : Option Addr × Nat × Nat) (w' : World),
x.snd.fst = ncl g1 ∧
Made w w' (44 : TypeId) (2 : Nat) x.fst x.snd.fst (List.flatMap (pcV g1) (List.range (ncl g1))) x.snd.snd →
(∃ (x1 : Nat × Option Addr × Nat),
Value.int IntKind.i64 (0 : Int) = Value.int IntKind.i64 (↑x1.fst : Int) ∧
Value.slice none (0 : Nat) (0 : Nat) = Value.slice x1.snd.fst x1.fst x1.snd.snd ∧
x1.fst ≤ ncl g ∧
Made w' w' (3 : TypeId) (1 : Nat) x1.snd.fst x1.fst (List.map (Value.int IntKind.i64) (List.take x1.fst (ksQ g)))
x1.snd.snd) ∧
∀ (u : Nat → Value) (x1 : Nat × Option Addr × Nat) (w'1 : World),
x1.fst ≤ ncl g ∧
Made w' w'1 (3 : TypeId) (1 : Nat) x1.snd.fst x1.fst (List.map (Value.int IntKind.i64) (List.take x1.fst (ksQ g)))
x1.snd.snd →
bcase (decide ((↑x1.fst : Int) < (↑x.snd.fst : Int)))
(∃ (k : Nat),
(↑x1.fst : Int) = (↑k : Int) ∧
k < x.snd.fst ∧
ptrE x.fst fun (b o : Nat) =>
∃ (s : ByteArray),
w'1.cell? { block := b, off := o + k * (2 : Nat) + (1 : Nat) } = some (Value.string s) ∧
∃ (g2 : ByteArray),
#[Value.string s] = #[Value.string g2] ∧
(U8 w'1 ∧ g2.size ≤ (67108864 : Nat) ∧ (0 : Nat) < g2.size) ∧
∀ (x2 : Nat) (w'2 : World),
x2 = sortQ (sortC g2) ∧ Ext w'1 w'2 →
∀ (b1 : Nat) (w1 : World),
New w'2 (Obj.cells #[Value.int IntKind.i64 (↑x2 : Int)] (3 : Nat)) b1 w1 →
∃ (a' : Option Addr),
∃ (c' : Nat),
∃ (w'3 : World),
AppRun Tryd.prog #[(45 : Nat), (45 : Nat)] (45 : Nat) (Value.slice x1.snd.fst x1.fst x1.snd.snd)
(Value.slice (some { block := b1, off := (0 : Nat) }) (1 : Nat) (1 : Nat)) w1 a' (x1.fst + (1 : Nat)) c' w'3 ∧
KO w1 w'3 ∧
InR IntKind.i64 ((↑x1.fst : Int) + (1 : Int)) ∧
∃ (y : Nat × Option Addr × Nat),
Value.int IntKind.i64 ((↑x1.fst : Int) + (1 : Int)) = Value.int IntKind.i64 (↑y.fst : Int) ∧
Value.slice a' (x1.fst + (1 : Nat)) c' = Value.slice y.snd.fst y.fst y.snd.snd ∧
(y.fst ≤ ncl g ∧
Made w' w'3 (3 : TypeId) (1 : Nat) y.snd.fst y.fst (List.map (Value.int IntKind.i64) (List.take y.fst (ksQ g)))
y.snd.snd) ∧
ncl g - y.fst < ncl g - x1.fst)
((∃ (x2 : GRw),
Value.int IntKind.i64 (0 : Int) = Value.int IntKind.i64 (↑x2.i : Int) ∧
Value.int IntKind.i64 (0 : Int) = Value.int IntKind.i64 (↑(wp g x2.k) : Int) ∧
Value.slice none (0 : Nat) (0 : Nat) = Value.slice x2.a x2.k x2.c ∧
(x2.i = ncl g ∧ x2.k = wn g ∨ x2.i < ncl g ∧ x2.k < wn g ∧ wb g x2.k ≤ x2.i ∧ x2.i < wb g (x2.k + (1 : Nat))) ∧
Made w'1 w'1 (44 : TypeId) (2 : Nat) x2.a x2.k (List.flatMap encPc (List.take x2.k (wdL g))) x2.c) ∧
∀ (u1 : Nat → Value) (x2 : GRw) (w'2 : World),
(x2.i = ncl g ∧ x2.k = wn g ∨ x2.i < ncl g ∧ x2.k < wn g ∧ wb g x2.k ≤ x2.i ∧ x2.i < wb g (x2.k + (1 : Nat))) ∧
Made w'1 w'2 (44 : TypeId) (2 : Nat) x2.a x2.k (List.flatMap encPc (List.take x2.k (wdL g))) x2.c →
bcase (decide ((↑x2.i : Int) < (↑x.snd.fst : Int)))
(∃ (g2 : GGo),
#[Value.slice x.fst x.snd.fst x.snd.snd, Value.slice x1.snd.fst x1.fst x1.snd.snd,
Value.int IntKind.i64 (↑x2.i : Int)] =
#[Value.slice g2.la (ncl g2.s) g2.lc, Value.slice g2.sa (ncl g2.s) g2.sc, Value.int IntKind.i64 (↑g2.i : Int)] ∧
(g2.i < ncl g2.s ∧
g2.s.size ≤ (67108864 : Nat) ∧
CellsAt w'2 g2.la (List.flatMap encPc (pcL g2.s)) ∧ CellsAt w'2 g2.sa (List.map (Value.int IntKind.i64) (ksQ g2.s))) ∧
∀ (x3 : Bool) (w'3 : World),
x3 = decide (GoW (ncl g2.s) (kw g2.s) (bw g2.s) g2.i) ∧ Ext w'2 w'3 →
bcase (!x3)
(∀ (w1 : World),
Drew w'3 w1 →
∃ (k : Nat),
(↑x2.i : Int) = (↑k : Int) ∧
k < x.snd.fst ∧
ptrE x.fst fun (b o : Nat) =>
∃ (n : Int),
w'3.cell? { block := b, off := o + k * (2 : Nat) } = some (Value.int IntKind.i64 n) ∧
∃ (k1 : Nat),
(↑x2.i : Int) = (↑k1 : Int) ∧
k1 < x.snd.fst ∧
ptrE x.fst fun (b1 o1 : Nat) =>
∃ (s : ByteArray),
w'3.cell? { block := b1, off := o1 + k1 * (2 : Nat) + (1 : Nat) } = some (Value.string s) ∧
InR IntKind.i64 (n + (↑s.size : Int)) ∧
∃ (k2 : Nat),
(↑(wp g x2.k) : Int) = (↑k2 : Int) ∧
∃ (k3 : Nat),
n + (↑s.size : Int) = (↑k3 : Int) ∧
k2 ≤ k3 ∧
k3 ≤ g.size ∧
∀ (b2 : Nat) (w11 : World),
New w1 (Obj.cells #[Value.int IntKind.i64 (↑(wp g x2.k) : Int), Value.string (g.extract k2 k3)] (44 : Nat)) b2 w11 →
∃ (a' : Option Addr),
∃ (c' : Nat),
∃ (w'4 : World),
AppRun Tryd.prog #[(42 : Nat), (42 : Nat)] (42 : Nat) (Value.slice x2.a x2.k x2.c)
(Value.slice (some { block := b2, off := (0 : Nat) }) (1 : Nat) (1 : Nat)) w11 a' (x2.k + (1 : Nat)) c' w'4 ∧
KO w11 w'4 ∧
InR IntKind.i64 ((↑x2.i : Int) + (1 : Int)) ∧
∃ (y : GRw),
Value.int IntKind.i64 ((↑x2.i : Int) + (1 : Int)) = Value.int IntKind.i64 (↑y.i : Int) ∧
Value.int IntKind.i64 (n + (↑s.size : Int)) = Value.int IntKind.i64 (↑(wp g y.k) : Int) ∧
Value.slice a' (x2.k + (1 : Nat)) c' = Value.slice y.a y.k y.c ∧
((y.i = ncl g ∧ y.k = wn g ∨ y.i < ncl g ∧ y.k < wn g ∧ wb g y.k ≤ y.i ∧ y.i < wb g (y.k + (1 : Nat))) ∧
Made w'1 w'4 (44 : TypeId) (2 : Nat) y.a y.k (List.flatMap encPc (List.take y.k (wdL g))) y.c) ∧
ncl g - y.i < ncl g - x2.i)
(InR IntKind.i64 ((↑x2.i : Int) + (1 : Int)) ∧
∃ (y : GRw),
Value.int IntKind.i64 ((↑x2.i : Int) + (1 : Int)) = Value.int IntKind.i64 (↑y.i : Int) ∧
Value.int IntKind.i64 (↑(wp g x2.k) : Int) = Value.int IntKind.i64 (↑(wp g y.k) : Int) ∧
Value.slice x2.a x2.k x2.c = Value.slice y.a y.k y.c ∧
((y.i = ncl g ∧ y.k = wn g ∨ y.i < ncl g ∧ y.k < wn g ∧ wb g y.k ≤ y.i ∧ y.i < wb g (y.k + (1 : Nat))) ∧
Made w'1 w'3 (44 : TypeId) (2 : Nat) y.a y.k (List.flatMap encPc (List.take y.k (wdL g))) y.c) ∧
ncl g - y.i < ncl g - x2.i))
(∃ (x3 : Option Addr × Nat × Nat),
Value.slice x2.a x2.k x2.c = Value.slice x3.fst x3.snd.fst x3.snd.snd ∧
x3.snd.fst = wn g ∧ Made w w'2 (44 : TypeId) (2 : Nat) x3.fst x3.snd.fst (List.flatMap encPc (wdL g)) x3.snd.snd))) :
    (sRAllW).Ok Tryd.prog 30 :=
  ok_of_vc sRAllW annRAllW spRAllW (fun _ _ => rfl) (fun _ _ => rfl) hsp Tryd.func30 rfl (n := 1) (fun _ => rfl) (by kernel_rfl) (vcast (by kernel_rfl) h)

set_option maxRecDepth 1000000 in
theorem segs_vc (hsp : SpecsOk Tryd.prog spSegs) (h : ∀ (g : ByteArray) (w : World),
U8 w ∧ g.size ≤ (67108864 : Nat) →
∀ (b : Nat) (w1 : World),
New w (Obj.cells #[Value.slice none (0 : Nat) (0 : Nat)] (37 : Nat)) b w1 →
∀ (b1 : Nat) (w11 : World),
New w1 (Obj.cells #[Value.slice none (0 : Nat) (0 : Nat)] (45 : Nat)) b1 w11 →
∃ (g1 : ByteArray),
#[Value.string g] = #[Value.string g1] ∧
True ∧
∀ (x : Nat) (w' : World),
w11.heap.size ≤ x ∧ w'.heap[x]? = some (Obj.cells #[Value.string g1] (9 : TypeId)) ∧ Ext w11 w' →
∃ (xs : List (Nat × ByteArray)),
∃ (C : Nat → Prop),
∃ (D0 : Nat → Prop),
IterAt Tryd.prog (Value.func (Fn.func (101 : Nat)) #[] #[Value.pointer (some { block := x, off := (0 : Nat) })])
(List.map encPc xs) C w' ∧
DomOk w' C D0 ∧
(∃ (a4 : Option Addr),
∃ (c : Nat),
∃ (a21 : Option Addr),
∃ (c2 : Nat),
(D0 = fun (q : Nat) =>
q = ptrB (Value.pointer (some { block := b, off := (0 : Nat) })) ∨
q = ptrB (Value.pointer (some { block := b1, off := (0 : Nat) })) ∨ blk a4 = some q ∨ blk a21 = some q) ∧
Two w' (ptrB (Value.pointer (some { block := b, off := (0 : Nat) })))
(ptrB (Value.pointer (some { block := b1, off := (0 : Nat) }))) g (0 : Nat) a4 c a21 c2) ∧
(Stab w'.heap.size fun (k : Nat) (D : Nat → Prop) (W : World) =>
∃ (a : Option Addr),
∃ (c : Nat),
∃ (a2 : Option Addr),
∃ (c2 : Nat),
(D = fun (q : Nat) =>
q = ptrB (Value.pointer (some { block := b, off := (0 : Nat) })) ∨
q = ptrB (Value.pointer (some { block := b1, off := (0 : Nat) })) ∨ blk a = some q ∨ blk a2 = some q) ∧
Two W (ptrB (Value.pointer (some { block := b, off := (0 : Nat) })))
(ptrB (Value.pointer (some { block := b1, off := (0 : Nat) }))) g k a c a2 c2) ∧
(∀ (x1 : Exit), Stab w'.heap.size fun (x : Nat) (D : Nat → Prop) (W : World) => (1 : Nat) = (0 : Nat)) ∧
(∀ (k : Nat) (x1 : Nat × ByteArray) (D : Nat → Prop) (W : World),
xs[k]? = some x1 →
(∃ (a5 : Option Addr),
∃ (c : Nat),
∃ (a21 : Option Addr),
∃ (c2 : Nat),
(D = fun (q : Nat) =>
q = ptrB (Value.pointer (some { block := b, off := (0 : Nat) })) ∨
q = ptrB (Value.pointer (some { block := b1, off := (0 : Nat) })) ∨ blk a5 = some q ∨ blk a21 = some q) ∧
Two W (ptrB (Value.pointer (some { block := b, off := (0 : Nat) })))
(ptrB (Value.pointer (some { block := b1, off := (0 : Nat) }))) g k a5 c a21 c2) →
Mid w' D0 D W →
∃ (a7 : Option Addr),
∃ (n : Nat),
∃ (c : Nat),
W.cell? { block := b, off := (0 : Nat) } = some (Value.slice a7 n c) ∧
∀ (b2 : Nat) (w12 : World),
New W (Obj.cells #[Value.string x1.snd] (9 : Nat)) b2 w12 →
∃ (a' : Option Addr),
∃ (c' : Nat),
∃ (w'1 : World),
AppRun Tryd.prog #[(37 : Nat), (37 : Nat)] (37 : Nat) (Value.slice a7 n c)
(Value.slice (some { block := b2, off := (0 : Nat) }) (1 : Nat) (1 : Nat)) w12 a' (n + (1 : Nat)) c' w'1 ∧
KO w12 w'1 ∧
true = true ∧
(∃ (old : Value), w'1.cell? { block := b, off := (0 : Nat) } = some old) ∧
w'1.frozen? { block := b, off := (0 : Nat) } = false ∧
∀ (w13 : World),
Stored w'1 { block := b, off := (0 : Nat) } (Value.slice a' (n + (1 : Nat)) c') w13 →
∀ (w14 : World),
Drew w13 w14 →
∃ (a11 : Option Addr),
∃ (n1 : Nat),
∃ (c1 : Nat),
w13.cell? { block := b1, off := (0 : Nat) } = some (Value.slice a11 n1 c1) ∧
∃ (g2 : ByteArray),
#[Value.string x1.snd] = #[Value.string g2] ∧
(U8 w14 ∧ g2.size ≤ (67108864 : Nat)) ∧
∀ (x2 : Nat) (w'2 : World),
x2 = sortC g2 ∧ Ext w14 w'2 →
Below w14.heap.size w14 w'2 ∧
∀ (b3 : Nat) (w15 : World),
New w'2 (Obj.cells #[Value.int IntKind.i64 (↑x2 : Int)] (3 : Nat)) b3 w15 →
Below w'2.heap.size w'2 w15 ∧
∃ (a'1 : Option Addr),
∃ (c'1 : Nat),
∃ (w'3 : World),
AppRun Tryd.prog #[(45 : Nat), (45 : Nat)] (45 : Nat) (Value.slice a11 n1 c1)
(Value.slice (some { block := b3, off := (0 : Nat) }) (1 : Nat) (1 : Nat)) w15 a'1 (n1 + (1 : Nat)) c'1 w'3 ∧
KO w15 w'3 ∧
true = true ∧
(∃ (old : Value), w'3.cell? { block := b1, off := (0 : Nat) } = some old) ∧
w'3.frozen? { block := b1, off := (0 : Nat) } = false ∧
∀ (w16 : World),
Stored w'3 { block := b1, off := (0 : Nat) } (Value.slice a'1 (n1 + (1 : Nat)) c'1) w16 →
∃ (D' : Nat → Prop),
Step D W w16 D' ∧
∃ (a15 : Option Addr),
∃ (c2 : Nat),
∃ (a21 : Option Addr),
∃ (c21 : Nat),
(D' = fun (q : Nat) =>
q = ptrB (Value.pointer (some { block := b, off := (0 : Nat) })) ∨
q = ptrB (Value.pointer (some { block := b1, off := (0 : Nat) })) ∨ blk a15 = some q ∨ blk a21 = some q) ∧
Two w16 (ptrB (Value.pointer (some { block := b, off := (0 : Nat) })))
(ptrB (Value.pointer (some { block := b1, off := (0 : Nat) }))) g (k + (1 : Nat)) a15 c2 a21 c21) ∧
(∀ (D : Nat → Prop) (W : World),
(∃ (a4 : Option Addr),
∃ (c : Nat),
∃ (a21 : Option Addr),
∃ (c2 : Nat),
(D = fun (q : Nat) =>
q = ptrB (Value.pointer (some { block := b, off := (0 : Nat) })) ∨
q = ptrB (Value.pointer (some { block := b1, off := (0 : Nat) })) ∨ blk a4 = some q ∨ blk a21 = some q) ∧
Two W (ptrB (Value.pointer (some { block := b, off := (0 : Nat) })))
(ptrB (Value.pointer (some { block := b1, off := (0 : Nat) }))) g (lenX xs) a4 c a21 c2) →
Mid w' D0 D W →
(∃ (x1 : GSg),
Value.int IntKind.i64 (0 : Int) = Value.int IntKind.i64 (↑(wb g x1.n) : Int) ∧
Value.int IntKind.i64 (0 : Int) = Value.int IntKind.i64 (↑(wp g x1.n) : Int) ∧
Value.slice none (0 : Nat) (0 : Nat) = Value.slice x1.ea x1.n x1.ec ∧
Value.slice none (0 : Nat) (0 : Nat) = Value.slice x1.sa x1.n x1.sc ∧
x1.n ≤ wn g ∧
Made W W (3 : TypeId) (1 : Nat) x1.ea x1.n (List.map (Value.int IntKind.i64) (List.take x1.n (endsW g))) x1.ec ∧
Made W W (3 : TypeId) (1 : Nat) x1.sa x1.n (List.map (Value.int IntKind.i64) (List.take x1.n (sortsW g))) x1.sc ∧
∀ (q : Nat), blk x1.ea = some q → blk x1.sa ≠ some q) ∧
∀ (u : Nat → Value) (x1 : GSg) (w'1 : World),
(x1.n ≤ wn g ∧
Made W w'1 (3 : TypeId) (1 : Nat) x1.ea x1.n (List.map (Value.int IntKind.i64) (List.take x1.n (endsW g))) x1.ec ∧
Made W w'1 (3 : TypeId) (1 : Nat) x1.sa x1.n (List.map (Value.int IntKind.i64) (List.take x1.n (sortsW g))) x1.sc ∧
∀ (q : Nat), blk x1.ea = some q → blk x1.sa ≠ some q) →
∃ (a7 : Option Addr),
∃ (n : Nat),
∃ (c : Nat),
w'1.cell? { block := b, off := (0 : Nat) } = some (Value.slice a7 n c) ∧
bcase (decide ((↑(wb g x1.n) : Int) < (↑n : Int)))
(∃ (a8 : Option Addr),
∃ (n1 : Nat),
∃ (c1 : Nat),
w'1.cell? { block := b, off := (0 : Nat) } = some (Value.slice a8 n1 c1) ∧
∃ (k : Nat),
(↑(wb g x1.n) : Int) = (↑k : Int) ∧
k < n1 ∧
ptrE a8 fun (b2 o : Nat) =>
∃ (s : ByteArray),
w'1.cell? { block := b2, off := o + k } = some (Value.string s) ∧
InR IntKind.i64 ((↑(wp g x1.n) : Int) + (↑s.size : Int)) ∧
InR IntKind.i64 ((↑(wb g x1.n) : Int) + (1 : Int)) ∧
(∃ (x2 : Nat),
Value.int IntKind.i64 ((↑(wb g x1.n) : Int) + (1 : Int)) = Value.int IntKind.i64 (↑x2 : Int) ∧
Value.int IntKind.i64 ((↑(wp g x1.n) : Int) + (↑s.size : Int)) = Value.int IntKind.i64 (↑(bp g x2) : Int) ∧
Value.slice x1.ea x1.n x1.ec = Value.slice x1.ea x1.n x1.ec ∧
Value.slice x1.sa x1.n x1.sc = Value.slice x1.sa x1.n x1.sc ∧
InvW (ncl g) (kw g) (bw g) (↑(wb g x1.n) : Int).toNat x2 ∧ Ext w'1 w'1) ∧
∀ (u1 : Nat → Value) (x2 : Nat) (w'2 : World),
InvW (ncl g) (kw g) (bw g) (↑(wb g x1.n) : Int).toNat x2 ∧ Ext w'1 w'2 →
∃ (a10 : Option Addr),
∃ (n2 : Nat),
∃ (c2 : Nat),
w'2.cell? { block := b, off := (0 : Nat) } = some (Value.slice a10 n2 c2) ∧
bcase (decide ((↑x2 : Int) < (↑n2 : Int)))
((∀ (w12 : World),
Drew w'2 w12 →
∃ (a12 : Option Addr),
∃ (n3 : Nat),
∃ (c3 : Nat),
w'2.cell? { block := b1, off := (0 : Nat) } = some (Value.slice a12 n3 c3) ∧
InR IntKind.i64 ((↑x2 : Int) - (1 : Int)) ∧
∃ (k1 : Nat),
(↑x2 : Int) - (1 : Int) = (↑k1 : Int) ∧
k1 < n3 ∧
ptrE a12 fun (b3 o1 : Nat) =>
∃ (n4 : Int),
w'2.cell? { block := b3, off := o1 + k1 } = some (Value.int IntKind.i64 n4) ∧
∃ (a13 : Option Addr),
∃ (n5 : Nat),
∃ (c4 : Nat),
w'2.cell? { block := b1, off := (0 : Nat) } = some (Value.slice a13 n5 c4) ∧
∃ (k2 : Nat),
(↑x2 : Int) = (↑k2 : Int) ∧
k2 < n5 ∧
ptrE a13 fun (b4 o2 : Nat) =>
∃ (n6 : Int),
w'2.cell? { block := b4, off := o2 + k2 } = some (Value.int IntKind.i64 n6) ∧
∃ (c5 : Unit),
Value.int IntKind.i64 n4 = Value.int IntKind.i64 (↑(kw g ((↑x2 : Int).toNat - (1 : Nat))) : Int) ∧
Value.int IntKind.i64 n6 = Value.int IntKind.i64 (↑(kw g (↑x2 : Int).toNat) : Int) ∧ Ext w'2 w12) ∧
∀ (u2 : Nat → Value) (c3 : Unit) (w'3 : World),
Ext w'2 w'3 →
(∃ (a12 : Option Addr),
∃ (n3 : Nat),
∃ (c4 : Nat),
w'3.cell? { block := b1, off := (0 : Nat) } = some (Value.slice a12 n3 c4) ∧
∃ (k1 : Nat),
(↑(wb g x1.n) : Int) = (↑k1 : Int) ∧
k1 < n3 ∧
ptrE a12 fun (b3 o1 : Nat) =>
∃ (n4 : Int),
w'3.cell? { block := b3, off := o1 + k1 } = some (Value.int IntKind.i64 n4) ∧
bcase (n4 == (1 : Int))
(∃ (c5 : Unit),
Value.bool ((↑(kw g (↑x2 : Int).toNat) : Int) == (1 : Int)) =
Value.bool (decide (kw g (↑(wb g x1.n) : Int).toNat = (1 : Nat) ∧ kw g (↑x2 : Int).toNat = (1 : Nat))) ∧
Ext w'3 w'3)
(∃ (c5 : Unit),
Value.bool false =
Value.bool (decide (kw g (↑(wb g x1.n) : Int).toNat = (1 : Nat) ∧ kw g (↑x2 : Int).toNat = (1 : Nat))) ∧
Ext w'3 w'3)) ∧
∀ (u3 : Nat → Value) (c4 : Unit) (w'4 : World),
Ext w'3 w'4 →
bcase (decide ((↑(kw g ((↑x2 : Int).toNat - (1 : Nat))) : Int) ≥ (3 : Int)))
(bcase (decide ((↑(kw g (↑x2 : Int).toNat) : Int) < (3 : Int)))
(bcase (decide ((↑(kw g ((↑x2 : Int).toNat - (1 : Nat))) : Int) ≥ (3 : Int)))
(InR IntKind.i64 ((↑x2 : Int) + (1 : Int)) ∧
∃ (a13 : Option Addr),
∃ (n3 : Nat),
∃ (c5 : Nat),
w'4.cell? { block := b, off := (0 : Nat) } = some (Value.slice a13 n3 c5) ∧
bcase (decide ((↑x2 : Int) + (1 : Int) < (↑n3 : Int)))
(∃ (a14 : Option Addr),
∃ (n4 : Nat),
∃ (c6 : Nat),
w'4.cell? { block := b, off := (0 : Nat) } = some (Value.slice a14 n4 c6) ∧
∃ (k1 : Nat),
(↑x2 : Int) = (↑k1 : Int) ∧
k1 < n4 ∧
ptrE a14 fun (b3 o1 : Nat) =>
∃ (s1 : ByteArray),
w'4.cell? { block := b3, off := o1 + k1 } = some (Value.string s1) ∧
∃ (g2 : ByteArray),
#[Value.string s1] = #[Value.string g2] ∧
True ∧
∀ (x3 : Nat) (w'5 : World),
x3 = betC g2 ∧ w'5 = w'4 →
bcase ((↑x3 : Int) == (↑(kw g ((↑x2 : Int).toNat - (1 : Nat))) : Int))
(∃ (a16 : Option Addr),
∃ (n5 : Nat),
∃ (c7 : Nat),
w'5.cell? { block := b1, off := (0 : Nat) } = some (Value.slice a16 n5 c7) ∧
InR IntKind.i64 ((↑x2 : Int) + (1 : Int)) ∧
∃ (k2 : Nat),
(↑x2 : Int) + (1 : Int) = (↑k2 : Int) ∧
k2 < n5 ∧
ptrE a16 fun (b4 o2 : Nat) =>
∃ (n6 : Int),
w'5.cell? { block := b4, off := o2 + k2 } = some (Value.int IntKind.i64 n6) ∧
∃ (c8 : Unit),
Value.bool (n6 == (↑(kw g ((↑x2 : Int).toNat - (1 : Nat))) : Int)) =
Value.bool
(decide
(kw g (↑x2 : Int).toNat < (3 : Nat) ∧
(3 : Nat) ≤ kw g ((↑x2 : Int).toNat - (1 : Nat)) ∧
(↑x2 : Int).toNat + (1 : Nat) < ncl g ∧
bw g (↑x2 : Int).toNat = kw g ((↑x2 : Int).toNat - (1 : Nat)) ∧
kw g ((↑x2 : Int).toNat + (1 : Nat)) = kw g ((↑x2 : Int).toNat - (1 : Nat)))) ∧
Ext w'4 w'5)
(∃ (c7 : Unit),
Value.bool false =
Value.bool
(decide
(kw g (↑x2 : Int).toNat < (3 : Nat) ∧
(3 : Nat) ≤ kw g ((↑x2 : Int).toNat - (1 : Nat)) ∧
(↑x2 : Int).toNat + (1 : Nat) < ncl g ∧
bw g (↑x2 : Int).toNat = kw g ((↑x2 : Int).toNat - (1 : Nat)) ∧
kw g ((↑x2 : Int).toNat + (1 : Nat)) = kw g ((↑x2 : Int).toNat - (1 : Nat)))) ∧
Ext w'4 w'5))
(∃ (c6 : Unit),
Value.bool false =
Value.bool
(decide
(kw g (↑x2 : Int).toNat < (3 : Nat) ∧
(3 : Nat) ≤ kw g ((↑x2 : Int).toNat - (1 : Nat)) ∧
(↑x2 : Int).toNat + (1 : Nat) < ncl g ∧
bw g (↑x2 : Int).toNat = kw g ((↑x2 : Int).toNat - (1 : Nat)) ∧
kw g ((↑x2 : Int).toNat + (1 : Nat)) = kw g ((↑x2 : Int).toNat - (1 : Nat)))) ∧
Ext w'4 w'4))
(∃ (c5 : Unit),
Value.bool false =
Value.bool
(decide
(kw g (↑x2 : Int).toNat < (3 : Nat) ∧
(3 : Nat) ≤ kw g ((↑x2 : Int).toNat - (1 : Nat)) ∧
(↑x2 : Int).toNat + (1 : Nat) < ncl g ∧
bw g (↑x2 : Int).toNat = kw g ((↑x2 : Int).toNat - (1 : Nat)) ∧
kw g ((↑x2 : Int).toNat + (1 : Nat)) = kw g ((↑x2 : Int).toNat - (1 : Nat)))) ∧
Ext w'4 w'4))
(∃ (c5 : Unit),
Value.bool false =
Value.bool
(decide
(kw g (↑x2 : Int).toNat < (3 : Nat) ∧
(3 : Nat) ≤ kw g ((↑x2 : Int).toNat - (1 : Nat)) ∧
(↑x2 : Int).toNat + (1 : Nat) < ncl g ∧
bw g (↑x2 : Int).toNat = kw g ((↑x2 : Int).toNat - (1 : Nat)) ∧
kw g ((↑x2 : Int).toNat + (1 : Nat)) = kw g ((↑x2 : Int).toNat - (1 : Nat)))) ∧
Ext w'4 w'4) ∧
∀ (u4 : Nat → Value) (c5 : Unit) (w'5 : World),
Ext w'4 w'5 →
bcase (decide (kw g (↑(wb g x1.n) : Int).toNat = (1 : Nat) ∧ kw g (↑x2 : Int).toNat = (1 : Nat)))
(∃ (c6 : Unit),
Value.bool true = Value.bool (decide (JoinW (ncl g) (kw g) (bw g) (↑(wb g x1.n) : Int).toNat (↑x2 : Int).toNat)) ∧
Ext w'4 w'5)
(∃ (a14 : Option Addr),
∃ (n3 : Nat),
∃ (c6 : Nat),
w'5.cell? { block := b1, off := (0 : Nat) } = some (Value.slice a14 n3 c6) ∧
∃ (k1 : Nat),
(↑(wb g x1.n) : Int) = (↑k1 : Int) ∧
k1 < n3 ∧
ptrE a14 fun (b3 o1 : Nat) =>
∃ (n4 : Int),
w'5.cell? { block := b3, off := o1 + k1 } = some (Value.int IntKind.i64 n4) ∧
bcase (decide (n4 ≥ (3 : Int)))
(bcase (decide ((↑(kw g (↑x2 : Int).toNat) : Int) ≥ (3 : Int)))
(∃ (c7 : Unit),
Value.bool true = Value.bool (decide (JoinW (ncl g) (kw g) (bw g) (↑(wb g x1.n) : Int).toNat (↑x2 : Int).toNat)) ∧
Ext w'4 w'5)
(∃ (c7 : Unit),
Value.bool
(decide
(kw g (↑x2 : Int).toNat < (3 : Nat) ∧
(3 : Nat) ≤ kw g ((↑x2 : Int).toNat - (1 : Nat)) ∧
(↑x2 : Int).toNat + (1 : Nat) < ncl g ∧
bw g (↑x2 : Int).toNat = kw g ((↑x2 : Int).toNat - (1 : Nat)) ∧
kw g ((↑x2 : Int).toNat + (1 : Nat)) = kw g ((↑x2 : Int).toNat - (1 : Nat)))) =
Value.bool (decide (JoinW (ncl g) (kw g) (bw g) (↑(wb g x1.n) : Int).toNat (↑x2 : Int).toNat)) ∧
Ext w'4 w'5))
(∃ (c7 : Unit),
Value.bool false = Value.bool (decide (JoinW (ncl g) (kw g) (bw g) (↑(wb g x1.n) : Int).toNat (↑x2 : Int).toNat)) ∧
Ext w'4 w'5)))
(InR IntKind.i64 ((↑x2 : Int) - (1 : Int)) ∧
bcase (decide ((↑x2 : Int) - (1 : Int) > (↑(wb g x1.n) : Int)))
(bcase (decide ((↑(kw g (↑x2 : Int).toNat) : Int) < (3 : Int)))
(bcase (decide ((↑(kw g ((↑x2 : Int).toNat - (1 : Nat))) : Int) ≥ (3 : Int)))
(InR IntKind.i64 ((↑x2 : Int) + (1 : Int)) ∧
∃ (a13 : Option Addr),
∃ (n3 : Nat),
∃ (c5 : Nat),
w'4.cell? { block := b, off := (0 : Nat) } = some (Value.slice a13 n3 c5) ∧
bcase (decide ((↑x2 : Int) + (1 : Int) < (↑n3 : Int)))
(∃ (a14 : Option Addr),
∃ (n4 : Nat),
∃ (c6 : Nat),
w'4.cell? { block := b, off := (0 : Nat) } = some (Value.slice a14 n4 c6) ∧
∃ (k1 : Nat),
(↑x2 : Int) = (↑k1 : Int) ∧
k1 < n4 ∧
ptrE a14 fun (b3 o1 : Nat) =>
∃ (s1 : ByteArray),
w'4.cell? { block := b3, off := o1 + k1 } = some (Value.string s1) ∧
∃ (g2 : ByteArray),
#[Value.string s1] = #[Value.string g2] ∧
True ∧
∀ (x3 : Nat) (w'5 : World),
x3 = betC g2 ∧ w'5 = w'4 →
bcase ((↑x3 : Int) == (↑(kw g ((↑x2 : Int).toNat - (1 : Nat))) : Int))
(∃ (a16 : Option Addr),
∃ (n5 : Nat),
∃ (c7 : Nat),
w'5.cell? { block := b1, off := (0 : Nat) } = some (Value.slice a16 n5 c7) ∧
InR IntKind.i64 ((↑x2 : Int) + (1 : Int)) ∧
∃ (k2 : Nat),
(↑x2 : Int) + (1 : Int) = (↑k2 : Int) ∧
k2 < n5 ∧
ptrE a16 fun (b4 o2 : Nat) =>
∃ (n6 : Int),
w'5.cell? { block := b4, off := o2 + k2 } = some (Value.int IntKind.i64 n6) ∧
∃ (c8 : Unit),
Value.bool (n6 == (↑(kw g ((↑x2 : Int).toNat - (1 : Nat))) : Int)) =
Value.bool
(decide
(kw g (↑x2 : Int).toNat < (3 : Nat) ∧
(3 : Nat) ≤ kw g ((↑x2 : Int).toNat - (1 : Nat)) ∧
(↑x2 : Int).toNat + (1 : Nat) < ncl g ∧
bw g (↑x2 : Int).toNat = kw g ((↑x2 : Int).toNat - (1 : Nat)) ∧
kw g ((↑x2 : Int).toNat + (1 : Nat)) = kw g ((↑x2 : Int).toNat - (1 : Nat)))) ∧
Ext w'4 w'5)
(∃ (c7 : Unit),
Value.bool false =
Value.bool
(decide
(kw g (↑x2 : Int).toNat < (3 : Nat) ∧
(3 : Nat) ≤ kw g ((↑x2 : Int).toNat - (1 : Nat)) ∧
(↑x2 : Int).toNat + (1 : Nat) < ncl g ∧
bw g (↑x2 : Int).toNat = kw g ((↑x2 : Int).toNat - (1 : Nat)) ∧
kw g ((↑x2 : Int).toNat + (1 : Nat)) = kw g ((↑x2 : Int).toNat - (1 : Nat)))) ∧
Ext w'4 w'5))
(∃ (c6 : Unit),
Value.bool false =
Value.bool
(decide
(kw g (↑x2 : Int).toNat < (3 : Nat) ∧
(3 : Nat) ≤ kw g ((↑x2 : Int).toNat - (1 : Nat)) ∧
(↑x2 : Int).toNat + (1 : Nat) < ncl g ∧
bw g (↑x2 : Int).toNat = kw g ((↑x2 : Int).toNat - (1 : Nat)) ∧
kw g ((↑x2 : Int).toNat + (1 : Nat)) = kw g ((↑x2 : Int).toNat - (1 : Nat)))) ∧
Ext w'4 w'4))
(∃ (c5 : Unit),
Value.bool false =
Value.bool
(decide
(kw g (↑x2 : Int).toNat < (3 : Nat) ∧
(3 : Nat) ≤ kw g ((↑x2 : Int).toNat - (1 : Nat)) ∧
(↑x2 : Int).toNat + (1 : Nat) < ncl g ∧
bw g (↑x2 : Int).toNat = kw g ((↑x2 : Int).toNat - (1 : Nat)) ∧
kw g ((↑x2 : Int).toNat + (1 : Nat)) = kw g ((↑x2 : Int).toNat - (1 : Nat)))) ∧
Ext w'4 w'4))
(∃ (c5 : Unit),
Value.bool false =
Value.bool
(decide
(kw g (↑x2 : Int).toNat < (3 : Nat) ∧
(3 : Nat) ≤ kw g ((↑x2 : Int).toNat - (1 : Nat)) ∧
(↑x2 : Int).toNat + (1 : Nat) < ncl g ∧
bw g (↑x2 : Int).toNat = kw g ((↑x2 : Int).toNat - (1 : Nat)) ∧
kw g ((↑x2 : Int).toNat + (1 : Nat)) = kw g ((↑x2 : Int).toNat - (1 : Nat)))) ∧
Ext w'4 w'4) ∧
∀ (u4 : Nat → Value) (c5 : Unit) (w'5 : World),
Ext w'4 w'5 →
bcase (decide (kw g (↑(wb g x1.n) : Int).toNat = (1 : Nat) ∧ kw g (↑x2 : Int).toNat = (1 : Nat)))
(∃ (c6 : Unit),
Value.bool true = Value.bool (decide (JoinW (ncl g) (kw g) (bw g) (↑(wb g x1.n) : Int).toNat (↑x2 : Int).toNat)) ∧
Ext w'4 w'5)
(∃ (a14 : Option Addr),
∃ (n3 : Nat),
∃ (c6 : Nat),
w'5.cell? { block := b1, off := (0 : Nat) } = some (Value.slice a14 n3 c6) ∧
∃ (k1 : Nat),
(↑(wb g x1.n) : Int) = (↑k1 : Int) ∧
k1 < n3 ∧
ptrE a14 fun (b3 o1 : Nat) =>
∃ (n4 : Int),
w'5.cell? { block := b3, off := o1 + k1 } = some (Value.int IntKind.i64 n4) ∧
bcase (decide (n4 ≥ (3 : Int)))
(bcase (decide ((↑(kw g (↑x2 : Int).toNat) : Int) ≥ (3 : Int)))
(∃ (c7 : Unit),
Value.bool true = Value.bool (decide (JoinW (ncl g) (kw g) (bw g) (↑(wb g x1.n) : Int).toNat (↑x2 : Int).toNat)) ∧
Ext w'4 w'5)
(∃ (c7 : Unit),
Value.bool
(decide
(kw g (↑x2 : Int).toNat < (3 : Nat) ∧
(3 : Nat) ≤ kw g ((↑x2 : Int).toNat - (1 : Nat)) ∧
(↑x2 : Int).toNat + (1 : Nat) < ncl g ∧
bw g (↑x2 : Int).toNat = kw g ((↑x2 : Int).toNat - (1 : Nat)) ∧
kw g ((↑x2 : Int).toNat + (1 : Nat)) = kw g ((↑x2 : Int).toNat - (1 : Nat)))) =
Value.bool (decide (JoinW (ncl g) (kw g) (bw g) (↑(wb g x1.n) : Int).toNat (↑x2 : Int).toNat)) ∧
Ext w'4 w'5))
(∃ (c7 : Unit),
Value.bool false = Value.bool (decide (JoinW (ncl g) (kw g) (bw g) (↑(wb g x1.n) : Int).toNat (↑x2 : Int).toNat)) ∧
Ext w'4 w'5)))
(∃ (c5 : Unit),
Value.bool (decide (kw g (↑(wb g x1.n) : Int).toNat = (1 : Nat) ∧ kw g (↑x2 : Int).toNat = (1 : Nat))) =
Value.bool (decide (JoinW (ncl g) (kw g) (bw g) (↑(wb g x1.n) : Int).toNat (↑x2 : Int).toNat)) ∧
Ext w'4 w'4)) ∧
∀ (u4 : Nat → Value) (c5 : Unit) (w'5 : World),
Ext w'4 w'5 →
bcase (!decide (JoinW (ncl g) (kw g) (bw g) (↑(wb g x1.n) : Int).toNat (↑x2 : Int).toNat))
(∀ (w12 : World),
Drew w'5 w12 →
¬(slB (Value.slice x1.ea x1.n x1.ec) b1 ∨ slB (Value.slice x1.sa x1.n x1.sc) b1) ∧
∃ (a15 : Option Addr),
∃ (n3 : Nat),
∃ (c6 : Nat),
w'5.cell? { block := b1, off := (0 : Nat) } = some (Value.slice a15 n3 c6) ∧
∃ (k1 : Nat),
(↑(wb g x1.n) : Int) = (↑k1 : Int) ∧
k1 < n3 ∧
ptrE a15 fun (b3 o1 : Nat) =>
¬(slB (Value.slice x1.ea x1.n x1.ec) b3 ∨ slB (Value.slice x1.sa x1.n x1.sc) b3) ∧
∃ (n4 : Int),
w'5.cell? { block := b3, off := o1 + k1 } = some (Value.int IntKind.i64 n4) ∧
(∀ (b4 : Nat) (w13 : World),
New w12 (Obj.cells #[Value.int IntKind.i64 (↑(bp g x2) : Int)] (3 : Nat)) b4 w13 →
Fr (fun (q : Nat) => slB (Value.slice x1.ea x1.n x1.ec) q ∨ slB (Value.slice x1.sa x1.n x1.sc) q) w12 w13 ∧
(∃ (a' : Option Addr),
∃ (c' : Nat),
∃ (w'6 : World),
AppRun Tryd.prog #[(45 : Nat), (45 : Nat)] (45 : Nat) (Value.slice x1.ea x1.n x1.ec)
(Value.slice (some { block := b4, off := (0 : Nat) }) (1 : Nat) (1 : Nat)) w13 a' (x1.n + (1 : Nat)) c' w'6 ∧
KO w13 w'6 ∧
Fr (fun (q : Nat) => slB (Value.slice x1.ea x1.n x1.ec) q ∨ slB (Value.slice x1.sa x1.n x1.sc) q) w13 w'6 ∧
∀ (b5 : Nat) (w14 : World),
New w'6 (Obj.cells #[Value.int IntKind.i64 n4] (3 : Nat)) b5 w14 →
Fr (fun (q : Nat) => slB (Value.slice x1.ea x1.n x1.ec) q ∨ slB (Value.slice x1.sa x1.n x1.sc) q) w'6 w14 ∧
∃ (a'1 : Option Addr),
∃ (c'1 : Nat),
∃ (w'7 : World),
AppRun Tryd.prog #[(45 : Nat), (45 : Nat)] (45 : Nat) (Value.slice x1.sa x1.n x1.sc)
(Value.slice (some { block := b5, off := (0 : Nat) }) (1 : Nat) (1 : Nat)) w14 a'1 (x1.n + (1 : Nat)) c'1 w'7 ∧
KO w14 w'7 ∧
∃ (y : GSg),
Value.int IntKind.i64 (↑x2 : Int) = Value.int IntKind.i64 (↑(wb g y.n) : Int) ∧
Value.int IntKind.i64 (↑(bp g x2) : Int) = Value.int IntKind.i64 (↑(wp g y.n) : Int) ∧
Value.slice a' (x1.n + (1 : Nat)) c' = Value.slice y.ea y.n y.ec ∧
Value.slice a'1 (x1.n + (1 : Nat)) c'1 = Value.slice y.sa y.n y.sc ∧
(y.n ≤ wn g ∧
Made W w'7 (3 : TypeId) (1 : Nat) y.ea y.n (List.map (Value.int IntKind.i64) (List.take y.n (endsW g))) y.ec ∧
Made W w'7 (3 : TypeId) (1 : Nat) y.sa y.n (List.map (Value.int IntKind.i64) (List.take y.n (sortsW g))) y.sc ∧
∀ (q : Nat), blk y.ea = some q → blk y.sa ≠ some q) ∧
wn g - y.n < wn g - x1.n) ∧
∀ (b5 : Nat) (w14 : World),
New w13 (Obj.cells #[Value.int IntKind.i64 n4] (3 : Nat)) b5 w14 →
Fr (fun (q : Nat) => slB (Value.slice x1.ea x1.n x1.ec) q ∨ slB (Value.slice x1.sa x1.n x1.sc) q) w13 w14 ∧
∃ (a' : Option Addr),
∃ (c' : Nat),
∃ (w'6 : World),
AppRun Tryd.prog #[(45 : Nat), (45 : Nat)] (45 : Nat) (Value.slice x1.ea x1.n x1.ec)
(Value.slice (some { block := b4, off := (0 : Nat) }) (1 : Nat) (1 : Nat)) w14 a' (x1.n + (1 : Nat)) c' w'6 ∧
KO w14 w'6 ∧
Fr (fun (q : Nat) => slB (Value.slice x1.ea x1.n x1.ec) q ∨ slB (Value.slice x1.sa x1.n x1.sc) q) w14 w'6 ∧
∃ (a'1 : Option Addr),
∃ (c'1 : Nat),
∃ (w'7 : World),
AppRun Tryd.prog #[(45 : Nat), (45 : Nat)] (45 : Nat) (Value.slice x1.sa x1.n x1.sc)
(Value.slice (some { block := b5, off := (0 : Nat) }) (1 : Nat) (1 : Nat)) w'6 a'1 (x1.n + (1 : Nat)) c'1 w'7 ∧
KO w'6 w'7 ∧
∃ (y : GSg),
Value.int IntKind.i64 (↑x2 : Int) = Value.int IntKind.i64 (↑(wb g y.n) : Int) ∧
Value.int IntKind.i64 (↑(bp g x2) : Int) = Value.int IntKind.i64 (↑(wp g y.n) : Int) ∧
Value.slice a' (x1.n + (1 : Nat)) c' = Value.slice y.ea y.n y.ec ∧
Value.slice a'1 (x1.n + (1 : Nat)) c'1 = Value.slice y.sa y.n y.sc ∧
(y.n ≤ wn g ∧
Made W w'7 (3 : TypeId) (1 : Nat) y.ea y.n (List.map (Value.int IntKind.i64) (List.take y.n (endsW g))) y.ec ∧
Made W w'7 (3 : TypeId) (1 : Nat) y.sa y.n (List.map (Value.int IntKind.i64) (List.take y.n (sortsW g))) y.sc ∧
∀ (q : Nat), blk y.ea = some q → blk y.sa ≠ some q) ∧
wn g - y.n < wn g - x1.n) ∧
∀ (b4 : Nat) (w13 : World),
New w12 (Obj.cells #[Value.int IntKind.i64 n4] (3 : Nat)) b4 w13 →
Fr (fun (q : Nat) => slB (Value.slice x1.ea x1.n x1.ec) q ∨ slB (Value.slice x1.sa x1.n x1.sc) q) w12 w13 ∧
∀ (b5 : Nat) (w14 : World),
New w13 (Obj.cells #[Value.int IntKind.i64 (↑(bp g x2) : Int)] (3 : Nat)) b5 w14 →
Fr (fun (q : Nat) => slB (Value.slice x1.ea x1.n x1.ec) q ∨ slB (Value.slice x1.sa x1.n x1.sc) q) w13 w14 ∧
∃ (a' : Option Addr),
∃ (c' : Nat),
∃ (w'6 : World),
AppRun Tryd.prog #[(45 : Nat), (45 : Nat)] (45 : Nat) (Value.slice x1.ea x1.n x1.ec)
(Value.slice (some { block := b5, off := (0 : Nat) }) (1 : Nat) (1 : Nat)) w14 a' (x1.n + (1 : Nat)) c' w'6 ∧
KO w14 w'6 ∧
Fr (fun (q : Nat) => slB (Value.slice x1.ea x1.n x1.ec) q ∨ slB (Value.slice x1.sa x1.n x1.sc) q) w14 w'6 ∧
∃ (a'1 : Option Addr),
∃ (c'1 : Nat),
∃ (w'7 : World),
AppRun Tryd.prog #[(45 : Nat), (45 : Nat)] (45 : Nat) (Value.slice x1.sa x1.n x1.sc)
(Value.slice (some { block := b4, off := (0 : Nat) }) (1 : Nat) (1 : Nat)) w'6 a'1 (x1.n + (1 : Nat)) c'1 w'7 ∧
KO w'6 w'7 ∧
∃ (y : GSg),
Value.int IntKind.i64 (↑x2 : Int) = Value.int IntKind.i64 (↑(wb g y.n) : Int) ∧
Value.int IntKind.i64 (↑(bp g x2) : Int) = Value.int IntKind.i64 (↑(wp g y.n) : Int) ∧
Value.slice a' (x1.n + (1 : Nat)) c' = Value.slice y.ea y.n y.ec ∧
Value.slice a'1 (x1.n + (1 : Nat)) c'1 = Value.slice y.sa y.n y.sc ∧
(y.n ≤ wn g ∧
Made W w'7 (3 : TypeId) (1 : Nat) y.ea y.n (List.map (Value.int IntKind.i64) (List.take y.n (endsW g))) y.ec ∧
Made W w'7 (3 : TypeId) (1 : Nat) y.sa y.n (List.map (Value.int IntKind.i64) (List.take y.n (sortsW g))) y.sc ∧
∀ (q : Nat), blk y.ea = some q → blk y.sa ≠ some q) ∧
wn g - y.n < wn g - x1.n)
(∃ (a14 : Option Addr),
∃ (n3 : Nat),
∃ (c6 : Nat),
w'5.cell? { block := b, off := (0 : Nat) } = some (Value.slice a14 n3 c6) ∧
∃ (k1 : Nat),
(↑x2 : Int) = (↑k1 : Int) ∧
k1 < n3 ∧
ptrE a14 fun (b3 o1 : Nat) =>
∃ (s1 : ByteArray),
w'5.cell? { block := b3, off := o1 + k1 } = some (Value.string s1) ∧
InR IntKind.i64 ((↑(bp g x2) : Int) + (↑s1.size : Int)) ∧
InR IntKind.i64 ((↑x2 : Int) + (1 : Int)) ∧
∃ (y : Nat),
Value.int IntKind.i64 ((↑x2 : Int) + (1 : Int)) = Value.int IntKind.i64 (↑y : Int) ∧
Value.int IntKind.i64 ((↑(bp g x2) : Int) + (↑s1.size : Int)) = Value.int IntKind.i64 (↑(bp g y) : Int) ∧
Value.slice x1.ea x1.n x1.ec = Value.slice x1.ea x1.n x1.ec ∧
Value.slice x1.sa x1.n x1.sc = Value.slice x1.sa x1.n x1.sc ∧
(InvW (ncl g) (kw g) (bw g) (↑(wb g x1.n) : Int).toNat y ∧ Ext w'1 w'5) ∧ ncl g - y < ncl g - x2))
(∀ (w12 : World),
Drew w'2 w12 →
¬(slB (Value.slice x1.ea x1.n x1.ec) b1 ∨ slB (Value.slice x1.sa x1.n x1.sc) b1) ∧
∃ (a12 : Option Addr),
∃ (n3 : Nat),
∃ (c3 : Nat),
w'2.cell? { block := b1, off := (0 : Nat) } = some (Value.slice a12 n3 c3) ∧
∃ (k1 : Nat),
(↑(wb g x1.n) : Int) = (↑k1 : Int) ∧
k1 < n3 ∧
ptrE a12 fun (b3 o1 : Nat) =>
¬(slB (Value.slice x1.ea x1.n x1.ec) b3 ∨ slB (Value.slice x1.sa x1.n x1.sc) b3) ∧
∃ (n4 : Int),
w'2.cell? { block := b3, off := o1 + k1 } = some (Value.int IntKind.i64 n4) ∧
(∀ (b4 : Nat) (w13 : World),
New w12 (Obj.cells #[Value.int IntKind.i64 (↑(bp g x2) : Int)] (3 : Nat)) b4 w13 →
Fr (fun (q : Nat) => slB (Value.slice x1.ea x1.n x1.ec) q ∨ slB (Value.slice x1.sa x1.n x1.sc) q) w12 w13 ∧
(∃ (a' : Option Addr),
∃ (c' : Nat),
∃ (w'3 : World),
AppRun Tryd.prog #[(45 : Nat), (45 : Nat)] (45 : Nat) (Value.slice x1.ea x1.n x1.ec)
(Value.slice (some { block := b4, off := (0 : Nat) }) (1 : Nat) (1 : Nat)) w13 a' (x1.n + (1 : Nat)) c' w'3 ∧
KO w13 w'3 ∧
Fr (fun (q : Nat) => slB (Value.slice x1.ea x1.n x1.ec) q ∨ slB (Value.slice x1.sa x1.n x1.sc) q) w13 w'3 ∧
∀ (b5 : Nat) (w14 : World),
New w'3 (Obj.cells #[Value.int IntKind.i64 n4] (3 : Nat)) b5 w14 →
Fr (fun (q : Nat) => slB (Value.slice x1.ea x1.n x1.ec) q ∨ slB (Value.slice x1.sa x1.n x1.sc) q) w'3 w14 ∧
∃ (a'1 : Option Addr),
∃ (c'1 : Nat),
∃ (w'4 : World),
AppRun Tryd.prog #[(45 : Nat), (45 : Nat)] (45 : Nat) (Value.slice x1.sa x1.n x1.sc)
(Value.slice (some { block := b5, off := (0 : Nat) }) (1 : Nat) (1 : Nat)) w14 a'1 (x1.n + (1 : Nat)) c'1 w'4 ∧
KO w14 w'4 ∧
∃ (y : GSg),
Value.int IntKind.i64 (↑x2 : Int) = Value.int IntKind.i64 (↑(wb g y.n) : Int) ∧
Value.int IntKind.i64 (↑(bp g x2) : Int) = Value.int IntKind.i64 (↑(wp g y.n) : Int) ∧
Value.slice a' (x1.n + (1 : Nat)) c' = Value.slice y.ea y.n y.ec ∧
Value.slice a'1 (x1.n + (1 : Nat)) c'1 = Value.slice y.sa y.n y.sc ∧
(y.n ≤ wn g ∧
Made W w'4 (3 : TypeId) (1 : Nat) y.ea y.n (List.map (Value.int IntKind.i64) (List.take y.n (endsW g))) y.ec ∧
Made W w'4 (3 : TypeId) (1 : Nat) y.sa y.n (List.map (Value.int IntKind.i64) (List.take y.n (sortsW g))) y.sc ∧
∀ (q : Nat), blk y.ea = some q → blk y.sa ≠ some q) ∧
wn g - y.n < wn g - x1.n) ∧
∀ (b5 : Nat) (w14 : World),
New w13 (Obj.cells #[Value.int IntKind.i64 n4] (3 : Nat)) b5 w14 →
Fr (fun (q : Nat) => slB (Value.slice x1.ea x1.n x1.ec) q ∨ slB (Value.slice x1.sa x1.n x1.sc) q) w13 w14 ∧
∃ (a' : Option Addr),
∃ (c' : Nat),
∃ (w'3 : World),
AppRun Tryd.prog #[(45 : Nat), (45 : Nat)] (45 : Nat) (Value.slice x1.ea x1.n x1.ec)
(Value.slice (some { block := b4, off := (0 : Nat) }) (1 : Nat) (1 : Nat)) w14 a' (x1.n + (1 : Nat)) c' w'3 ∧
KO w14 w'3 ∧
Fr (fun (q : Nat) => slB (Value.slice x1.ea x1.n x1.ec) q ∨ slB (Value.slice x1.sa x1.n x1.sc) q) w14 w'3 ∧
∃ (a'1 : Option Addr),
∃ (c'1 : Nat),
∃ (w'4 : World),
AppRun Tryd.prog #[(45 : Nat), (45 : Nat)] (45 : Nat) (Value.slice x1.sa x1.n x1.sc)
(Value.slice (some { block := b5, off := (0 : Nat) }) (1 : Nat) (1 : Nat)) w'3 a'1 (x1.n + (1 : Nat)) c'1 w'4 ∧
KO w'3 w'4 ∧
∃ (y : GSg),
Value.int IntKind.i64 (↑x2 : Int) = Value.int IntKind.i64 (↑(wb g y.n) : Int) ∧
Value.int IntKind.i64 (↑(bp g x2) : Int) = Value.int IntKind.i64 (↑(wp g y.n) : Int) ∧
Value.slice a' (x1.n + (1 : Nat)) c' = Value.slice y.ea y.n y.ec ∧
Value.slice a'1 (x1.n + (1 : Nat)) c'1 = Value.slice y.sa y.n y.sc ∧
(y.n ≤ wn g ∧
Made W w'4 (3 : TypeId) (1 : Nat) y.ea y.n (List.map (Value.int IntKind.i64) (List.take y.n (endsW g))) y.ec ∧
Made W w'4 (3 : TypeId) (1 : Nat) y.sa y.n (List.map (Value.int IntKind.i64) (List.take y.n (sortsW g))) y.sc ∧
∀ (q : Nat), blk y.ea = some q → blk y.sa ≠ some q) ∧
wn g - y.n < wn g - x1.n) ∧
∀ (b4 : Nat) (w13 : World),
New w12 (Obj.cells #[Value.int IntKind.i64 n4] (3 : Nat)) b4 w13 →
Fr (fun (q : Nat) => slB (Value.slice x1.ea x1.n x1.ec) q ∨ slB (Value.slice x1.sa x1.n x1.sc) q) w12 w13 ∧
∀ (b5 : Nat) (w14 : World),
New w13 (Obj.cells #[Value.int IntKind.i64 (↑(bp g x2) : Int)] (3 : Nat)) b5 w14 →
Fr (fun (q : Nat) => slB (Value.slice x1.ea x1.n x1.ec) q ∨ slB (Value.slice x1.sa x1.n x1.sc) q) w13 w14 ∧
∃ (a' : Option Addr),
∃ (c' : Nat),
∃ (w'3 : World),
AppRun Tryd.prog #[(45 : Nat), (45 : Nat)] (45 : Nat) (Value.slice x1.ea x1.n x1.ec)
(Value.slice (some { block := b5, off := (0 : Nat) }) (1 : Nat) (1 : Nat)) w14 a' (x1.n + (1 : Nat)) c' w'3 ∧
KO w14 w'3 ∧
Fr (fun (q : Nat) => slB (Value.slice x1.ea x1.n x1.ec) q ∨ slB (Value.slice x1.sa x1.n x1.sc) q) w14 w'3 ∧
∃ (a'1 : Option Addr),
∃ (c'1 : Nat),
∃ (w'4 : World),
AppRun Tryd.prog #[(45 : Nat), (45 : Nat)] (45 : Nat) (Value.slice x1.sa x1.n x1.sc)
(Value.slice (some { block := b4, off := (0 : Nat) }) (1 : Nat) (1 : Nat)) w'3 a'1 (x1.n + (1 : Nat)) c'1 w'4 ∧
KO w'3 w'4 ∧
∃ (y : GSg),
Value.int IntKind.i64 (↑x2 : Int) = Value.int IntKind.i64 (↑(wb g y.n) : Int) ∧
Value.int IntKind.i64 (↑(bp g x2) : Int) = Value.int IntKind.i64 (↑(wp g y.n) : Int) ∧
Value.slice a' (x1.n + (1 : Nat)) c' = Value.slice y.ea y.n y.ec ∧
Value.slice a'1 (x1.n + (1 : Nat)) c'1 = Value.slice y.sa y.n y.sc ∧
(y.n ≤ wn g ∧
Made W w'4 (3 : TypeId) (1 : Nat) y.ea y.n (List.map (Value.int IntKind.i64) (List.take y.n (endsW g))) y.ec ∧
Made W w'4 (3 : TypeId) (1 : Nat) y.sa y.n (List.map (Value.int IntKind.i64) (List.take y.n (sortsW g))) y.sc ∧
∀ (q : Nat), blk y.ea = some q → blk y.sa ≠ some q) ∧
wn g - y.n < wn g - x1.n))
(∀ (w2 : World),
Turn w.heap.size w'1 w2 →
∃ (x2 : GSg),
Value.tuple #[Value.slice x1.ea x1.n x1.ec, Value.slice x1.sa x1.n x1.sc] =
Value.tuple #[Value.slice x2.ea x2.n x2.ec, Value.slice x2.sa x2.n x2.sc] ∧
x2.n = wn g ∧
Made w w2 (3 : TypeId) (1 : Nat) x2.ea x2.n (List.map (Value.int IntKind.i64) (endsW g)) x2.ec ∧
Made w w2 (3 : TypeId) (1 : Nat) x2.sa x2.n (List.map (Value.int IntKind.i64) (sortsW g)) x2.sc)) ∧
True) :
    (sSegs).Ok Tryd.prog 68 :=
  ok_of_vc sSegs annSegs spSegs (fun _ _ => rfl) (fun _ _ => rfl) hsp Tryd.func68 rfl (n := 1) (fun _ => rfl) (by kernel_rfl) (vcast (by kernel_rfl) h)

set_option maxRecDepth 1000000 in
theorem allW_vc (hsp : SpecsOk Tryd.prog spAllW) (h : ∀ (g : ByteArray) (w : World),
U8 w ∧ g.size ≤ (67108864 : Nat) →
∀ (b : Nat) (w1 : World),
New w (Obj.cells #[Value.string g] (9 : Nat)) b w1 →
∃ (s : ByteArray),
w1.cell? { block := b, off := (0 : Nat) } = some (Value.string s) ∧
∃ (g1 : ByteArray),
#[Value.string s] = #[Value.string g1] ∧
(U8 w1 ∧ g1.size ≤ (67108864 : Nat)) ∧
∀ (x : GSg) (w' : World),
x.n = wn g1 ∧
Made w1 w' (3 : TypeId) (1 : Nat) x.ea x.n (List.map (Value.int IntKind.i64) (endsW g1)) x.ec ∧
Made w1 w' (3 : TypeId) (1 : Nat) x.sa x.n (List.map (Value.int IntKind.i64) (sortsW g1)) x.sc →
∀ (b1 : Nat) (w11 : World),
New w' (Obj.cells #[Value.slice none (0 : Nat) (0 : Nat)] (45 : Nat)) b1 w11 →
true = true ∧
(∃ (old : Value), w11.cell? { block := b1, off := (0 : Nat) } = some old) ∧
w11.frozen? { block := b1, off := (0 : Nat) } = false ∧
∀ (w12 : World),
Stored w11 { block := b1, off := (0 : Nat) } (Value.slice x.ea x.n x.ec) w12 →
∃ (x1 : GWd),
Value.func (Fn.func (69 : Nat)) #[]
#[Value.pointer (some { block := b1, off := (0 : Nat) }), Value.pointer (some { block := b, off := (0 : Nat) })] =
Value.func (Fn.func (69 : FuncId)) #[]
#[Value.pointer (some { block := x1.be, off := (0 : Nat) }),
Value.pointer (some { block := x1.bs, off := (0 : Nat) })] ∧
x1.s = g ∧ hWd x1 w12 ∧ (∀ (q : Nat), cWd x1 q → w.heap.size ≤ q) ∧ Ext w w12) :
    (sAllW).Ok Tryd.prog 31 :=
  ok_of_vc sAllW (annOf spAllW) spAllW (fun _ _ => rfl) (fun _ _ => rfl) hsp Tryd.func31 rfl (n := 1) (fun _ => rfl) (by kernel_rfl) (vcast (by kernel_rfl) h)

set_option maxRecDepth 1000000 in
theorem itWd_vc (hsp : SpecsOk Tryd.prog []) (h : ∀ (g : GWd) (i : ItG) (W : World),
hWd g W →
ItPre (List.map encPc (wdL g.s)) (cWd g) i W →
∃ (a2 : Option Addr),
∃ (n : Nat),
∃ (c : Nat),
W.cell? { block := g.be, off := (0 : Nat) } = some (Value.slice a2 n c) ∧
(∃ (x : Nat × (Nat → Prop)),
Value.int IntKind.i64 (0 : Int) = Value.int IntKind.i64 (↑(wp g.s x.fst) : Int) ∧
Value.int IntKind.i64 (0 : Int) = Value.int IntKind.i64 (↑x.fst : Int) ∧
x.fst ≤ wn g.s ∧ i.J x.fst x.snd W ∧ Mid W i.D0 x.snd W) ∧
∀ (u : Nat → Value) (x : Nat × (Nat → Prop)) (w' : World),
x.fst ≤ wn g.s ∧ i.J x.fst x.snd w' ∧ Mid W i.D0 x.snd w' →
bcase (decide ((↑x.fst : Int) < (↑n : Int)))
(∃ (k : Nat),
(↑x.fst : Int) = (↑k : Int) ∧
k < n ∧
ptrE a2 fun (b o : Nat) =>
∃ (n1 : Int),
w'.cell? { block := b, off := o + k } = some (Value.int IntKind.i64 n1) ∧
∃ (s : ByteArray),
w'.cell? { block := g.bs, off := (0 : Nat) } = some (Value.string s) ∧
∃ (k1 : Nat),
(↑(wp g.s x.fst) : Int) = (↑k1 : Int) ∧
∃ (k2 : Nat),
n1 = (↑k2 : Int) ∧
k1 ≤ k2 ∧
k2 ≤ s.size ∧
i.l = i.l ∧
∃ (q : Nat × (Nat → Prop)),
[Value.int IntKind.i64 (↑(wp g.s x.fst) : Int), Value.string (s.extract k1 k2)] =
(List.map encPc (wdL g.s)).getD q.fst [] ∧
(q.fst < (List.map encPc (wdL g.s)).length ∧ i.J q.fst q.snd w' ∧ Mid W i.D0 q.snd w') ∧
∀ (b1 : Bool) (w'1 : World),
(∃ (D' : Nat → Prop),
Step q.snd w' w'1 D' ∧ (b1 = true → i.J (q.fst + (1 : Nat)) D' w'1) ∧ (b1 = false → i.Jx D' w'1)) →
bcase (!b1) (ItPost (List.map encPc (wdL g.s)) i W w'1)
(InR IntKind.i64 ((↑x.fst : Int) + (1 : Int)) ∧
∃ (y : Nat × (Nat → Prop)),
Value.int IntKind.i64 n1 = Value.int IntKind.i64 (↑(wp g.s y.fst) : Int) ∧
Value.int IntKind.i64 ((↑x.fst : Int) + (1 : Int)) = Value.int IntKind.i64 (↑y.fst : Int) ∧
(y.fst ≤ wn g.s ∧ i.J y.fst y.snd w'1 ∧ Mid W i.D0 y.snd w'1) ∧ wn g.s - y.fst < wn g.s - x.fst))
(ItPost (List.map encPc (wdL g.s)) i W w')) :
    (itWd).Ok Tryd.prog 69 :=
  iter_of_vc itWd annItWd [] (fun _ _ _ => rfl) (fun _ _ _ => rfl) hsp (enters_of Tryd.func69 (by kernel_rfl) rfl) Tryd.func69 rfl (n := 2) (fun _ => rfl) (by kernel_rfl) (vcast (by kernel_rfl) h)

end Go.Proofs.YthpjkgoahneldaaDoor
end

section
/-
  Verification conditions, printed by a program out of the specifications beside this text: each theorem says that the condition suffices. (Lean's kernel compares the printed condition with what 'wpE' computes.)
-/
set_option linter.unusedVariables false
namespace Go.Proofs.YthpjkgoahneldaaDoor
open Go Go.RowKit Vc Ut Tb Cl

set_option maxRecDepth 1000000 in
theorem itPc_vc (hsp : SpecsOk Tryd.prog spItPc) (h : ∀ (g : ByteArray × Nat) (i : ItG) (W : World),
W.heap[g.snd]? = some (Obj.cells #[Value.string g.fst] (9 : TypeId)) ∧ U8 W ∧ g.fst.size ≤ (67108864 : Nat) →
ItPre (List.map encPc (pcL g.fst)) (fun (q : Nat) => q = g.snd ∨ q = (0 : Nat) ∨ q = (1 : Nat)) i W →
(∃ (x : Nat × (Nat → Prop)),
Value.int IntKind.i64 (0 : Int) = Value.int IntKind.i64 (↑(bp g.fst x.fst) : Int) ∧
x.fst ≤ ncl g.fst ∧ i.J x.fst x.snd W ∧ Mid W i.D0 x.snd W) ∧
∀ (u : Nat → Value) (x : Nat × (Nat → Prop)) (w' : World),
x.fst ≤ ncl g.fst ∧ i.J x.fst x.snd w' ∧ Mid W i.D0 x.snd w' →
∃ (s : ByteArray),
w'.cell? { block := g.snd, off := (0 : Nat) } = some (Value.string s) ∧
bcase (decide ((↑(bp g.fst x.fst) : Int) < (↑s.size : Int)))
(∃ (s1 : ByteArray),
w'.cell? { block := g.snd, off := (0 : Nat) } = some (Value.string s1) ∧
∃ (k : Nat),
(↑(bp g.fst x.fst) : Int) = (↑k : Int) ∧
k ≤ s1.size ∧
s1.size ≤ s1.size ∧
∃ (g1 : ByteArray),
#[Value.string (s1.extract k s1.size)] = #[Value.string g1] ∧
(U8 w' ∧ g1.size ≤ (67108864 : Nat)) ∧
∀ (x1 : Nat) (w'1 : World),
x1 = nextL g1 ∧ Ext w' w'1 →
∃ (s2 : ByteArray),
w'1.cell? { block := g.snd, off := (0 : Nat) } = some (Value.string s2) ∧
InR IntKind.i64 ((↑(bp g.fst x.fst) : Int) + (↑x1 : Int)) ∧
∃ (k1 : Nat),
(↑(bp g.fst x.fst) : Int) = (↑k1 : Int) ∧
∃ (k2 : Nat),
(↑(bp g.fst x.fst) : Int) + (↑x1 : Int) = (↑k2 : Int) ∧
k1 ≤ k2 ∧
k2 ≤ s2.size ∧
i.l = i.l ∧
∃ (q : Nat × (Nat → Prop)),
[Value.int IntKind.i64 (↑(bp g.fst x.fst) : Int), Value.string (s2.extract k1 k2)] =
(List.map encPc (pcL g.fst)).getD q.fst [] ∧
(q.fst < (List.map encPc (pcL g.fst)).length ∧ i.J q.fst q.snd w'1 ∧ Mid W i.D0 q.snd w'1) ∧
∀ (b : Bool) (w'2 : World),
(∃ (D' : Nat → Prop), Step q.snd w'1 w'2 D' ∧ (b = true → i.J (q.fst + (1 : Nat)) D' w'2) ∧ (b = false → i.Jx D' w'2)) →
bcase (!b) (ItPost (List.map encPc (pcL g.fst)) i W w'2)
(InR IntKind.i64 ((↑(bp g.fst x.fst) : Int) + (↑x1 : Int)) ∧
∃ (y : Nat × (Nat → Prop)),
Value.int IntKind.i64 ((↑(bp g.fst x.fst) : Int) + (↑x1 : Int)) = Value.int IntKind.i64 (↑(bp g.fst y.fst) : Int) ∧
(y.fst ≤ ncl g.fst ∧ i.J y.fst y.snd w'2 ∧ Mid W i.D0 y.snd w'2) ∧ ncl g.fst - y.fst < ncl g.fst - x.fst))
(ItPost (List.map encPc (pcL g.fst)) i W w')) :
    (itPc).Ok Tryd.prog 101 :=
  iter_of_vc itPc annItPc spItPc (fun _ _ _ => rfl) (fun _ _ _ => rfl) hsp (enters_of Tryd.func101 (by kernel_rfl) rfl) Tryd.func101 rfl (n := 1) (fun _ => rfl) (by kernel_rfl) (vcast (by kernel_rfl) h)

set_option maxRecDepth 1000000 in
theorem cpieces_vc (hsp : SpecsOk Tryd.prog []) (h : ∀ (g : ByteArray) (w : World),
True →
∀ (b : Nat) (w1 : World),
New w (Obj.cells #[Value.string g] (9 : Nat)) b w1 →
∃ (x : Nat),
Value.func (Fn.func (101 : Nat)) #[] #[Value.pointer (some { block := b, off := (0 : Nat) })] =
Value.func (Fn.func (101 : Nat)) #[] #[Value.pointer (some { block := x, off := (0 : Nat) })] ∧
w.heap.size ≤ x ∧ w1.heap[x]? = some (Obj.cells #[Value.string g] (9 : TypeId)) ∧ Ext w w1) :
    ((sIter 101)).Ok Tryd.prog 65 :=
  ok_of_vc (sIter 101) (annOf []) [] (fun _ _ => rfl) (fun _ _ => rfl) hsp Tryd.func65 rfl (n := 1) (fun _ => rfl) (by kernel_rfl) (vcast (by kernel_rfl) h)

set_option maxRecDepth 1000000 in
theorem call_vc (hsp : SpecsOk Tryd.prog spAllC) (h : ∀ (g : ByteArray) (w : World),
True →
∃ (g1 : ByteArray),
#[Value.string g] = #[Value.string g1] ∧
True ∧
∀ (x : Nat) (w' : World),
w.heap.size ≤ x ∧ w'.heap[x]? = some (Obj.cells #[Value.string g1] (9 : TypeId)) ∧ Ext w w' →
∃ (x1 : Nat),
Value.func (Fn.func (101 : Nat)) #[] #[Value.pointer (some { block := x, off := (0 : Nat) })] =
Value.func (Fn.func (101 : Nat)) #[] #[Value.pointer (some { block := x1, off := (0 : Nat) })] ∧
w.heap.size ≤ x1 ∧ w'.heap[x1]? = some (Obj.cells #[Value.string g] (9 : TypeId)) ∧ Ext w w') :
    ((sIter 101)).Ok Tryd.prog 55 :=
  ok_of_vc (sIter 101) (annOf spAllC) spAllC (fun _ _ => rfl) (fun _ _ => rfl) hsp Tryd.func55 rfl (n := 1) (fun _ => rfl) (by kernel_rfl) (vcast (by kernel_rfl) h)

set_option maxRecDepth 1000000 in
theorem cis_vc (hsp : SpecsOk Tryd.prog spAllC) (h : ∀ (g : ByteArray × Int) (w : World),
U8 w ∧ g.fst.size ≤ (67108864 : Nat) →
∀ (b : Nat) (w1 : World),
New w (Obj.cells #[Value.int IntKind.i64 g.snd] (3 : Nat)) b w1 →
∀ (b1 : Nat) (w11 : World),
New w1 (Obj.cells #[Value.bool false] (4 : Nat)) b1 w11 →
∃ (g1 : ByteArray),
#[Value.string g.fst] = #[Value.string g1] ∧
True ∧
∀ (x : Nat) (w' : World),
w11.heap.size ≤ x ∧ w'.heap[x]? = some (Obj.cells #[Value.string g1] (9 : TypeId)) ∧ Ext w11 w' →
∃ (xs : List (Nat × ByteArray)),
∃ (C : Nat → Prop),
∃ (D0 : Nat → Prop),
IterAt Tryd.prog (Value.func (Fn.func (101 : Nat)) #[] #[Value.pointer (some { block := x, off := (0 : Nat) })])
(List.map encPc xs) C w' ∧
DomOk w' C D0 ∧
(D0 = ones [ptrB (Value.pointer (some { block := b1, off := (0 : Nat) }))] ∧
(∀ (j : Nat), j < (0 : Nat) → (↑(bp g.fst j) : Int) < g.snd) ∧
∃ (v : Bool),
w'.heap[ptrB (Value.pointer (some { block := b1, off := (0 : Nat) }))]? =
some (Obj.cells #[Value.bool v] (4 : TypeId))) ∧
(Stab w'.heap.size fun (k : Nat) (D : Nat → Prop) (W : World) =>
D = ones [ptrB (Value.pointer (some { block := b1, off := (0 : Nat) }))] ∧
(∀ (j : Nat), j < k → (↑(bp g.fst j) : Int) < g.snd) ∧
∃ (v : Bool),
W.heap[ptrB (Value.pointer (some { block := b1, off := (0 : Nat) }))]? =
some (Obj.cells #[Value.bool v] (4 : TypeId))) ∧
(∀ (x1 : Exit),
Stab w'.heap.size fun (x : Nat) (D : Nat → Prop) (W : World) =>
D = ones [ptrB (Value.pointer (some { block := b1, off := (0 : Nat) }))] ∧
W.heap[ptrB (Value.pointer (some { block := b1, off := (0 : Nat) }))]? =
some (Obj.cells #[Value.bool (isB g.fst g.snd)] (4 : TypeId))) ∧
(∀ (k : Nat) (x1 : Nat × ByteArray) (D : Nat → Prop) (W : World),
xs[k]? = some x1 →
(D = ones [ptrB (Value.pointer (some { block := b1, off := (0 : Nat) }))] ∧
(∀ (j : Nat), j < k → (↑(bp g.fst j) : Int) < g.snd) ∧
∃ (v : Bool),
W.heap[ptrB (Value.pointer (some { block := b1, off := (0 : Nat) }))]? =
some (Obj.cells #[Value.bool v] (4 : TypeId))) →
Mid w' D0 D W →
∃ (n : Int),
W.cell? { block := b, off := (0 : Nat) } = some (Value.int IntKind.i64 n) ∧
bcase (decide ((↑x1.fst : Int) ≥ n))
(∃ (n1 : Int),
W.cell? { block := b, off := (0 : Nat) } = some (Value.int IntKind.i64 n1) ∧
true = true ∧
(∃ (old : Value), W.cell? { block := b1, off := (0 : Nat) } = some old) ∧
W.frozen? { block := b1, off := (0 : Nat) } = false ∧
∀ (w12 : World),
Stored W { block := b1, off := (0 : Nat) } (Value.bool ((↑x1.fst : Int) == n1)) w12 →
∃ (D' : Nat → Prop),
Step D W w12 D' ∧
D' = ones [ptrB (Value.pointer (some { block := b1, off := (0 : Nat) }))] ∧
w12.heap[ptrB (Value.pointer (some { block := b1, off := (0 : Nat) }))]? =
some (Obj.cells #[Value.bool (isB g.fst g.snd)] (4 : TypeId)))
(∃ (D' : Nat → Prop),
Step D W W D' ∧
D' = ones [ptrB (Value.pointer (some { block := b1, off := (0 : Nat) }))] ∧
(∀ (j : Nat), j < k + (1 : Nat) → (↑(bp g.fst j) : Int) < g.snd) ∧
∃ (v : Bool),
W.heap[ptrB (Value.pointer (some { block := b1, off := (0 : Nat) }))]? =
some (Obj.cells #[Value.bool v] (4 : TypeId)))) ∧
(∀ (D : Nat → Prop) (W : World),
(D = ones [ptrB (Value.pointer (some { block := b1, off := (0 : Nat) }))] ∧
(∀ (j : Nat), j < lenX xs → (↑(bp g.fst j) : Int) < g.snd) ∧
∃ (v : Bool),
W.heap[ptrB (Value.pointer (some { block := b1, off := (0 : Nat) }))]? =
some (Obj.cells #[Value.bool v] (4 : TypeId))) →
Mid w' D0 D W →
∃ (n : Int),
W.cell? { block := b, off := (0 : Nat) } = some (Value.int IntKind.i64 n) ∧
true = true ∧
(∃ (old : Value), W.cell? { block := b1, off := (0 : Nat) } = some old) ∧
W.frozen? { block := b1, off := (0 : Nat) } = false ∧
∀ (w12 : World),
Stored W { block := b1, off := (0 : Nat) } (Value.bool (n == (↑g.fst.size : Int))) w12 →
∃ (b2 : Bool),
w12.cell? { block := b1, off := (0 : Nat) } = some (Value.bool b2) ∧
∀ (w2 : World),
Turn w.heap.size w12 w2 → ∃ (x1 : Bool), Value.bool b2 = Value.bool x1 ∧ x1 = isB g.fst g.snd ∧ Ext w w2) ∧
∀ (D : Nat → Prop) (W : World),
D = ones [ptrB (Value.pointer (some { block := b1, off := (0 : Nat) }))] ∧
W.heap[ptrB (Value.pointer (some { block := b1, off := (0 : Nat) }))]? =
some (Obj.cells #[Value.bool (isB g.fst g.snd)] (4 : TypeId)) →
Mid w' D0 D W →
∃ (b2 : Bool),
W.cell? { block := b1, off := (0 : Nat) } = some (Value.bool b2) ∧
∀ (w2 : World), Turn w.heap.size W w2 → ∃ (x1 : Bool), Value.bool b2 = Value.bool x1 ∧ x1 = isB g.fst g.snd ∧ Ext w w2) :
    (sIsB).Ok Tryd.prog 28 :=
  ok_of_vc sIsB annIsC spAllC (fun _ _ => rfl) (fun _ _ => rfl) hsp Tryd.func28 rfl (n := 2) (fun _ => rfl) (by kernel_rfl) (vcast (by kernel_rfl) h)

end Go.Proofs.YthpjkgoahneldaaDoor
end

section
/-
  Verification conditions, printed by a program out of the specifications beside this text: each theorem says that the condition suffices. (Lean's kernel compares the printed condition with what 'wpE' computes.)
-/
set_option linter.unusedVariables false
namespace Go.Proofs.YthpjkgoahneldaaDoor
open Go Go.RowKit Vc Ut Tb Cl

set_option maxRecDepth 1000000 in
theorem cnext_vc (hsp : SpecsOk Tryd.prog spCNext) (h : ∀ (g : ByteArray) (w : World),
U8 w ∧ g.size ≤ (67108864 : Nat) →
(∃ (g1 : ByteArray),
#[Value.string g] = #[Value.string g1] ∧
(U8 w ∧ g1.size ≤ (67108864 : Nat)) ∧
∀ (x : Int × Nat) (w' : World),
x.fst = nxR g1 ∧ x.snd = nxN g1 ∧ Ext w w' →
bcase (g.toList == (ByteArray.mk #[]).toList)
(∃ (x1 : Nat), Value.int IntKind.i64 (0 : Int) = Value.int IntKind.i64 (↑x1 : Int) ∧ x1 = nextL g ∧ Ext w w')
(bcase (x.fst == (65533 : Int))
(bcase ((↑x.snd : Int) == (1 : Int))
(∃ (y : Unit),
Value.int IntKind.i32 x.fst = Value.int IntKind.i32 (sg g (0 : Nat)) ∧
Value.int IntKind.i64 (↑x.snd : Int) = Value.int IntKind.i64 (↑(pos g (1 : Nat)) : Int) ∧
(0 : Nat) < g.size ∧ (isBad g (0 : Nat) = true ∨ aloneB (sg g (0 : Nat)) = true) ∧ Ext w w')
(∃ (g2 : Int),
#[Value.int IntKind.i32 x.fst] = #[Value.int IntKind.i32 g2] ∧
True ∧
∀ (x1 : Bool) (w'1 : World),
x1 = aloneB g2 ∧ Ext w' w'1 →
bcase x1
(∃ (y : Unit),
Value.int IntKind.i32 x.fst = Value.int IntKind.i32 (sg g (0 : Nat)) ∧
Value.int IntKind.i64 (↑x.snd : Int) = Value.int IntKind.i64 (↑(pos g (1 : Nat)) : Int) ∧
(0 : Nat) < g.size ∧ (isBad g (0 : Nat) = true ∨ aloneB (sg g (0 : Nat)) = true) ∧ Ext w w'1)
(∃ (k : Nat),
(↑x.snd : Int) = (↑k : Int) ∧
k ≤ g.size ∧
g.size ≤ g.size ∧
∃ (g3 : ByteArray),
#[Value.string (g.extract k g.size)] = #[Value.string g3] ∧
(U8 w'1 ∧ g3.size ≤ (67108864 : Nat)) ∧
∀ (x2 : Int × Nat) (w'2 : World),
x2.fst = nxR g3 ∧ x2.snd = nxN g3 ∧ Ext w'1 w'2 →
bcase ((↑x.snd : Int) == (↑g.size : Int) || x2.fst == (65533 : Int) && (↑x2.snd : Int) == (1 : Int))
(∃ (x3 : Nat), Value.int IntKind.i64 (↑x.snd : Int) = Value.int IntKind.i64 (↑x3 : Int) ∧ x3 = nextL g ∧ Ext w w'2)
(∃ (g4 : Int),
#[Value.int IntKind.i32 x2.fst] = #[Value.int IntKind.i32 g4] ∧
True ∧
∀ (x3 : Int) (w'3 : World),
x3 = kindR g4 ∧ Ext w'2 w'3 →
bcase (x3 == (2 : Int))
(bcase (x3 == (2 : Int)) (∃ (c : Nat), (1 : Int) = (↑c : Int) ∧ goB g (0 : Nat) c = true ∧ Ext w'2 w'3)
(∃ (g5 : Int),
#[Value.int IntKind.i32 x.fst] = #[Value.int IntKind.i32 g5] ∧
True ∧
∀ (x4 : Bool) (w'4 : World),
x4 = regB g5 ∧ Ext w'3 w'4 →
bcase x4
(∃ (g6 : Int),
#[Value.int IntKind.i32 x2.fst] = #[Value.int IntKind.i32 g6] ∧
True ∧
∀ (x5 : Bool) (w'5 : World),
x5 = regB g6 ∧ Ext w'4 w'5 →
bcase x5 (∃ (c : Nat), (1 : Int) = (↑c : Int) ∧ goB g (0 : Nat) c = true ∧ Ext w'2 w'5)
(bcase (x.fst == (8205 : Int))
(∃ (g7 : Int),
#[Value.int IntKind.i32 x.fst] = #[Value.int IntKind.i32 g7] ∧
True ∧
∀ (x6 : Bool) (w'6 : World),
x6 = picB g7 ∧ Ext w'5 w'6 →
bcase x6
(∃ (g8 : Int),
#[Value.int IntKind.i32 x2.fst] = #[Value.int IntKind.i32 g8] ∧
True ∧
∀ (x7 : Bool) (w'7 : World),
x7 = picB g8 ∧ Ext w'6 w'7 →
bcase x7 (∃ (c : Nat), (1 : Int) = (↑c : Int) ∧ goB g (0 : Nat) c = true ∧ Ext w'2 w'7)
(∃ (g9 : Int × Int),
#[Value.int IntKind.i32 x.fst, Value.int IntKind.i32 x2.fst] =
#[Value.int IntKind.i32 g9.fst, Value.int IntKind.i32 g9.snd] ∧
True ∧
∀ (x8 : Bool) (w'8 : World),
x8 = sylB g9.fst g9.snd ∧ Ext w'7 w'8 →
bcase x8 (∃ (c : Nat), (1 : Int) = (↑c : Int) ∧ goB g (0 : Nat) c = true ∧ Ext w'2 w'8)
(∃ (x9 : Nat), Value.int IntKind.i64 (↑x.snd : Int) = Value.int IntKind.i64 (↑x9 : Int) ∧ x9 = nextL g ∧ Ext w w'8)))
(∃ (g8 : Int × Int),
#[Value.int IntKind.i32 x.fst, Value.int IntKind.i32 x2.fst] =
#[Value.int IntKind.i32 g8.fst, Value.int IntKind.i32 g8.snd] ∧
True ∧
∀ (x7 : Bool) (w'7 : World),
x7 = sylB g8.fst g8.snd ∧ Ext w'6 w'7 →
bcase x7 (∃ (c : Nat), (1 : Int) = (↑c : Int) ∧ goB g (0 : Nat) c = true ∧ Ext w'2 w'7)
(∃ (x8 : Nat), Value.int IntKind.i64 (↑x.snd : Int) = Value.int IntKind.i64 (↑x8 : Int) ∧ x8 = nextL g ∧ Ext w w'7)))
(∃ (g7 : Int × Int),
#[Value.int IntKind.i32 x.fst, Value.int IntKind.i32 x2.fst] =
#[Value.int IntKind.i32 g7.fst, Value.int IntKind.i32 g7.snd] ∧
True ∧
∀ (x6 : Bool) (w'6 : World),
x6 = sylB g7.fst g7.snd ∧ Ext w'5 w'6 →
bcase x6 (∃ (c : Nat), (1 : Int) = (↑c : Int) ∧ goB g (0 : Nat) c = true ∧ Ext w'2 w'6)
(∃ (x7 : Nat), Value.int IntKind.i64 (↑x.snd : Int) = Value.int IntKind.i64 (↑x7 : Int) ∧ x7 = nextL g ∧ Ext w w'6))))
(bcase (x.fst == (8205 : Int))
(∃ (g6 : Int),
#[Value.int IntKind.i32 x.fst] = #[Value.int IntKind.i32 g6] ∧
True ∧
∀ (x5 : Bool) (w'5 : World),
x5 = picB g6 ∧ Ext w'4 w'5 →
bcase x5
(∃ (g7 : Int),
#[Value.int IntKind.i32 x2.fst] = #[Value.int IntKind.i32 g7] ∧
True ∧
∀ (x6 : Bool) (w'6 : World),
x6 = picB g7 ∧ Ext w'5 w'6 →
bcase x6 (∃ (c : Nat), (1 : Int) = (↑c : Int) ∧ goB g (0 : Nat) c = true ∧ Ext w'2 w'6)
(∃ (g8 : Int × Int),
#[Value.int IntKind.i32 x.fst, Value.int IntKind.i32 x2.fst] =
#[Value.int IntKind.i32 g8.fst, Value.int IntKind.i32 g8.snd] ∧
True ∧
∀ (x7 : Bool) (w'7 : World),
x7 = sylB g8.fst g8.snd ∧ Ext w'6 w'7 →
bcase x7 (∃ (c : Nat), (1 : Int) = (↑c : Int) ∧ goB g (0 : Nat) c = true ∧ Ext w'2 w'7)
(∃ (x8 : Nat), Value.int IntKind.i64 (↑x.snd : Int) = Value.int IntKind.i64 (↑x8 : Int) ∧ x8 = nextL g ∧ Ext w w'7)))
(∃ (g7 : Int × Int),
#[Value.int IntKind.i32 x.fst, Value.int IntKind.i32 x2.fst] =
#[Value.int IntKind.i32 g7.fst, Value.int IntKind.i32 g7.snd] ∧
True ∧
∀ (x6 : Bool) (w'6 : World),
x6 = sylB g7.fst g7.snd ∧ Ext w'5 w'6 →
bcase x6 (∃ (c : Nat), (1 : Int) = (↑c : Int) ∧ goB g (0 : Nat) c = true ∧ Ext w'2 w'6)
(∃ (x7 : Nat), Value.int IntKind.i64 (↑x.snd : Int) = Value.int IntKind.i64 (↑x7 : Int) ∧ x7 = nextL g ∧ Ext w w'6)))
(∃ (g6 : Int × Int),
#[Value.int IntKind.i32 x.fst, Value.int IntKind.i32 x2.fst] =
#[Value.int IntKind.i32 g6.fst, Value.int IntKind.i32 g6.snd] ∧
True ∧
∀ (x5 : Bool) (w'5 : World),
x5 = sylB g6.fst g6.snd ∧ Ext w'4 w'5 →
bcase x5 (∃ (c : Nat), (1 : Int) = (↑c : Int) ∧ goB g (0 : Nat) c = true ∧ Ext w'2 w'5)
(∃ (x6 : Nat), Value.int IntKind.i64 (↑x.snd : Int) = Value.int IntKind.i64 (↑x6 : Int) ∧ x6 = nextL g ∧ Ext w w'5)))))
(∃ (g5 : Int),
#[Value.int IntKind.i32 x2.fst] = #[Value.int IntKind.i32 g5] ∧
True ∧
∀ (x4 : Bool) (w'4 : World),
x4 = joinB g5 ∧ Ext w'3 w'4 →
bcase x4 (∃ (c : Nat), (1 : Int) = (↑c : Int) ∧ goB g (0 : Nat) c = true ∧ Ext w'2 w'4)
(∃ (g6 : Int),
#[Value.int IntKind.i32 x.fst] = #[Value.int IntKind.i32 g6] ∧
True ∧
∀ (x5 : Bool) (w'5 : World),
x5 = regB g6 ∧ Ext w'4 w'5 →
bcase x5
(∃ (g7 : Int),
#[Value.int IntKind.i32 x2.fst] = #[Value.int IntKind.i32 g7] ∧
True ∧
∀ (x6 : Bool) (w'6 : World),
x6 = regB g7 ∧ Ext w'5 w'6 →
bcase x6 (∃ (c : Nat), (1 : Int) = (↑c : Int) ∧ goB g (0 : Nat) c = true ∧ Ext w'2 w'6)
(bcase (x.fst == (8205 : Int))
(∃ (g8 : Int),
#[Value.int IntKind.i32 x.fst] = #[Value.int IntKind.i32 g8] ∧
True ∧
∀ (x7 : Bool) (w'7 : World),
x7 = picB g8 ∧ Ext w'6 w'7 →
bcase x7
(∃ (g9 : Int),
#[Value.int IntKind.i32 x2.fst] = #[Value.int IntKind.i32 g9] ∧
True ∧
∀ (x8 : Bool) (w'8 : World),
x8 = picB g9 ∧ Ext w'7 w'8 →
bcase x8 (∃ (c : Nat), (1 : Int) = (↑c : Int) ∧ goB g (0 : Nat) c = true ∧ Ext w'2 w'8)
(∃ (g10 : Int × Int),
#[Value.int IntKind.i32 x.fst, Value.int IntKind.i32 x2.fst] =
#[Value.int IntKind.i32 g10.fst, Value.int IntKind.i32 g10.snd] ∧
True ∧
∀ (x9 : Bool) (w'9 : World),
x9 = sylB g10.fst g10.snd ∧ Ext w'8 w'9 →
bcase x9 (∃ (c : Nat), (1 : Int) = (↑c : Int) ∧ goB g (0 : Nat) c = true ∧ Ext w'2 w'9)
(∃ (x10 : Nat), Value.int IntKind.i64 (↑x.snd : Int) = Value.int IntKind.i64 (↑x10 : Int) ∧ x10 = nextL g ∧ Ext w w'9)))
(∃ (g9 : Int × Int),
#[Value.int IntKind.i32 x.fst, Value.int IntKind.i32 x2.fst] =
#[Value.int IntKind.i32 g9.fst, Value.int IntKind.i32 g9.snd] ∧
True ∧
∀ (x8 : Bool) (w'8 : World),
x8 = sylB g9.fst g9.snd ∧ Ext w'7 w'8 →
bcase x8 (∃ (c : Nat), (1 : Int) = (↑c : Int) ∧ goB g (0 : Nat) c = true ∧ Ext w'2 w'8)
(∃ (x9 : Nat), Value.int IntKind.i64 (↑x.snd : Int) = Value.int IntKind.i64 (↑x9 : Int) ∧ x9 = nextL g ∧ Ext w w'8)))
(∃ (g8 : Int × Int),
#[Value.int IntKind.i32 x.fst, Value.int IntKind.i32 x2.fst] =
#[Value.int IntKind.i32 g8.fst, Value.int IntKind.i32 g8.snd] ∧
True ∧
∀ (x7 : Bool) (w'7 : World),
x7 = sylB g8.fst g8.snd ∧ Ext w'6 w'7 →
bcase x7 (∃ (c : Nat), (1 : Int) = (↑c : Int) ∧ goB g (0 : Nat) c = true ∧ Ext w'2 w'7)
(∃ (x8 : Nat), Value.int IntKind.i64 (↑x.snd : Int) = Value.int IntKind.i64 (↑x8 : Int) ∧ x8 = nextL g ∧ Ext w w'7))))
(bcase (x.fst == (8205 : Int))
(∃ (g7 : Int),
#[Value.int IntKind.i32 x.fst] = #[Value.int IntKind.i32 g7] ∧
True ∧
∀ (x6 : Bool) (w'6 : World),
x6 = picB g7 ∧ Ext w'5 w'6 →
bcase x6
(∃ (g8 : Int),
#[Value.int IntKind.i32 x2.fst] = #[Value.int IntKind.i32 g8] ∧
True ∧
∀ (x7 : Bool) (w'7 : World),
x7 = picB g8 ∧ Ext w'6 w'7 →
bcase x7 (∃ (c : Nat), (1 : Int) = (↑c : Int) ∧ goB g (0 : Nat) c = true ∧ Ext w'2 w'7)
(∃ (g9 : Int × Int),
#[Value.int IntKind.i32 x.fst, Value.int IntKind.i32 x2.fst] =
#[Value.int IntKind.i32 g9.fst, Value.int IntKind.i32 g9.snd] ∧
True ∧
∀ (x8 : Bool) (w'8 : World),
x8 = sylB g9.fst g9.snd ∧ Ext w'7 w'8 →
bcase x8 (∃ (c : Nat), (1 : Int) = (↑c : Int) ∧ goB g (0 : Nat) c = true ∧ Ext w'2 w'8)
(∃ (x9 : Nat), Value.int IntKind.i64 (↑x.snd : Int) = Value.int IntKind.i64 (↑x9 : Int) ∧ x9 = nextL g ∧ Ext w w'8)))
(∃ (g8 : Int × Int),
#[Value.int IntKind.i32 x.fst, Value.int IntKind.i32 x2.fst] =
#[Value.int IntKind.i32 g8.fst, Value.int IntKind.i32 g8.snd] ∧
True ∧
∀ (x7 : Bool) (w'7 : World),
x7 = sylB g8.fst g8.snd ∧ Ext w'6 w'7 →
bcase x7 (∃ (c : Nat), (1 : Int) = (↑c : Int) ∧ goB g (0 : Nat) c = true ∧ Ext w'2 w'7)
(∃ (x8 : Nat), Value.int IntKind.i64 (↑x.snd : Int) = Value.int IntKind.i64 (↑x8 : Int) ∧ x8 = nextL g ∧ Ext w w'7)))
(∃ (g7 : Int × Int),
#[Value.int IntKind.i32 x.fst, Value.int IntKind.i32 x2.fst] =
#[Value.int IntKind.i32 g7.fst, Value.int IntKind.i32 g7.snd] ∧
True ∧
∀ (x6 : Bool) (w'6 : World),
x6 = sylB g7.fst g7.snd ∧ Ext w'5 w'6 →
bcase x6 (∃ (c : Nat), (1 : Int) = (↑c : Int) ∧ goB g (0 : Nat) c = true ∧ Ext w'2 w'6)
(∃ (x7 : Nat),
Value.int IntKind.i64 (↑x.snd : Int) = Value.int IntKind.i64 (↑x7 : Int) ∧ x7 = nextL g ∧ Ext w w'6)))))) ∧
∀ (u : Nat → Value) (c : Nat) (w'3 : World),
(1 : Int) = (↑c : Int) ∧ goB g (0 : Nat) c = true ∧ Ext w'2 w'3 →
InR IntKind.i64 ((1 : Int) + (1 : Int)) ∧
InR IntKind.i64 ((↑x.snd : Int) + (↑x2.snd : Int)) ∧
∃ (y : Nat),
Value.int IntKind.i32 x.fst = Value.int IntKind.i32 (sg g (0 : Nat)) ∧
Value.int IntKind.i32 x2.fst = Value.int IntKind.i32 (sg g (y - (1 : Nat))) ∧
Value.int IntKind.i64 (2 : Int) = Value.int IntKind.i64 (↑y : Int) ∧
Value.int IntKind.i64 ((↑x.snd : Int) + (↑x2.snd : Int)) = Value.int IntKind.i64 (↑(pos g y) : Int) ∧
(1 : Nat) ≤ y ∧
y ≤ cnt g ∧ y ≤ (32 : Nat) ∧ (0 : Nat) < g.size ∧ goN g (0 : Nat) ((33 : Nat) - y) y = firstN g (0 : Nat) ∧ Ext w w'3)))
(∃ (g2 : Int),
#[Value.int IntKind.i32 x.fst] = #[Value.int IntKind.i32 g2] ∧
True ∧
∀ (x1 : Bool) (w'1 : World),
x1 = aloneB g2 ∧ Ext w' w'1 →
bcase x1
(∃ (y : Unit),
Value.int IntKind.i32 x.fst = Value.int IntKind.i32 (sg g (0 : Nat)) ∧
Value.int IntKind.i64 (↑x.snd : Int) = Value.int IntKind.i64 (↑(pos g (1 : Nat)) : Int) ∧
(0 : Nat) < g.size ∧ (isBad g (0 : Nat) = true ∨ aloneB (sg g (0 : Nat)) = true) ∧ Ext w w'1)
(∃ (k : Nat),
(↑x.snd : Int) = (↑k : Int) ∧
k ≤ g.size ∧
g.size ≤ g.size ∧
∃ (g3 : ByteArray),
#[Value.string (g.extract k g.size)] = #[Value.string g3] ∧
(U8 w'1 ∧ g3.size ≤ (67108864 : Nat)) ∧
∀ (x2 : Int × Nat) (w'2 : World),
x2.fst = nxR g3 ∧ x2.snd = nxN g3 ∧ Ext w'1 w'2 →
bcase ((↑x.snd : Int) == (↑g.size : Int) || x2.fst == (65533 : Int) && (↑x2.snd : Int) == (1 : Int))
(∃ (x3 : Nat), Value.int IntKind.i64 (↑x.snd : Int) = Value.int IntKind.i64 (↑x3 : Int) ∧ x3 = nextL g ∧ Ext w w'2)
(∃ (g4 : Int),
#[Value.int IntKind.i32 x2.fst] = #[Value.int IntKind.i32 g4] ∧
True ∧
∀ (x3 : Int) (w'3 : World),
x3 = kindR g4 ∧ Ext w'2 w'3 →
bcase (x3 == (2 : Int))
(bcase (x3 == (2 : Int)) (∃ (c : Nat), (1 : Int) = (↑c : Int) ∧ goB g (0 : Nat) c = true ∧ Ext w'2 w'3)
(∃ (g5 : Int),
#[Value.int IntKind.i32 x.fst] = #[Value.int IntKind.i32 g5] ∧
True ∧
∀ (x4 : Bool) (w'4 : World),
x4 = regB g5 ∧ Ext w'3 w'4 →
bcase x4
(∃ (g6 : Int),
#[Value.int IntKind.i32 x2.fst] = #[Value.int IntKind.i32 g6] ∧
True ∧
∀ (x5 : Bool) (w'5 : World),
x5 = regB g6 ∧ Ext w'4 w'5 →
bcase x5 (∃ (c : Nat), (1 : Int) = (↑c : Int) ∧ goB g (0 : Nat) c = true ∧ Ext w'2 w'5)
(bcase (x.fst == (8205 : Int))
(∃ (g7 : Int),
#[Value.int IntKind.i32 x.fst] = #[Value.int IntKind.i32 g7] ∧
True ∧
∀ (x6 : Bool) (w'6 : World),
x6 = picB g7 ∧ Ext w'5 w'6 →
bcase x6
(∃ (g8 : Int),
#[Value.int IntKind.i32 x2.fst] = #[Value.int IntKind.i32 g8] ∧
True ∧
∀ (x7 : Bool) (w'7 : World),
x7 = picB g8 ∧ Ext w'6 w'7 →
bcase x7 (∃ (c : Nat), (1 : Int) = (↑c : Int) ∧ goB g (0 : Nat) c = true ∧ Ext w'2 w'7)
(∃ (g9 : Int × Int),
#[Value.int IntKind.i32 x.fst, Value.int IntKind.i32 x2.fst] =
#[Value.int IntKind.i32 g9.fst, Value.int IntKind.i32 g9.snd] ∧
True ∧
∀ (x8 : Bool) (w'8 : World),
x8 = sylB g9.fst g9.snd ∧ Ext w'7 w'8 →
bcase x8 (∃ (c : Nat), (1 : Int) = (↑c : Int) ∧ goB g (0 : Nat) c = true ∧ Ext w'2 w'8)
(∃ (x9 : Nat), Value.int IntKind.i64 (↑x.snd : Int) = Value.int IntKind.i64 (↑x9 : Int) ∧ x9 = nextL g ∧ Ext w w'8)))
(∃ (g8 : Int × Int),
#[Value.int IntKind.i32 x.fst, Value.int IntKind.i32 x2.fst] =
#[Value.int IntKind.i32 g8.fst, Value.int IntKind.i32 g8.snd] ∧
True ∧
∀ (x7 : Bool) (w'7 : World),
x7 = sylB g8.fst g8.snd ∧ Ext w'6 w'7 →
bcase x7 (∃ (c : Nat), (1 : Int) = (↑c : Int) ∧ goB g (0 : Nat) c = true ∧ Ext w'2 w'7)
(∃ (x8 : Nat), Value.int IntKind.i64 (↑x.snd : Int) = Value.int IntKind.i64 (↑x8 : Int) ∧ x8 = nextL g ∧ Ext w w'7)))
(∃ (g7 : Int × Int),
#[Value.int IntKind.i32 x.fst, Value.int IntKind.i32 x2.fst] =
#[Value.int IntKind.i32 g7.fst, Value.int IntKind.i32 g7.snd] ∧
True ∧
∀ (x6 : Bool) (w'6 : World),
x6 = sylB g7.fst g7.snd ∧ Ext w'5 w'6 →
bcase x6 (∃ (c : Nat), (1 : Int) = (↑c : Int) ∧ goB g (0 : Nat) c = true ∧ Ext w'2 w'6)
(∃ (x7 : Nat), Value.int IntKind.i64 (↑x.snd : Int) = Value.int IntKind.i64 (↑x7 : Int) ∧ x7 = nextL g ∧ Ext w w'6))))
(bcase (x.fst == (8205 : Int))
(∃ (g6 : Int),
#[Value.int IntKind.i32 x.fst] = #[Value.int IntKind.i32 g6] ∧
True ∧
∀ (x5 : Bool) (w'5 : World),
x5 = picB g6 ∧ Ext w'4 w'5 →
bcase x5
(∃ (g7 : Int),
#[Value.int IntKind.i32 x2.fst] = #[Value.int IntKind.i32 g7] ∧
True ∧
∀ (x6 : Bool) (w'6 : World),
x6 = picB g7 ∧ Ext w'5 w'6 →
bcase x6 (∃ (c : Nat), (1 : Int) = (↑c : Int) ∧ goB g (0 : Nat) c = true ∧ Ext w'2 w'6)
(∃ (g8 : Int × Int),
#[Value.int IntKind.i32 x.fst, Value.int IntKind.i32 x2.fst] =
#[Value.int IntKind.i32 g8.fst, Value.int IntKind.i32 g8.snd] ∧
True ∧
∀ (x7 : Bool) (w'7 : World),
x7 = sylB g8.fst g8.snd ∧ Ext w'6 w'7 →
bcase x7 (∃ (c : Nat), (1 : Int) = (↑c : Int) ∧ goB g (0 : Nat) c = true ∧ Ext w'2 w'7)
(∃ (x8 : Nat), Value.int IntKind.i64 (↑x.snd : Int) = Value.int IntKind.i64 (↑x8 : Int) ∧ x8 = nextL g ∧ Ext w w'7)))
(∃ (g7 : Int × Int),
#[Value.int IntKind.i32 x.fst, Value.int IntKind.i32 x2.fst] =
#[Value.int IntKind.i32 g7.fst, Value.int IntKind.i32 g7.snd] ∧
True ∧
∀ (x6 : Bool) (w'6 : World),
x6 = sylB g7.fst g7.snd ∧ Ext w'5 w'6 →
bcase x6 (∃ (c : Nat), (1 : Int) = (↑c : Int) ∧ goB g (0 : Nat) c = true ∧ Ext w'2 w'6)
(∃ (x7 : Nat), Value.int IntKind.i64 (↑x.snd : Int) = Value.int IntKind.i64 (↑x7 : Int) ∧ x7 = nextL g ∧ Ext w w'6)))
(∃ (g6 : Int × Int),
#[Value.int IntKind.i32 x.fst, Value.int IntKind.i32 x2.fst] =
#[Value.int IntKind.i32 g6.fst, Value.int IntKind.i32 g6.snd] ∧
True ∧
∀ (x5 : Bool) (w'5 : World),
x5 = sylB g6.fst g6.snd ∧ Ext w'4 w'5 →
bcase x5 (∃ (c : Nat), (1 : Int) = (↑c : Int) ∧ goB g (0 : Nat) c = true ∧ Ext w'2 w'5)
(∃ (x6 : Nat), Value.int IntKind.i64 (↑x.snd : Int) = Value.int IntKind.i64 (↑x6 : Int) ∧ x6 = nextL g ∧ Ext w w'5)))))
(∃ (g5 : Int),
#[Value.int IntKind.i32 x2.fst] = #[Value.int IntKind.i32 g5] ∧
True ∧
∀ (x4 : Bool) (w'4 : World),
x4 = joinB g5 ∧ Ext w'3 w'4 →
bcase x4 (∃ (c : Nat), (1 : Int) = (↑c : Int) ∧ goB g (0 : Nat) c = true ∧ Ext w'2 w'4)
(∃ (g6 : Int),
#[Value.int IntKind.i32 x.fst] = #[Value.int IntKind.i32 g6] ∧
True ∧
∀ (x5 : Bool) (w'5 : World),
x5 = regB g6 ∧ Ext w'4 w'5 →
bcase x5
(∃ (g7 : Int),
#[Value.int IntKind.i32 x2.fst] = #[Value.int IntKind.i32 g7] ∧
True ∧
∀ (x6 : Bool) (w'6 : World),
x6 = regB g7 ∧ Ext w'5 w'6 →
bcase x6 (∃ (c : Nat), (1 : Int) = (↑c : Int) ∧ goB g (0 : Nat) c = true ∧ Ext w'2 w'6)
(bcase (x.fst == (8205 : Int))
(∃ (g8 : Int),
#[Value.int IntKind.i32 x.fst] = #[Value.int IntKind.i32 g8] ∧
True ∧
∀ (x7 : Bool) (w'7 : World),
x7 = picB g8 ∧ Ext w'6 w'7 →
bcase x7
(∃ (g9 : Int),
#[Value.int IntKind.i32 x2.fst] = #[Value.int IntKind.i32 g9] ∧
True ∧
∀ (x8 : Bool) (w'8 : World),
x8 = picB g9 ∧ Ext w'7 w'8 →
bcase x8 (∃ (c : Nat), (1 : Int) = (↑c : Int) ∧ goB g (0 : Nat) c = true ∧ Ext w'2 w'8)
(∃ (g10 : Int × Int),
#[Value.int IntKind.i32 x.fst, Value.int IntKind.i32 x2.fst] =
#[Value.int IntKind.i32 g10.fst, Value.int IntKind.i32 g10.snd] ∧
True ∧
∀ (x9 : Bool) (w'9 : World),
x9 = sylB g10.fst g10.snd ∧ Ext w'8 w'9 →
bcase x9 (∃ (c : Nat), (1 : Int) = (↑c : Int) ∧ goB g (0 : Nat) c = true ∧ Ext w'2 w'9)
(∃ (x10 : Nat), Value.int IntKind.i64 (↑x.snd : Int) = Value.int IntKind.i64 (↑x10 : Int) ∧ x10 = nextL g ∧ Ext w w'9)))
(∃ (g9 : Int × Int),
#[Value.int IntKind.i32 x.fst, Value.int IntKind.i32 x2.fst] =
#[Value.int IntKind.i32 g9.fst, Value.int IntKind.i32 g9.snd] ∧
True ∧
∀ (x8 : Bool) (w'8 : World),
x8 = sylB g9.fst g9.snd ∧ Ext w'7 w'8 →
bcase x8 (∃ (c : Nat), (1 : Int) = (↑c : Int) ∧ goB g (0 : Nat) c = true ∧ Ext w'2 w'8)
(∃ (x9 : Nat), Value.int IntKind.i64 (↑x.snd : Int) = Value.int IntKind.i64 (↑x9 : Int) ∧ x9 = nextL g ∧ Ext w w'8)))
(∃ (g8 : Int × Int),
#[Value.int IntKind.i32 x.fst, Value.int IntKind.i32 x2.fst] =
#[Value.int IntKind.i32 g8.fst, Value.int IntKind.i32 g8.snd] ∧
True ∧
∀ (x7 : Bool) (w'7 : World),
x7 = sylB g8.fst g8.snd ∧ Ext w'6 w'7 →
bcase x7 (∃ (c : Nat), (1 : Int) = (↑c : Int) ∧ goB g (0 : Nat) c = true ∧ Ext w'2 w'7)
(∃ (x8 : Nat), Value.int IntKind.i64 (↑x.snd : Int) = Value.int IntKind.i64 (↑x8 : Int) ∧ x8 = nextL g ∧ Ext w w'7))))
(bcase (x.fst == (8205 : Int))
(∃ (g7 : Int),
#[Value.int IntKind.i32 x.fst] = #[Value.int IntKind.i32 g7] ∧
True ∧
∀ (x6 : Bool) (w'6 : World),
x6 = picB g7 ∧ Ext w'5 w'6 →
bcase x6
(∃ (g8 : Int),
#[Value.int IntKind.i32 x2.fst] = #[Value.int IntKind.i32 g8] ∧
True ∧
∀ (x7 : Bool) (w'7 : World),
x7 = picB g8 ∧ Ext w'6 w'7 →
bcase x7 (∃ (c : Nat), (1 : Int) = (↑c : Int) ∧ goB g (0 : Nat) c = true ∧ Ext w'2 w'7)
(∃ (g9 : Int × Int),
#[Value.int IntKind.i32 x.fst, Value.int IntKind.i32 x2.fst] =
#[Value.int IntKind.i32 g9.fst, Value.int IntKind.i32 g9.snd] ∧
True ∧
∀ (x8 : Bool) (w'8 : World),
x8 = sylB g9.fst g9.snd ∧ Ext w'7 w'8 →
bcase x8 (∃ (c : Nat), (1 : Int) = (↑c : Int) ∧ goB g (0 : Nat) c = true ∧ Ext w'2 w'8)
(∃ (x9 : Nat), Value.int IntKind.i64 (↑x.snd : Int) = Value.int IntKind.i64 (↑x9 : Int) ∧ x9 = nextL g ∧ Ext w w'8)))
(∃ (g8 : Int × Int),
#[Value.int IntKind.i32 x.fst, Value.int IntKind.i32 x2.fst] =
#[Value.int IntKind.i32 g8.fst, Value.int IntKind.i32 g8.snd] ∧
True ∧
∀ (x7 : Bool) (w'7 : World),
x7 = sylB g8.fst g8.snd ∧ Ext w'6 w'7 →
bcase x7 (∃ (c : Nat), (1 : Int) = (↑c : Int) ∧ goB g (0 : Nat) c = true ∧ Ext w'2 w'7)
(∃ (x8 : Nat), Value.int IntKind.i64 (↑x.snd : Int) = Value.int IntKind.i64 (↑x8 : Int) ∧ x8 = nextL g ∧ Ext w w'7)))
(∃ (g7 : Int × Int),
#[Value.int IntKind.i32 x.fst, Value.int IntKind.i32 x2.fst] =
#[Value.int IntKind.i32 g7.fst, Value.int IntKind.i32 g7.snd] ∧
True ∧
∀ (x6 : Bool) (w'6 : World),
x6 = sylB g7.fst g7.snd ∧ Ext w'5 w'6 →
bcase x6 (∃ (c : Nat), (1 : Int) = (↑c : Int) ∧ goB g (0 : Nat) c = true ∧ Ext w'2 w'6)
(∃ (x7 : Nat),
Value.int IntKind.i64 (↑x.snd : Int) = Value.int IntKind.i64 (↑x7 : Int) ∧ x7 = nextL g ∧ Ext w w'6)))))) ∧
∀ (u : Nat → Value) (c : Nat) (w'3 : World),
(1 : Int) = (↑c : Int) ∧ goB g (0 : Nat) c = true ∧ Ext w'2 w'3 →
InR IntKind.i64 ((1 : Int) + (1 : Int)) ∧
InR IntKind.i64 ((↑x.snd : Int) + (↑x2.snd : Int)) ∧
∃ (y : Nat),
Value.int IntKind.i32 x.fst = Value.int IntKind.i32 (sg g (0 : Nat)) ∧
Value.int IntKind.i32 x2.fst = Value.int IntKind.i32 (sg g (y - (1 : Nat))) ∧
Value.int IntKind.i64 (2 : Int) = Value.int IntKind.i64 (↑y : Int) ∧
Value.int IntKind.i64 ((↑x.snd : Int) + (↑x2.snd : Int)) = Value.int IntKind.i64 (↑(pos g y) : Int) ∧
(1 : Nat) ≤ y ∧
y ≤ cnt g ∧
y ≤ (32 : Nat) ∧ (0 : Nat) < g.size ∧ goN g (0 : Nat) ((33 : Nat) - y) y = firstN g (0 : Nat) ∧ Ext w w'3)))) ∧
(∀ (u : Nat → Value) (x : Nat) (w' : World),
(1 : Nat) ≤ x ∧
x ≤ cnt g ∧ x ≤ (32 : Nat) ∧ (0 : Nat) < g.size ∧ goN g (0 : Nat) ((33 : Nat) - x) x = firstN g (0 : Nat) ∧ Ext w w' →
bcase ((↑x : Int) == (32 : Int))
(∃ (x1 : Nat), Value.int IntKind.i64 (↑(pos g x) : Int) = Value.int IntKind.i64 (↑x1 : Int) ∧ x1 = nextL g ∧ Ext w w')
(∃ (k : Nat),
(↑(pos g x) : Int) = (↑k : Int) ∧
k ≤ g.size ∧
g.size ≤ g.size ∧
∃ (g1 : ByteArray),
#[Value.string (g.extract k g.size)] = #[Value.string g1] ∧
(U8 w' ∧ g1.size ≤ (67108864 : Nat)) ∧
∀ (x1 : Int × Nat) (w'1 : World),
x1.fst = nxR g1 ∧ x1.snd = nxN g1 ∧ Ext w' w'1 →
bcase ((↑(pos g x) : Int) == (↑g.size : Int) || x1.fst == (65533 : Int) && (↑x1.snd : Int) == (1 : Int))
(∃ (x2 : Nat), Value.int IntKind.i64 (↑(pos g x) : Int) = Value.int IntKind.i64 (↑x2 : Int) ∧ x2 = nextL g ∧ Ext w w'1)
(∃ (g2 : Int),
#[Value.int IntKind.i32 x1.fst] = #[Value.int IntKind.i32 g2] ∧
True ∧
∀ (x2 : Int) (w'2 : World),
x2 = kindR g2 ∧ Ext w'1 w'2 →
bcase (x2 == (2 : Int))
(bcase (x2 == (2 : Int)) (∃ (c : Nat), (↑x : Int) = (↑c : Int) ∧ goB g (0 : Nat) c = true ∧ Ext w'1 w'2)
(bcase ((↑x : Int) == (1 : Int))
(∃ (g3 : Int),
#[Value.int IntKind.i32 (sg g (0 : Nat))] = #[Value.int IntKind.i32 g3] ∧
True ∧
∀ (x3 : Bool) (w'3 : World),
x3 = regB g3 ∧ Ext w'2 w'3 →
bcase x3
(∃ (g4 : Int),
#[Value.int IntKind.i32 x1.fst] = #[Value.int IntKind.i32 g4] ∧
True ∧
∀ (x4 : Bool) (w'4 : World),
x4 = regB g4 ∧ Ext w'3 w'4 →
bcase x4 (∃ (c : Nat), (↑x : Int) = (↑c : Int) ∧ goB g (0 : Nat) c = true ∧ Ext w'1 w'4)
(bcase (sg g (x - (1 : Nat)) == (8205 : Int))
(∃ (g5 : Int),
#[Value.int IntKind.i32 (sg g (0 : Nat))] = #[Value.int IntKind.i32 g5] ∧
True ∧
∀ (x5 : Bool) (w'5 : World),
x5 = picB g5 ∧ Ext w'4 w'5 →
bcase x5
(∃ (g6 : Int),
#[Value.int IntKind.i32 x1.fst] = #[Value.int IntKind.i32 g6] ∧
True ∧
∀ (x6 : Bool) (w'6 : World),
x6 = picB g6 ∧ Ext w'5 w'6 →
bcase x6 (∃ (c : Nat), (↑x : Int) = (↑c : Int) ∧ goB g (0 : Nat) c = true ∧ Ext w'1 w'6)
(∃ (g7 : Int × Int),
#[Value.int IntKind.i32 (sg g (x - (1 : Nat))), Value.int IntKind.i32 x1.fst] =
#[Value.int IntKind.i32 g7.fst, Value.int IntKind.i32 g7.snd] ∧
True ∧
∀ (x7 : Bool) (w'7 : World),
x7 = sylB g7.fst g7.snd ∧ Ext w'6 w'7 →
bcase x7 (∃ (c : Nat), (↑x : Int) = (↑c : Int) ∧ goB g (0 : Nat) c = true ∧ Ext w'1 w'7)
(∃ (x8 : Nat),
Value.int IntKind.i64 (↑(pos g x) : Int) = Value.int IntKind.i64 (↑x8 : Int) ∧ x8 = nextL g ∧ Ext w w'7)))
(∃ (g6 : Int × Int),
#[Value.int IntKind.i32 (sg g (x - (1 : Nat))), Value.int IntKind.i32 x1.fst] =
#[Value.int IntKind.i32 g6.fst, Value.int IntKind.i32 g6.snd] ∧
True ∧
∀ (x6 : Bool) (w'6 : World),
x6 = sylB g6.fst g6.snd ∧ Ext w'5 w'6 →
bcase x6 (∃ (c : Nat), (↑x : Int) = (↑c : Int) ∧ goB g (0 : Nat) c = true ∧ Ext w'1 w'6)
(∃ (x7 : Nat),
Value.int IntKind.i64 (↑(pos g x) : Int) = Value.int IntKind.i64 (↑x7 : Int) ∧ x7 = nextL g ∧ Ext w w'6)))
(∃ (g5 : Int × Int),
#[Value.int IntKind.i32 (sg g (x - (1 : Nat))), Value.int IntKind.i32 x1.fst] =
#[Value.int IntKind.i32 g5.fst, Value.int IntKind.i32 g5.snd] ∧
True ∧
∀ (x5 : Bool) (w'5 : World),
x5 = sylB g5.fst g5.snd ∧ Ext w'4 w'5 →
bcase x5 (∃ (c : Nat), (↑x : Int) = (↑c : Int) ∧ goB g (0 : Nat) c = true ∧ Ext w'1 w'5)
(∃ (x6 : Nat),
Value.int IntKind.i64 (↑(pos g x) : Int) = Value.int IntKind.i64 (↑x6 : Int) ∧ x6 = nextL g ∧ Ext w w'5))))
(bcase (sg g (x - (1 : Nat)) == (8205 : Int))
(∃ (g4 : Int),
#[Value.int IntKind.i32 (sg g (0 : Nat))] = #[Value.int IntKind.i32 g4] ∧
True ∧
∀ (x4 : Bool) (w'4 : World),
x4 = picB g4 ∧ Ext w'3 w'4 →
bcase x4
(∃ (g5 : Int),
#[Value.int IntKind.i32 x1.fst] = #[Value.int IntKind.i32 g5] ∧
True ∧
∀ (x5 : Bool) (w'5 : World),
x5 = picB g5 ∧ Ext w'4 w'5 →
bcase x5 (∃ (c : Nat), (↑x : Int) = (↑c : Int) ∧ goB g (0 : Nat) c = true ∧ Ext w'1 w'5)
(∃ (g6 : Int × Int),
#[Value.int IntKind.i32 (sg g (x - (1 : Nat))), Value.int IntKind.i32 x1.fst] =
#[Value.int IntKind.i32 g6.fst, Value.int IntKind.i32 g6.snd] ∧
True ∧
∀ (x6 : Bool) (w'6 : World),
x6 = sylB g6.fst g6.snd ∧ Ext w'5 w'6 →
bcase x6 (∃ (c : Nat), (↑x : Int) = (↑c : Int) ∧ goB g (0 : Nat) c = true ∧ Ext w'1 w'6)
(∃ (x7 : Nat),
Value.int IntKind.i64 (↑(pos g x) : Int) = Value.int IntKind.i64 (↑x7 : Int) ∧ x7 = nextL g ∧ Ext w w'6)))
(∃ (g5 : Int × Int),
#[Value.int IntKind.i32 (sg g (x - (1 : Nat))), Value.int IntKind.i32 x1.fst] =
#[Value.int IntKind.i32 g5.fst, Value.int IntKind.i32 g5.snd] ∧
True ∧
∀ (x5 : Bool) (w'5 : World),
x5 = sylB g5.fst g5.snd ∧ Ext w'4 w'5 →
bcase x5 (∃ (c : Nat), (↑x : Int) = (↑c : Int) ∧ goB g (0 : Nat) c = true ∧ Ext w'1 w'5)
(∃ (x6 : Nat),
Value.int IntKind.i64 (↑(pos g x) : Int) = Value.int IntKind.i64 (↑x6 : Int) ∧ x6 = nextL g ∧ Ext w w'5)))
(∃ (g4 : Int × Int),
#[Value.int IntKind.i32 (sg g (x - (1 : Nat))), Value.int IntKind.i32 x1.fst] =
#[Value.int IntKind.i32 g4.fst, Value.int IntKind.i32 g4.snd] ∧
True ∧
∀ (x4 : Bool) (w'4 : World),
x4 = sylB g4.fst g4.snd ∧ Ext w'3 w'4 →
bcase x4 (∃ (c : Nat), (↑x : Int) = (↑c : Int) ∧ goB g (0 : Nat) c = true ∧ Ext w'1 w'4)
(∃ (x5 : Nat),
Value.int IntKind.i64 (↑(pos g x) : Int) = Value.int IntKind.i64 (↑x5 : Int) ∧ x5 = nextL g ∧ Ext w w'4))))
(bcase (sg g (x - (1 : Nat)) == (8205 : Int))
(∃ (g3 : Int),
#[Value.int IntKind.i32 (sg g (0 : Nat))] = #[Value.int IntKind.i32 g3] ∧
True ∧
∀ (x3 : Bool) (w'3 : World),
x3 = picB g3 ∧ Ext w'2 w'3 →
bcase x3
(∃ (g4 : Int),
#[Value.int IntKind.i32 x1.fst] = #[Value.int IntKind.i32 g4] ∧
True ∧
∀ (x4 : Bool) (w'4 : World),
x4 = picB g4 ∧ Ext w'3 w'4 →
bcase x4 (∃ (c : Nat), (↑x : Int) = (↑c : Int) ∧ goB g (0 : Nat) c = true ∧ Ext w'1 w'4)
(∃ (g5 : Int × Int),
#[Value.int IntKind.i32 (sg g (x - (1 : Nat))), Value.int IntKind.i32 x1.fst] =
#[Value.int IntKind.i32 g5.fst, Value.int IntKind.i32 g5.snd] ∧
True ∧
∀ (x5 : Bool) (w'5 : World),
x5 = sylB g5.fst g5.snd ∧ Ext w'4 w'5 →
bcase x5 (∃ (c : Nat), (↑x : Int) = (↑c : Int) ∧ goB g (0 : Nat) c = true ∧ Ext w'1 w'5)
(∃ (x6 : Nat),
Value.int IntKind.i64 (↑(pos g x) : Int) = Value.int IntKind.i64 (↑x6 : Int) ∧ x6 = nextL g ∧ Ext w w'5)))
(∃ (g4 : Int × Int),
#[Value.int IntKind.i32 (sg g (x - (1 : Nat))), Value.int IntKind.i32 x1.fst] =
#[Value.int IntKind.i32 g4.fst, Value.int IntKind.i32 g4.snd] ∧
True ∧
∀ (x4 : Bool) (w'4 : World),
x4 = sylB g4.fst g4.snd ∧ Ext w'3 w'4 →
bcase x4 (∃ (c : Nat), (↑x : Int) = (↑c : Int) ∧ goB g (0 : Nat) c = true ∧ Ext w'1 w'4)
(∃ (x5 : Nat),
Value.int IntKind.i64 (↑(pos g x) : Int) = Value.int IntKind.i64 (↑x5 : Int) ∧ x5 = nextL g ∧ Ext w w'4)))
(∃ (g3 : Int × Int),
#[Value.int IntKind.i32 (sg g (x - (1 : Nat))), Value.int IntKind.i32 x1.fst] =
#[Value.int IntKind.i32 g3.fst, Value.int IntKind.i32 g3.snd] ∧
True ∧
∀ (x3 : Bool) (w'3 : World),
x3 = sylB g3.fst g3.snd ∧ Ext w'2 w'3 →
bcase x3 (∃ (c : Nat), (↑x : Int) = (↑c : Int) ∧ goB g (0 : Nat) c = true ∧ Ext w'1 w'3)
(∃ (x4 : Nat),
Value.int IntKind.i64 (↑(pos g x) : Int) = Value.int IntKind.i64 (↑x4 : Int) ∧ x4 = nextL g ∧ Ext w w'3)))))
(∃ (g3 : Int),
#[Value.int IntKind.i32 x1.fst] = #[Value.int IntKind.i32 g3] ∧
True ∧
∀ (x3 : Bool) (w'3 : World),
x3 = joinB g3 ∧ Ext w'2 w'3 →
bcase x3 (∃ (c : Nat), (↑x : Int) = (↑c : Int) ∧ goB g (0 : Nat) c = true ∧ Ext w'1 w'3)
(bcase ((↑x : Int) == (1 : Int))
(∃ (g4 : Int),
#[Value.int IntKind.i32 (sg g (0 : Nat))] = #[Value.int IntKind.i32 g4] ∧
True ∧
∀ (x4 : Bool) (w'4 : World),
x4 = regB g4 ∧ Ext w'3 w'4 →
bcase x4
(∃ (g5 : Int),
#[Value.int IntKind.i32 x1.fst] = #[Value.int IntKind.i32 g5] ∧
True ∧
∀ (x5 : Bool) (w'5 : World),
x5 = regB g5 ∧ Ext w'4 w'5 →
bcase x5 (∃ (c : Nat), (↑x : Int) = (↑c : Int) ∧ goB g (0 : Nat) c = true ∧ Ext w'1 w'5)
(bcase (sg g (x - (1 : Nat)) == (8205 : Int))
(∃ (g6 : Int),
#[Value.int IntKind.i32 (sg g (0 : Nat))] = #[Value.int IntKind.i32 g6] ∧
True ∧
∀ (x6 : Bool) (w'6 : World),
x6 = picB g6 ∧ Ext w'5 w'6 →
bcase x6
(∃ (g7 : Int),
#[Value.int IntKind.i32 x1.fst] = #[Value.int IntKind.i32 g7] ∧
True ∧
∀ (x7 : Bool) (w'7 : World),
x7 = picB g7 ∧ Ext w'6 w'7 →
bcase x7 (∃ (c : Nat), (↑x : Int) = (↑c : Int) ∧ goB g (0 : Nat) c = true ∧ Ext w'1 w'7)
(∃ (g8 : Int × Int),
#[Value.int IntKind.i32 (sg g (x - (1 : Nat))), Value.int IntKind.i32 x1.fst] =
#[Value.int IntKind.i32 g8.fst, Value.int IntKind.i32 g8.snd] ∧
True ∧
∀ (x8 : Bool) (w'8 : World),
x8 = sylB g8.fst g8.snd ∧ Ext w'7 w'8 →
bcase x8 (∃ (c : Nat), (↑x : Int) = (↑c : Int) ∧ goB g (0 : Nat) c = true ∧ Ext w'1 w'8)
(∃ (x9 : Nat),
Value.int IntKind.i64 (↑(pos g x) : Int) = Value.int IntKind.i64 (↑x9 : Int) ∧ x9 = nextL g ∧ Ext w w'8)))
(∃ (g7 : Int × Int),
#[Value.int IntKind.i32 (sg g (x - (1 : Nat))), Value.int IntKind.i32 x1.fst] =
#[Value.int IntKind.i32 g7.fst, Value.int IntKind.i32 g7.snd] ∧
True ∧
∀ (x7 : Bool) (w'7 : World),
x7 = sylB g7.fst g7.snd ∧ Ext w'6 w'7 →
bcase x7 (∃ (c : Nat), (↑x : Int) = (↑c : Int) ∧ goB g (0 : Nat) c = true ∧ Ext w'1 w'7)
(∃ (x8 : Nat),
Value.int IntKind.i64 (↑(pos g x) : Int) = Value.int IntKind.i64 (↑x8 : Int) ∧ x8 = nextL g ∧ Ext w w'7)))
(∃ (g6 : Int × Int),
#[Value.int IntKind.i32 (sg g (x - (1 : Nat))), Value.int IntKind.i32 x1.fst] =
#[Value.int IntKind.i32 g6.fst, Value.int IntKind.i32 g6.snd] ∧
True ∧
∀ (x6 : Bool) (w'6 : World),
x6 = sylB g6.fst g6.snd ∧ Ext w'5 w'6 →
bcase x6 (∃ (c : Nat), (↑x : Int) = (↑c : Int) ∧ goB g (0 : Nat) c = true ∧ Ext w'1 w'6)
(∃ (x7 : Nat),
Value.int IntKind.i64 (↑(pos g x) : Int) = Value.int IntKind.i64 (↑x7 : Int) ∧ x7 = nextL g ∧ Ext w w'6))))
(bcase (sg g (x - (1 : Nat)) == (8205 : Int))
(∃ (g5 : Int),
#[Value.int IntKind.i32 (sg g (0 : Nat))] = #[Value.int IntKind.i32 g5] ∧
True ∧
∀ (x5 : Bool) (w'5 : World),
x5 = picB g5 ∧ Ext w'4 w'5 →
bcase x5
(∃ (g6 : Int),
#[Value.int IntKind.i32 x1.fst] = #[Value.int IntKind.i32 g6] ∧
True ∧
∀ (x6 : Bool) (w'6 : World),
x6 = picB g6 ∧ Ext w'5 w'6 →
bcase x6 (∃ (c : Nat), (↑x : Int) = (↑c : Int) ∧ goB g (0 : Nat) c = true ∧ Ext w'1 w'6)
(∃ (g7 : Int × Int),
#[Value.int IntKind.i32 (sg g (x - (1 : Nat))), Value.int IntKind.i32 x1.fst] =
#[Value.int IntKind.i32 g7.fst, Value.int IntKind.i32 g7.snd] ∧
True ∧
∀ (x7 : Bool) (w'7 : World),
x7 = sylB g7.fst g7.snd ∧ Ext w'6 w'7 →
bcase x7 (∃ (c : Nat), (↑x : Int) = (↑c : Int) ∧ goB g (0 : Nat) c = true ∧ Ext w'1 w'7)
(∃ (x8 : Nat),
Value.int IntKind.i64 (↑(pos g x) : Int) = Value.int IntKind.i64 (↑x8 : Int) ∧ x8 = nextL g ∧ Ext w w'7)))
(∃ (g6 : Int × Int),
#[Value.int IntKind.i32 (sg g (x - (1 : Nat))), Value.int IntKind.i32 x1.fst] =
#[Value.int IntKind.i32 g6.fst, Value.int IntKind.i32 g6.snd] ∧
True ∧
∀ (x6 : Bool) (w'6 : World),
x6 = sylB g6.fst g6.snd ∧ Ext w'5 w'6 →
bcase x6 (∃ (c : Nat), (↑x : Int) = (↑c : Int) ∧ goB g (0 : Nat) c = true ∧ Ext w'1 w'6)
(∃ (x7 : Nat),
Value.int IntKind.i64 (↑(pos g x) : Int) = Value.int IntKind.i64 (↑x7 : Int) ∧ x7 = nextL g ∧ Ext w w'6)))
(∃ (g5 : Int × Int),
#[Value.int IntKind.i32 (sg g (x - (1 : Nat))), Value.int IntKind.i32 x1.fst] =
#[Value.int IntKind.i32 g5.fst, Value.int IntKind.i32 g5.snd] ∧
True ∧
∀ (x5 : Bool) (w'5 : World),
x5 = sylB g5.fst g5.snd ∧ Ext w'4 w'5 →
bcase x5 (∃ (c : Nat), (↑x : Int) = (↑c : Int) ∧ goB g (0 : Nat) c = true ∧ Ext w'1 w'5)
(∃ (x6 : Nat),
Value.int IntKind.i64 (↑(pos g x) : Int) = Value.int IntKind.i64 (↑x6 : Int) ∧ x6 = nextL g ∧ Ext w w'5))))
(bcase (sg g (x - (1 : Nat)) == (8205 : Int))
(∃ (g4 : Int),
#[Value.int IntKind.i32 (sg g (0 : Nat))] = #[Value.int IntKind.i32 g4] ∧
True ∧
∀ (x4 : Bool) (w'4 : World),
x4 = picB g4 ∧ Ext w'3 w'4 →
bcase x4
(∃ (g5 : Int),
#[Value.int IntKind.i32 x1.fst] = #[Value.int IntKind.i32 g5] ∧
True ∧
∀ (x5 : Bool) (w'5 : World),
x5 = picB g5 ∧ Ext w'4 w'5 →
bcase x5 (∃ (c : Nat), (↑x : Int) = (↑c : Int) ∧ goB g (0 : Nat) c = true ∧ Ext w'1 w'5)
(∃ (g6 : Int × Int),
#[Value.int IntKind.i32 (sg g (x - (1 : Nat))), Value.int IntKind.i32 x1.fst] =
#[Value.int IntKind.i32 g6.fst, Value.int IntKind.i32 g6.snd] ∧
True ∧
∀ (x6 : Bool) (w'6 : World),
x6 = sylB g6.fst g6.snd ∧ Ext w'5 w'6 →
bcase x6 (∃ (c : Nat), (↑x : Int) = (↑c : Int) ∧ goB g (0 : Nat) c = true ∧ Ext w'1 w'6)
(∃ (x7 : Nat),
Value.int IntKind.i64 (↑(pos g x) : Int) = Value.int IntKind.i64 (↑x7 : Int) ∧ x7 = nextL g ∧ Ext w w'6)))
(∃ (g5 : Int × Int),
#[Value.int IntKind.i32 (sg g (x - (1 : Nat))), Value.int IntKind.i32 x1.fst] =
#[Value.int IntKind.i32 g5.fst, Value.int IntKind.i32 g5.snd] ∧
True ∧
∀ (x5 : Bool) (w'5 : World),
x5 = sylB g5.fst g5.snd ∧ Ext w'4 w'5 →
bcase x5 (∃ (c : Nat), (↑x : Int) = (↑c : Int) ∧ goB g (0 : Nat) c = true ∧ Ext w'1 w'5)
(∃ (x6 : Nat),
Value.int IntKind.i64 (↑(pos g x) : Int) = Value.int IntKind.i64 (↑x6 : Int) ∧ x6 = nextL g ∧ Ext w w'5)))
(∃ (g4 : Int × Int),
#[Value.int IntKind.i32 (sg g (x - (1 : Nat))), Value.int IntKind.i32 x1.fst] =
#[Value.int IntKind.i32 g4.fst, Value.int IntKind.i32 g4.snd] ∧
True ∧
∀ (x4 : Bool) (w'4 : World),
x4 = sylB g4.fst g4.snd ∧ Ext w'3 w'4 →
bcase x4 (∃ (c : Nat), (↑x : Int) = (↑c : Int) ∧ goB g (0 : Nat) c = true ∧ Ext w'1 w'4)
(∃ (x5 : Nat),
Value.int IntKind.i64 (↑(pos g x) : Int) = Value.int IntKind.i64 (↑x5 : Int) ∧ x5 = nextL g ∧ Ext w w'4)))))) ∧
∀ (u1 : Nat → Value) (c : Nat) (w'2 : World),
(↑x : Int) = (↑c : Int) ∧ goB g (0 : Nat) c = true ∧ Ext w'1 w'2 →
InR IntKind.i64 ((↑x : Int) + (1 : Int)) ∧
InR IntKind.i64 ((↑(pos g x) : Int) + (↑x1.snd : Int)) ∧
∃ (y : Nat),
Value.int IntKind.i32 (sg g (0 : Nat)) = Value.int IntKind.i32 (sg g (0 : Nat)) ∧
Value.int IntKind.i32 x1.fst = Value.int IntKind.i32 (sg g (y - (1 : Nat))) ∧
Value.int IntKind.i64 ((↑x : Int) + (1 : Int)) = Value.int IntKind.i64 (↑y : Int) ∧
Value.int IntKind.i64 ((↑(pos g x) : Int) + (↑x1.snd : Int)) = Value.int IntKind.i64 (↑(pos g y) : Int) ∧
((1 : Nat) ≤ y ∧
y ≤ cnt g ∧ y ≤ (32 : Nat) ∧ (0 : Nat) < g.size ∧ goN g (0 : Nat) ((33 : Nat) - y) y = firstN g (0 : Nat) ∧ Ext w w'2) ∧
(40 : Nat) - y < (40 : Nat) - x)) ∧
(∀ (u : Nat → Value) (x : Unit) (w' : World),
(0 : Nat) < g.size ∧ (isBad g (0 : Nat) = true ∨ aloneB (sg g (0 : Nat)) = true) ∧ Ext w w' →
bcase (sg g (0 : Nat) == (13 : Int))
(bcase (decide ((↑g.size : Int) > (1 : Int)))
(∃ (k : Nat),
(1 : Int) = (↑k : Int) ∧
k < g.size ∧
bcase ((↑(g.data.toList.getD k (0 : UInt8)).toNat : Int) == (10 : Int))
(∃ (x1 : Nat), Value.int IntKind.i64 (2 : Int) = Value.int IntKind.i64 (↑x1 : Int) ∧ x1 = nextL g ∧ Ext w w')
(∃ (x1 : Nat),
Value.int IntKind.i64 (↑(pos g (1 : Nat)) : Int) = Value.int IntKind.i64 (↑x1 : Int) ∧ x1 = nextL g ∧ Ext w w'))
(∃ (x1 : Nat),
Value.int IntKind.i64 (↑(pos g (1 : Nat)) : Int) = Value.int IntKind.i64 (↑x1 : Int) ∧ x1 = nextL g ∧ Ext w w'))
(∃ (x1 : Nat),
Value.int IntKind.i64 (↑(pos g (1 : Nat)) : Int) = Value.int IntKind.i64 (↑x1 : Int) ∧ x1 = nextL g ∧ Ext w w')) ∧
True) :
    ((sSN nextL)).Ok Tryd.prog 76 :=
  ok_of_vc (sSN nextL) annCNext spCNext (fun _ _ => rfl) (fun _ _ => rfl) hsp Tryd.func76 rfl (n := 1) (fun _ => rfl) (by kernel_rfl) (vcast (by kernel_rfl) h)

set_option maxRecDepth 1000000 in
theorem signs_vc (hsp : SpecsOk Tryd.prog spSigns) (h : ∀ (g : ByteArray) (w : World),
U8 w ∧ g.size ≤ (67108864 : Nat) →
(∃ (x : Nat × Option Addr × Nat),
Value.int IntKind.i64 (0 : Int) = Value.int IntKind.i64 (↑(pos g x.fst) : Int) ∧
Value.slice none (0 : Nat) (0 : Nat) = Value.slice x.snd.fst x.fst x.snd.snd ∧
x.fst ≤ cnt g ∧
Made w w (103 : TypeId) (3 : Nat) x.snd.fst x.fst (List.flatMap (sgnV g) (List.range x.fst)) x.snd.snd) ∧
∀ (u : Nat → Value) (x : Nat × Option Addr × Nat) (w' : World),
x.fst ≤ cnt g ∧
Made w w' (103 : TypeId) (3 : Nat) x.snd.fst x.fst (List.flatMap (sgnV g) (List.range x.fst)) x.snd.snd →
bcase (decide ((↑(pos g x.fst) : Int) < (↑g.size : Int)))
(∃ (k : Nat),
(↑(pos g x.fst) : Int) = (↑k : Int) ∧
k ≤ g.size ∧
g.size ≤ g.size ∧
∃ (g1 : ByteArray),
#[Value.string (g.extract k g.size)] = #[Value.string g1] ∧
(U8 w' ∧ g1.size ≤ (67108864 : Nat)) ∧
∀ (x1 : Int × Nat) (w'1 : World),
x1.fst = nxR g1 ∧ x1.snd = nxN g1 ∧ Ext w' w'1 →
bcase (x1.fst == (65533 : Int))
(∀ (b : Nat) (w1 : World),
New w'1
(Obj.cells
#[Value.int IntKind.i32 x1.fst, Value.int IntKind.i64 (↑(pos g x.fst) : Int), Value.bool ((↑x1.snd : Int) == (1 : Int))]
(103 : Nat))
b w1 →
∃ (a' : Option Addr),
∃ (c' : Nat),
∃ (w'2 : World),
AppRun Tryd.prog #[(90 : Nat), (90 : Nat)] (90 : Nat) (Value.slice x.snd.fst x.fst x.snd.snd)
(Value.slice (some { block := b, off := (0 : Nat) }) (1 : Nat) (1 : Nat)) w1 a' (x.fst + (1 : Nat)) c' w'2 ∧
KO w1 w'2 ∧
InR IntKind.i64 ((↑(pos g x.fst) : Int) + (↑x1.snd : Int)) ∧
∃ (y : Nat × Option Addr × Nat),
Value.int IntKind.i64 ((↑(pos g x.fst) : Int) + (↑x1.snd : Int)) = Value.int IntKind.i64 (↑(pos g y.fst) : Int) ∧
Value.slice a' (x.fst + (1 : Nat)) c' = Value.slice y.snd.fst y.fst y.snd.snd ∧
(y.fst ≤ cnt g ∧
Made w w'2 (103 : TypeId) (3 : Nat) y.snd.fst y.fst (List.flatMap (sgnV g) (List.range y.fst)) y.snd.snd) ∧
cnt g - y.fst < cnt g - x.fst)
(∀ (b : Nat) (w1 : World),
New w'1
(Obj.cells #[Value.int IntKind.i32 x1.fst, Value.int IntKind.i64 (↑(pos g x.fst) : Int), Value.bool false] (103 : Nat))
b w1 →
∃ (a' : Option Addr),
∃ (c' : Nat),
∃ (w'2 : World),
AppRun Tryd.prog #[(90 : Nat), (90 : Nat)] (90 : Nat) (Value.slice x.snd.fst x.fst x.snd.snd)
(Value.slice (some { block := b, off := (0 : Nat) }) (1 : Nat) (1 : Nat)) w1 a' (x.fst + (1 : Nat)) c' w'2 ∧
KO w1 w'2 ∧
InR IntKind.i64 ((↑(pos g x.fst) : Int) + (↑x1.snd : Int)) ∧
∃ (y : Nat × Option Addr × Nat),
Value.int IntKind.i64 ((↑(pos g x.fst) : Int) + (↑x1.snd : Int)) = Value.int IntKind.i64 (↑(pos g y.fst) : Int) ∧
Value.slice a' (x.fst + (1 : Nat)) c' = Value.slice y.snd.fst y.fst y.snd.snd ∧
(y.fst ≤ cnt g ∧
Made w w'2 (103 : TypeId) (3 : Nat) y.snd.fst y.fst (List.flatMap (sgnV g) (List.range y.fst)) y.snd.snd) ∧
cnt g - y.fst < cnt g - x.fst))
(∃ (x1 : Option Addr × Nat × Nat),
Value.slice x.snd.fst x.fst x.snd.snd = Value.slice x1.fst x1.snd.fst x1.snd.snd ∧
x1.snd.fst = cnt g ∧
Made w w' (103 : TypeId) (3 : Nat) x1.fst x1.snd.fst (List.flatMap (sgnV g) (List.range (cnt g))) x1.snd.snd)) :
    (sSigns).Ok Tryd.prog 80 :=
  ok_of_vc sSigns annSigns spSigns (fun _ _ => rfl) (fun _ _ => rfl) hsp Tryd.func80 rfl (n := 1) (fun _ => rfl) (by kernel_rfl) (vcast (by kernel_rfl) h)

set_option maxRecDepth 1000000 in
theorem first_vc (hsp : SpecsOk Tryd.prog spFirst) (h : ∀ (g : GFst) (w : World),
g.k < cnt g.s ∧
g.s.size ≤ (67108864 : Nat) ∧ CellsAt w g.a (List.flatMap (sgnV g.s) (List.drop g.k (List.range (cnt g.s)))) →
∃ (k : Nat),
(0 : Int) = (↑k : Int) ∧
k < cnt g.s - g.k ∧
ptrE g.a fun (b o : Nat) =>
∃ (b1 : Bool),
w.cell? { block := b, off := o + k * (3 : Nat) + (2 : Nat) } = some (Value.bool b1) ∧
bcase b1
(∃ (x : Nat), Value.int IntKind.i64 (1 : Int) = Value.int IntKind.i64 (↑x : Int) ∧ x = firstN g.s g.k ∧ Ext w w)
((∃ (k1 : Nat),
(0 : Int) = (↑k1 : Int) ∧
k1 < cnt g.s - g.k ∧
ptrE g.a fun (b2 o1 : Nat) =>
∃ (n : Int),
w.cell? { block := b2, off := o1 + k1 * (3 : Nat) } = some (Value.int IntKind.i32 n) ∧
bcase (n == (13 : Int))
(bcase (decide ((↑(cnt g.s - g.k) : Int) > (1 : Int)))
(∃ (k2 : Nat),
(1 : Int) = (↑k2 : Int) ∧
k2 < cnt g.s - g.k ∧
ptrE g.a fun (b3 o2 : Nat) =>
∃ (n1 : Int),
w.cell? { block := b3, off := o2 + k2 * (3 : Nat) } = some (Value.int IntKind.i32 n1) ∧
∃ (c : Unit), Value.bool (n1 == (10 : Int)) = Value.bool (crB g.s g.k) ∧ Ext w w)
(∃ (c : Unit), Value.bool false = Value.bool (crB g.s g.k) ∧ Ext w w))
(∃ (c : Unit), Value.bool false = Value.bool (crB g.s g.k) ∧ Ext w w)) ∧
∀ (u : Nat → Value) (c : Unit) (w' : World),
Ext w w' →
bcase (crB g.s g.k)
(∃ (x : Nat), Value.int IntKind.i64 (2 : Int) = Value.int IntKind.i64 (↑x : Int) ∧ x = firstN g.s g.k ∧ Ext w w')
(∃ (k1 : Nat),
(0 : Int) = (↑k1 : Int) ∧
k1 < cnt g.s - g.k ∧
ptrE g.a fun (b2 o1 : Nat) =>
∃ (n : Int),
w'.cell? { block := b2, off := o1 + k1 * (3 : Nat) } = some (Value.int IntKind.i32 n) ∧
∃ (g1 : Int),
#[Value.int IntKind.i32 n] = #[Value.int IntKind.i32 g1] ∧
True ∧
∀ (x : Bool) (w'1 : World),
x = aloneB g1 ∧ Ext w' w'1 →
bcase x
(∃ (x1 : Nat), Value.int IntKind.i64 (1 : Int) = Value.int IntKind.i64 (↑x1 : Int) ∧ x1 = firstN g.s g.k ∧ Ext w w'1)
((∃ (x1 : Nat),
Value.int IntKind.i64 (1 : Int) = Value.int IntKind.i64 (↑x1 : Int) ∧
(1 : Nat) ≤ x1 ∧
g.k + x1 ≤ cnt g.s ∧ x1 ≤ (32 : Nat) ∧ goN g.s g.k ((33 : Nat) - x1) x1 = firstN g.s g.k ∧ Ext w'1 w'1) ∧
∀ (u1 : Nat → Value) (x1 : Nat) (w'2 : World),
(1 : Nat) ≤ x1 ∧
g.k + x1 ≤ cnt g.s ∧ x1 ≤ (32 : Nat) ∧ goN g.s g.k ((33 : Nat) - x1) x1 = firstN g.s g.k ∧ Ext w'1 w'2 →
∀ (w1 : World),
Drew w'2 w1 →
bcase (decide ((↑x1 : Int) < (↑(cnt g.s - g.k) : Int)))
(bcase (decide ((↑x1 : Int) < (32 : Int)))
(∃ (k2 : Nat),
(↑x1 : Int) = (↑k2 : Int) ∧
k2 < cnt g.s - g.k ∧
ptrE g.a fun (b3 o2 : Nat) =>
∃ (b4 : Bool),
w'2.cell? { block := b3, off := o2 + k2 * (3 : Nat) + (2 : Nat) } = some (Value.bool b4) ∧
bcase (!b4)
(∃ (k3 : Nat),
(0 : Int) = (↑k3 : Int) ∧
k3 < cnt g.s - g.k ∧
ptrE g.a fun (b5 o3 : Nat) =>
∃ (n1 : Int),
w'2.cell? { block := b5, off := o3 + k3 * (3 : Nat) } = some (Value.int IntKind.i32 n1) ∧
InR IntKind.i64 ((↑x1 : Int) - (1 : Int)) ∧
∃ (k4 : Nat),
(↑x1 : Int) - (1 : Int) = (↑k4 : Int) ∧
k4 < cnt g.s - g.k ∧
ptrE g.a fun (b6 o4 : Nat) =>
∃ (n2 : Int),
w'2.cell? { block := b6, off := o4 + k4 * (3 : Nat) } = some (Value.int IntKind.i32 n2) ∧
∃ (k5 : Nat),
(↑x1 : Int) = (↑k5 : Int) ∧
k5 < cnt g.s - g.k ∧
ptrE g.a fun (b7 o5 : Nat) =>
∃ (n3 : Int),
w'2.cell? { block := b7, off := o5 + k5 * (3 : Nat) } = some (Value.int IntKind.i32 n3) ∧
∃ (g2 : GTk),
#[Value.int IntKind.i32 n1, Value.int IntKind.i32 n2, Value.int IntKind.i32 n3, Value.int IntKind.i64 (↑x1 : Int)] =
#[Value.int IntKind.i32 g2.x, Value.int IntKind.i32 g2.z, Value.int IntKind.i32 g2.y,
Value.int IntKind.i64 (↑g2.n : Int)] ∧
True ∧
∀ (x2 : Bool) (w'3 : World),
x2 = takesB g2.x g2.z g2.y g2.n ∧ Ext w1 w'3 →
bcase x2
(InR IntKind.i64 ((↑x1 : Int) + (1 : Int)) ∧
∃ (y : Nat),
Value.int IntKind.i64 ((↑x1 : Int) + (1 : Int)) = Value.int IntKind.i64 (↑y : Int) ∧
((1 : Nat) ≤ y ∧ g.k + y ≤ cnt g.s ∧ y ≤ (32 : Nat) ∧ goN g.s g.k ((33 : Nat) - y) y = firstN g.s g.k ∧ Ext w'1 w'3) ∧
(40 : Nat) - y < (40 : Nat) - x1)
(∃ (x3 : Nat), Value.int IntKind.i64 (↑x1 : Int) = Value.int IntKind.i64 (↑x3 : Int) ∧ x3 = firstN g.s g.k ∧ Ext w w'3))
(∃ (x2 : Nat), Value.int IntKind.i64 (↑x1 : Int) = Value.int IntKind.i64 (↑x2 : Int) ∧ x2 = firstN g.s g.k ∧ Ext w w1))
(∃ (x2 : Nat), Value.int IntKind.i64 (↑x1 : Int) = Value.int IntKind.i64 (↑x2 : Int) ∧ x2 = firstN g.s g.k ∧ Ext w w1))
(∃ (x2 : Nat),
Value.int IntKind.i64 (↑x1 : Int) = Value.int IntKind.i64 (↑x2 : Int) ∧ x2 = firstN g.s g.k ∧ Ext w w1))))) :
    (sFirst).Ok Tryd.prog 85 :=
  ok_of_vc sFirst annFirst spFirst (fun _ _ => rfl) (fun _ _ => rfl) hsp Tryd.func85 rfl (n := 1) (fun _ => rfl) (by kernel_rfl) (vcast (by kernel_rfl) h)

set_option maxRecDepth 1000000 in
theorem rallP_vc (hsp : SpecsOk Tryd.prog spRAllP) (h : ∀ (g : ByteArray) (w : World),
U8 w ∧ g.size ≤ (67108864 : Nat) →
∃ (g1 : ByteArray),
#[Value.string g] = #[Value.string g1] ∧
(U8 w ∧ g1.size ≤ (67108864 : Nat)) ∧
∀ (x : Option Addr × Nat × Nat) (w' : World),
x.snd.fst = cnt g1 ∧
Made w w' (103 : TypeId) (3 : Nat) x.fst x.snd.fst (List.flatMap (sgnV g1) (List.range (cnt g1))) x.snd.snd →
(∃ (x1 : GAl),
Value.slice x.fst x.snd.fst x.snd.snd = Value.slice x1.la (cnt g - bk g x1.i) x1.lc ∧
Value.slice none (0 : Nat) (0 : Nat) = Value.slice x1.oa x1.i x1.oc ∧
x1.i ≤ ncl g ∧
cnt g - bk g x1.i ≤ x1.lc ∧
CellsAt w' x1.la (List.flatMap (sgnV g) (List.drop (bk g x1.i) (List.range (cnt g)))) ∧
Made w' w' (44 : TypeId) (2 : Nat) x1.oa x1.i (List.flatMap (pcV g) (List.range x1.i)) x1.oc) ∧
∀ (u : Nat → Value) (x1 : GAl) (w'1 : World),
x1.i ≤ ncl g ∧
cnt g - bk g x1.i ≤ x1.lc ∧
CellsAt w' x1.la (List.flatMap (sgnV g) (List.drop (bk g x1.i) (List.range (cnt g)))) ∧
Made w' w'1 (44 : TypeId) (2 : Nat) x1.oa x1.i (List.flatMap (pcV g) (List.range x1.i)) x1.oc →
bcase (decide ((↑(cnt g - bk g x1.i) : Int) > (0 : Int)))
(∃ (g2 : GFst),
#[Value.slice x1.la (cnt g - bk g x1.i) x1.lc] = #[Value.slice g2.a (cnt g2.s - g2.k) g2.c] ∧
(g2.k < cnt g2.s ∧
g2.s.size ≤ (67108864 : Nat) ∧ CellsAt w'1 g2.a (List.flatMap (sgnV g2.s) (List.drop g2.k (List.range (cnt g2.s))))) ∧
∀ (x2 : Nat) (w'2 : World),
x2 = firstN g2.s g2.k ∧ Ext w'1 w'2 →
bcase (decide ((↑x2 : Int) < (↑(cnt g - bk g x1.i) : Int)))
(∃ (k : Nat),
(↑x2 : Int) = (↑k : Int) ∧
k < cnt g - bk g x1.i ∧
ptrE x1.la fun (b o : Nat) =>
∃ (n : Int),
w'2.cell? { block := b, off := o + k * (3 : Nat) + (1 : Nat) } = some (Value.int IntKind.i64 n) ∧
∀ (w1 : World),
Drew w'2 w1 →
∃ (k1 : Nat),
(0 : Int) = (↑k1 : Int) ∧
k1 < cnt g - bk g x1.i ∧
ptrE x1.la fun (b1 o1 : Nat) =>
∃ (n1 : Int),
w'2.cell? { block := b1, off := o1 + k1 * (3 : Nat) + (1 : Nat) } = some (Value.int IntKind.i64 n1) ∧
∃ (k2 : Nat),
(0 : Int) = (↑k2 : Int) ∧
k2 < cnt g - bk g x1.i ∧
ptrE x1.la fun (b2 o2 : Nat) =>
∃ (n2 : Int),
w'2.cell? { block := b2, off := o2 + k2 * (3 : Nat) + (1 : Nat) } = some (Value.int IntKind.i64 n2) ∧
∃ (k3 : Nat),
n2 = (↑k3 : Int) ∧
∃ (k4 : Nat),
n = (↑k4 : Int) ∧
k3 ≤ k4 ∧
k4 ≤ g.size ∧
∀ (b3 : Nat) (w11 : World),
New w1 (Obj.cells #[Value.int IntKind.i64 n1, Value.string (g.extract k3 k4)] (44 : Nat)) b3 w11 →
Below w1.heap.size w1 w11 ∧
∃ (a' : Option Addr),
∃ (c' : Nat),
∃ (w'3 : World),
AppRun Tryd.prog #[(42 : Nat), (42 : Nat)] (42 : Nat) (Value.slice x1.oa x1.i x1.oc)
(Value.slice (some { block := b3, off := (0 : Nat) }) (1 : Nat) (1 : Nat)) w11 a' (x1.i + (1 : Nat)) c' w'3 ∧
KO w11 w'3 ∧
∃ (ln : Nat),
(↑x2 : Int) = (↑ln : Int) ∧
ln ≤ cnt g - bk g x1.i ∧
∀ (ad' : Option Addr),
SlAt x1.la ad' x1.lc ln (3 : Nat) →
∃ (y : GAl),
Value.slice ad' (cnt g - bk g x1.i - ln) (x1.lc - ln) = Value.slice y.la (cnt g - bk g y.i) y.lc ∧
Value.slice a' (x1.i + (1 : Nat)) c' = Value.slice y.oa y.i y.oc ∧
(y.i ≤ ncl g ∧
cnt g - bk g y.i ≤ y.lc ∧
CellsAt w' y.la (List.flatMap (sgnV g) (List.drop (bk g y.i) (List.range (cnt g)))) ∧
Made w' w'3 (44 : TypeId) (2 : Nat) y.oa y.i (List.flatMap (pcV g) (List.range y.i)) y.oc) ∧
ncl g - y.i < ncl g - x1.i)
(∀ (w1 : World),
Drew w'2 w1 →
∃ (k : Nat),
(0 : Int) = (↑k : Int) ∧
k < cnt g - bk g x1.i ∧
ptrE x1.la fun (b o : Nat) =>
∃ (n : Int),
w'2.cell? { block := b, off := o + k * (3 : Nat) + (1 : Nat) } = some (Value.int IntKind.i64 n) ∧
∃ (k1 : Nat),
(0 : Int) = (↑k1 : Int) ∧
k1 < cnt g - bk g x1.i ∧
ptrE x1.la fun (b1 o1 : Nat) =>
∃ (n1 : Int),
w'2.cell? { block := b1, off := o1 + k1 * (3 : Nat) + (1 : Nat) } = some (Value.int IntKind.i64 n1) ∧
∃ (k2 : Nat),
n1 = (↑k2 : Int) ∧
∃ (k3 : Nat),
(↑g.size : Int) = (↑k3 : Int) ∧
k2 ≤ k3 ∧
k3 ≤ g.size ∧
∀ (b2 : Nat) (w11 : World),
New w1 (Obj.cells #[Value.int IntKind.i64 n, Value.string (g.extract k2 k3)] (44 : Nat)) b2 w11 →
Below w1.heap.size w1 w11 ∧
∃ (a' : Option Addr),
∃ (c' : Nat),
∃ (w'3 : World),
AppRun Tryd.prog #[(42 : Nat), (42 : Nat)] (42 : Nat) (Value.slice x1.oa x1.i x1.oc)
(Value.slice (some { block := b2, off := (0 : Nat) }) (1 : Nat) (1 : Nat)) w11 a' (x1.i + (1 : Nat)) c' w'3 ∧
KO w11 w'3 ∧
∃ (ln : Nat),
(↑x2 : Int) = (↑ln : Int) ∧
ln ≤ cnt g - bk g x1.i ∧
∀ (ad' : Option Addr),
SlAt x1.la ad' x1.lc ln (3 : Nat) →
∃ (y : GAl),
Value.slice ad' (cnt g - bk g x1.i - ln) (x1.lc - ln) = Value.slice y.la (cnt g - bk g y.i) y.lc ∧
Value.slice a' (x1.i + (1 : Nat)) c' = Value.slice y.oa y.i y.oc ∧
(y.i ≤ ncl g ∧
cnt g - bk g y.i ≤ y.lc ∧
CellsAt w' y.la (List.flatMap (sgnV g) (List.drop (bk g y.i) (List.range (cnt g)))) ∧
Made w' w'3 (44 : TypeId) (2 : Nat) y.oa y.i (List.flatMap (pcV g) (List.range y.i)) y.oc) ∧
ncl g - y.i < ncl g - x1.i))
(∃ (x2 : Option Addr × Nat × Nat),
Value.slice x1.oa x1.i x1.oc = Value.slice x2.fst x2.snd.fst x2.snd.snd ∧
x2.snd.fst = ncl g ∧
Made w w'1 (44 : TypeId) (2 : Nat) x2.fst x2.snd.fst (List.flatMap (pcV g) (List.range (ncl g))) x2.snd.snd)) :
    (sRAllP).Ok Tryd.prog 56 :=
  ok_of_vc sRAllP annRAllP spRAllP (fun _ _ => rfl) (fun _ _ => rfl) hsp Tryd.func56 rfl (n := 1) (fun _ => rfl) (by kernel_rfl) (vcast (by kernel_rfl) h)

set_option maxRecDepth 1000000 in
theorem rnextC_vc (hsp : SpecsOk Tryd.prog spRNextC) (h : ∀ (g : ByteArray) (w : World),
U8 w ∧ g.size ≤ (67108864 : Nat) →
∃ (g1 : ByteArray),
#[Value.string g] = #[Value.string g1] ∧
(U8 w ∧ g1.size ≤ (67108864 : Nat)) ∧
∀ (x : Option Addr × Nat × Nat) (w' : World),
x.snd.fst = cnt g1 ∧
Made w w' (103 : TypeId) (3 : Nat) x.fst x.snd.fst (List.flatMap (sgnV g1) (List.range (cnt g1))) x.snd.snd →
bcase ((↑x.snd.fst : Int) == (0 : Int))
(∃ (x1 : Nat), Value.int IntKind.i64 (0 : Int) = Value.int IntKind.i64 (↑x1 : Int) ∧ x1 = nextL g ∧ Ext w w')
(∃ (g2 : GFst),
#[Value.slice x.fst x.snd.fst x.snd.snd] = #[Value.slice g2.a (cnt g2.s - g2.k) g2.c] ∧
(g2.k < cnt g2.s ∧
g2.s.size ≤ (67108864 : Nat) ∧ CellsAt w' g2.a (List.flatMap (sgnV g2.s) (List.drop g2.k (List.range (cnt g2.s))))) ∧
∀ (x1 : Nat) (w'1 : World),
x1 = firstN g2.s g2.k ∧ Ext w' w'1 →
bcase ((↑x1 : Int) == (↑x.snd.fst : Int))
(∃ (x2 : Nat), Value.int IntKind.i64 (↑g.size : Int) = Value.int IntKind.i64 (↑x2 : Int) ∧ x2 = nextL g ∧ Ext w w'1)
(∃ (k : Nat),
(↑x1 : Int) = (↑k : Int) ∧
k < x.snd.fst ∧
ptrE x.fst fun (b o : Nat) =>
∃ (n : Int),
w'1.cell? { block := b, off := o + k * (3 : Nat) + (1 : Nat) } = some (Value.int IntKind.i64 n) ∧
∃ (x2 : Nat), Value.int IntKind.i64 n = Value.int IntKind.i64 (↑x2 : Int) ∧ x2 = nextL g ∧ Ext w w'1))) :
    ((sSN nextL)).Ok Tryd.prog 78 :=
  ok_of_vc (sSN nextL) (annOf spRNextC) spRNextC (fun _ _ => rfl) (fun _ _ => rfl) hsp Tryd.func78 rfl (n := 1) (fun _ => rfl) (by kernel_rfl) (vcast (by kernel_rfl) h)

set_option maxRecDepth 1000000 in
theorem into_vc (hsp : SpecsOk Tryd.prog []) (h : ∀ (g : Int × Int × Int) (w : World),
True →
bcase (decide (g.fst < g.snd.fst))
(∃ (x : Int),
Value.int IntKind.i64 g.snd.fst = Value.int IntKind.i64 x ∧
(x = if g.fst < g.snd.fst then g.snd.fst else if g.fst > g.snd.snd then g.snd.snd else g.fst) ∧ w = w)
(bcase (decide (g.fst > g.snd.snd))
(∃ (x : Int),
Value.int IntKind.i64 g.snd.snd = Value.int IntKind.i64 x ∧
(x = if g.fst < g.snd.fst then g.snd.fst else if g.fst > g.snd.snd then g.snd.snd else g.fst) ∧ w = w)
(∃ (x : Int),
Value.int IntKind.i64 g.fst = Value.int IntKind.i64 x ∧
(x = if g.fst < g.snd.fst then g.snd.fst else if g.fst > g.snd.snd then g.snd.snd else g.fst) ∧ w = w))) :
    (sInto).Ok Tryd.prog 70 :=
  ok_of_vc sInto (annOf []) [] (fun _ _ => rfl) (fun _ _ => rfl) hsp Tryd.func70 rfl (n := 3) (fun _ => rfl) (by kernel_rfl) (vcast (by kernel_rfl) h)

end Go.Proofs.YthpjkgoahneldaaDoor
end

section
/-
  Verification conditions, printed by a program out of the specifications beside this text: each theorem says that the condition suffices. (Lean's kernel compares the printed condition with what 'wpE' computes.)
-/
set_option linter.unusedVariables false
namespace Go.Proofs.YthpjkgoahneldaaDoor
open Go Go.RowKit Vc Tb Cl

set_option maxRecDepth 1000000 in
theorem regional_vc (hsp : SpecsOk Tryd.prog []) (h : ∀ (g : Int) (w : World),
True →
∃ (x : Bool),
Value.bool (decide ((127462 : Int) ≤ g) && decide (g ≤ (127487 : Int))) = Value.bool x ∧ x = regB g ∧ Ext w w) :
    ((sRB regB)).Ok Tryd.prog 109 :=
  ok_of_vc (sRB regB) (annOf []) [] (fun _ _ => rfl) (fun _ _ => rfl) hsp Tryd.func109 rfl (n := 1) (fun _ => rfl) (by kernel_rfl) (vcast (by kernel_rfl) h)

set_option maxRecDepth 1000000 in
theorem joiner_vc (hsp : SpecsOk Tryd.prog []) (h : ∀ (g : Int) (w : World),
True → ∃ (x : Bool), Value.bool (g == (8204 : Int) || g == (8205 : Int)) = Value.bool x ∧ x = joinB g ∧ Ext w w) :
    ((sRB joinB)).Ok Tryd.prog 108 :=
  ok_of_vc (sRB joinB) (annOf []) [] (fun _ _ => rfl) (fun _ _ => rfl) hsp Tryd.func108 rfl (n := 1) (fun _ => rfl) (by kernel_rfl) (vcast (by kernel_rfl) h)

set_option maxRecDepth 1000000 in
theorem picture_vc (hsp : SpecsOk Tryd.prog spPic) (h : ∀ (g : Int) (w : World),
True →
∃ (g1 : Int),
#[Value.int IntKind.i32 g] = #[Value.int IntKind.i32 g1] ∧
True ∧
∀ (x : Int) (w' : World),
x = kindR g1 ∧ Ext w w' →
bcase (x == (7 : Int))
(∃ (g2 : Int × Bool),
#[Value.int IntKind.i32 g, Value.bool false] = #[Value.int IntKind.i32 g2.fst, Value.bool g2.snd] ∧
True ∧
∀ (x1 : Int) (w'1 : World),
x1 = wideR g2.fst g2.snd ∧ Ext w' w'1 →
∃ (x2 : Bool), Value.bool (x1 == (2 : Int)) = Value.bool x2 ∧ x2 = picB g ∧ Ext w w'1)
(∃ (x1 : Bool), Value.bool false = Value.bool x1 ∧ x1 = picB g ∧ Ext w w')) :
    ((sRB picB)).Ok Tryd.prog 110 :=
  ok_of_vc (sRB picB) (annOf spPic) spPic (fun _ _ => rfl) (fun _ _ => rfl) hsp Tryd.func110 rfl (n := 1) (fun _ => rfl) (by kernel_rfl) (vcast (by kernel_rfl) h)

set_option maxRecDepth 1000000 in
theorem alone_vc (hsp : SpecsOk Tryd.prog spAlone) (h : ∀ (g : Int) (w : World),
True →
∃ (g1 : Int),
#[Value.int IntKind.i32 g] = #[Value.int IntKind.i32 g1] ∧
True ∧
∀ (x : Int) (w' : World),
x = kindR g1 ∧ Ext w w' →
bcase (x == (0 : Int)) (∃ (x1 : Bool), Value.bool true = Value.bool x1 ∧ x1 = aloneB g ∧ Ext w w')
(bcase (x == (1 : Int))
(∃ (g2 : Int),
#[Value.int IntKind.i32 g] = #[Value.int IntKind.i32 g2] ∧
True ∧
∀ (x1 : Bool) (w'1 : World),
x1 = joinB g2 ∧ Ext w' w'1 → ∃ (x2 : Bool), (Value.bool !x1) = Value.bool x2 ∧ x2 = aloneB g ∧ Ext w w'1)
(∃ (x1 : Bool), Value.bool (g == (8232 : Int) || g == (8233 : Int)) = Value.bool x1 ∧ x1 = aloneB g ∧ Ext w w'))) :
    ((sRB aloneB)).Ok Tryd.prog 107 :=
  ok_of_vc (sRB aloneB) (annOf spAlone) spAlone (fun _ _ => rfl) (fun _ _ => rfl) hsp Tryd.func107 rfl (n := 1) (fun _ => rfl) (by kernel_rfl) (vcast (by kernel_rfl) h)

set_option maxRecDepth 1000000 in
theorem part_vc (hsp : SpecsOk Tryd.prog []) (h : ∀ (g : Int) (w : World),
True →
bcase (decide (g < (4352 : Int)) || decide (g > (55203 : Int)))
(∃ (x : Nat), Value.int IntKind.i64 (0 : Int) = Value.int IntKind.i64 (↑x : Int) ∧ x = partP g ∧ Ext w w)
(bcase (decide (g ≤ (4447 : Int)))
(∃ (x : Nat), Value.int IntKind.i64 (1 : Int) = Value.int IntKind.i64 (↑x : Int) ∧ x = partP g ∧ Ext w w)
(bcase (decide (g ≤ (4519 : Int)))
(∃ (x : Nat), Value.int IntKind.i64 (2 : Int) = Value.int IntKind.i64 (↑x : Int) ∧ x = partP g ∧ Ext w w)
(bcase (decide (g ≤ (4607 : Int)))
(∃ (x : Nat), Value.int IntKind.i64 (4 : Int) = Value.int IntKind.i64 (↑x : Int) ∧ x = partP g ∧ Ext w w)
(bcase (decide (g < (44032 : Int)))
(∃ (x : Nat), Value.int IntKind.i64 (0 : Int) = Value.int IntKind.i64 (↑x : Int) ∧ x = partP g ∧ Ext w w)
(InR IntKind.i32 (g - (44032 : Int)) ∧
(0 : Int) ≤ g - (44032 : Int) ∧
(0 : Int) < (28 : Int) ∧
bcase ((g - (44032 : Int)) % (28 : Int) == (0 : Int))
(∃ (x : Nat), Value.int IntKind.i64 (8 : Int) = Value.int IntKind.i64 (↑x : Int) ∧ x = partP g ∧ Ext w w)
(∃ (x : Nat), Value.int IntKind.i64 (16 : Int) = Value.int IntKind.i64 (↑x : Int) ∧ x = partP g ∧ Ext w w))))))) :
    ((sRN partP)).Ok Tryd.prog 131 :=
  ok_of_vc (sRN partP) (annOf []) [] (fun _ _ => rfl) (fun _ _ => rfl) hsp Tryd.func131 rfl (n := 1) (fun _ => rfl) (by kernel_rfl) (vcast (by kernel_rfl) h)

set_option maxRecDepth 1000000 in
theorem goesP_vc (hsp : SpecsOk Tryd.prog spGoes) (h : ∀ (g : Int × Int) (w : World),
True →
∃ (g1 : Int),
#[Value.int IntKind.i32 g.fst] = #[Value.int IntKind.i32 g1] ∧
True ∧
∀ (x : Nat) (w' : World),
x = partP g1 ∧ Ext w w' →
bcase ((↑x : Int) == (1 : Int))
(∃ (g2 : Int),
#[Value.int IntKind.i32 g.snd] = #[Value.int IntKind.i32 g2] ∧
True ∧
∀ (x1 : Nat) (w'1 : World),
x1 = partP g2 ∧ Ext w' w'1 →
∃ (x2 : Bool),
Value.bool
(IntKind.i64.wrap
(↑(BitVec.ofInt IntKind.i64.bits (27 : Int) &&& BitVec.ofInt IntKind.i64.bits (↑x1 : Int)).toNat : Int) !=
(0 : Int)) =
Value.bool x2 ∧
x2 = sylB g.fst g.snd ∧ Ext w w'1)
(bcase ((↑x : Int) == (2 : Int) || (↑x : Int) == (8 : Int))
(∃ (g2 : Int),
#[Value.int IntKind.i32 g.snd] = #[Value.int IntKind.i32 g2] ∧
True ∧
∀ (x1 : Nat) (w'1 : World),
x1 = partP g2 ∧ Ext w' w'1 →
∃ (x2 : Bool),
Value.bool
(IntKind.i64.wrap
(↑(BitVec.ofInt IntKind.i64.bits (6 : Int) &&& BitVec.ofInt IntKind.i64.bits (↑x1 : Int)).toNat : Int) !=
(0 : Int)) =
Value.bool x2 ∧
x2 = sylB g.fst g.snd ∧ Ext w w'1)
(bcase ((↑x : Int) == (4 : Int) || (↑x : Int) == (16 : Int))
(∃ (g2 : Int),
#[Value.int IntKind.i32 g.snd] = #[Value.int IntKind.i32 g2] ∧
True ∧
∀ (x1 : Nat) (w'1 : World),
x1 = partP g2 ∧ Ext w' w'1 →
∃ (x2 : Bool),
Value.bool
(IntKind.i64.wrap
(↑(BitVec.ofInt IntKind.i64.bits (4 : Int) &&& BitVec.ofInt IntKind.i64.bits (↑x1 : Int)).toNat : Int) !=
(0 : Int)) =
Value.bool x2 ∧
x2 = sylB g.fst g.snd ∧ Ext w w'1)
(∃ (g2 : Int),
#[Value.int IntKind.i32 g.snd] = #[Value.int IntKind.i32 g2] ∧
True ∧
∀ (x1 : Nat) (w'1 : World),
x1 = partP g2 ∧ Ext w' w'1 → ∃ (x2 : Bool), Value.bool false = Value.bool x2 ∧ x2 = sylB g.fst g.snd ∧ Ext w w'1)))) :
    ((sTwoB sylB)).Ok Tryd.prog 111 :=
  ok_of_vc (sTwoB sylB) (annOf spGoes) spGoes (fun _ _ => rfl) (fun _ _ => rfl) hsp Tryd.func111 rfl (n := 2) (fun _ => rfl) (by kernel_rfl) (vcast (by kernel_rfl) h)

set_option maxRecDepth 1000000 in
theorem rregional_vc (hsp : SpecsOk Tryd.prog []) (h : ∀ (g : Int) (w : World),
True →
∃ (x : Bool),
Value.bool (decide (g ≥ (127462 : Int)) && decide (g ≤ (127487 : Int))) = Value.bool x ∧ x = regB g ∧ Ext w w) :
    ((sRB regB)).Ok Tryd.prog 121 :=
  ok_of_vc (sRB regB) (annOf []) [] (fun _ _ => rfl) (fun _ _ => rfl) hsp Tryd.func121 rfl (n := 1) (fun _ => rfl) (by kernel_rfl) (vcast (by kernel_rfl) h)

set_option maxRecDepth 1000000 in
theorem rjoiner_vc (hsp : SpecsOk Tryd.prog []) (h : ∀ (g : Int) (w : World),
True → ∃ (x : Bool), Value.bool (g == (8204 : Int) || g == (8205 : Int)) = Value.bool x ∧ x = joinB g ∧ Ext w w) :
    ((sRB joinB)).Ok Tryd.prog 118 :=
  ok_of_vc (sRB joinB) (annOf []) [] (fun _ _ => rfl) (fun _ _ => rfl) hsp Tryd.func118 rfl (n := 1) (fun _ => rfl) (by kernel_rfl) (vcast (by kernel_rfl) h)

set_option maxRecDepth 1000000 in
theorem rpicture_vc (hsp : SpecsOk Tryd.prog spRPic) (h : ∀ (g : Int) (w : World),
True →
∃ (g1 : Int),
#[Value.int IntKind.i32 g] = #[Value.int IntKind.i32 g1] ∧
True ∧
∀ (x : Int) (w' : World),
x = kindR g1 ∧ w' = w →
bcase (x == (7 : Int))
(∃ (g2 : Int × Bool),
#[Value.int IntKind.i32 g, Value.bool false] = #[Value.int IntKind.i32 g2.fst, Value.bool g2.snd] ∧
True ∧
∀ (x1 : Int) (w'1 : World),
x1 = wideR g2.fst g2.snd ∧ w'1 = w' →
∃ (x2 : Bool), Value.bool (x1 == (2 : Int)) = Value.bool x2 ∧ x2 = picB g ∧ Ext w w'1)
(∃ (x1 : Bool), Value.bool false = Value.bool x1 ∧ x1 = picB g ∧ Ext w w')) :
    ((sRB picB)).Ok Tryd.prog 141 :=
  ok_of_vc (sRB picB) (annOf spRPic) spRPic (fun _ _ => rfl) (fun _ _ => rfl) hsp Tryd.func141 rfl (n := 1) (fun _ => rfl) (by kernel_rfl) (vcast (by kernel_rfl) h)

set_option maxRecDepth 1000000 in
theorem ralone_vc (hsp : SpecsOk Tryd.prog spRAlone) (h : ∀ (g : Int) (w : World),
True →
∃ (g1 : Int),
#[Value.int IntKind.i32 g] = #[Value.int IntKind.i32 g1] ∧
True ∧
∀ (x : Int) (w' : World),
x = kindR g1 ∧ w' = w →
bcase (x == (0 : Int)) (∃ (x1 : Bool), Value.bool true = Value.bool x1 ∧ x1 = aloneB g ∧ Ext w w')
(bcase (g == (8232 : Int)) (∃ (x1 : Bool), Value.bool true = Value.bool x1 ∧ x1 = aloneB g ∧ Ext w w')
(bcase (g == (8233 : Int)) (∃ (x1 : Bool), Value.bool true = Value.bool x1 ∧ x1 = aloneB g ∧ Ext w w')
(bcase (x == (1 : Int))
(∃ (g2 : Int),
#[Value.int IntKind.i32 g] = #[Value.int IntKind.i32 g2] ∧
True ∧
∀ (x1 : Bool) (w'1 : World),
x1 = joinB g2 ∧ Ext w' w'1 → ∃ (x2 : Bool), (Value.bool !x1) = Value.bool x2 ∧ x2 = aloneB g ∧ Ext w w'1)
(∃ (x1 : Bool), Value.bool false = Value.bool x1 ∧ x1 = aloneB g ∧ Ext w w'))))) :
    ((sRB aloneB)).Ok Tryd.prog 124 :=
  ok_of_vc (sRB aloneB) (annOf spRAlone) spRAlone (fun _ _ => rfl) (fun _ _ => rfl) hsp Tryd.func124 rfl (n := 1) (fun _ => rfl) (by kernel_rfl) (vcast (by kernel_rfl) h)

set_option maxRecDepth 1000000 in
theorem rpart_vc (hsp : SpecsOk Tryd.prog []) (h : ∀ (g : Int) (w : World),
True →
bcase (decide (g ≥ (4352 : Int)) && decide (g ≤ (4447 : Int)))
(∃ (x : Nat), Value.int IntKind.i64 (1 : Int) = Value.int IntKind.i64 (↑x : Int) ∧ x = partN g ∧ Ext w w)
(bcase (decide (g ≥ (4448 : Int)) && decide (g ≤ (4519 : Int)))
(∃ (x : Nat), Value.int IntKind.i64 (2 : Int) = Value.int IntKind.i64 (↑x : Int) ∧ x = partN g ∧ Ext w w)
(bcase (decide (g ≥ (4520 : Int)) && decide (g ≤ (4607 : Int)))
(∃ (x : Nat), Value.int IntKind.i64 (3 : Int) = Value.int IntKind.i64 (↑x : Int) ∧ x = partN g ∧ Ext w w)
(bcase (decide (g ≥ (44032 : Int)))
(bcase (decide (g ≤ (55203 : Int)))
(InR IntKind.i32 (g - (44032 : Int)) ∧
(0 : Int) ≤ g - (44032 : Int) ∧
(0 : Int) < (28 : Int) ∧
bcase ((g - (44032 : Int)) % (28 : Int) == (0 : Int))
(∃ (x : Nat), Value.int IntKind.i64 (4 : Int) = Value.int IntKind.i64 (↑x : Int) ∧ x = partN g ∧ Ext w w)
(bcase (decide (g ≥ (44032 : Int)) && decide (g ≤ (55203 : Int)))
(∃ (x : Nat), Value.int IntKind.i64 (5 : Int) = Value.int IntKind.i64 (↑x : Int) ∧ x = partN g ∧ Ext w w)
(∃ (x : Nat), Value.int IntKind.i64 (0 : Int) = Value.int IntKind.i64 (↑x : Int) ∧ x = partN g ∧ Ext w w)))
(bcase (decide (g ≥ (44032 : Int)) && decide (g ≤ (55203 : Int)))
(∃ (x : Nat), Value.int IntKind.i64 (5 : Int) = Value.int IntKind.i64 (↑x : Int) ∧ x = partN g ∧ Ext w w)
(∃ (x : Nat), Value.int IntKind.i64 (0 : Int) = Value.int IntKind.i64 (↑x : Int) ∧ x = partN g ∧ Ext w w)))
(bcase (decide (g ≥ (44032 : Int)) && decide (g ≤ (55203 : Int)))
(∃ (x : Nat), Value.int IntKind.i64 (5 : Int) = Value.int IntKind.i64 (↑x : Int) ∧ x = partN g ∧ Ext w w)
(∃ (x : Nat), Value.int IntKind.i64 (0 : Int) = Value.int IntKind.i64 (↑x : Int) ∧ x = partN g ∧ Ext w w)))))) :
    ((sRN partN)).Ok Tryd.prog 150 :=
  ok_of_vc (sRN partN) (annOf []) [] (fun _ _ => rfl) (fun _ _ => rfl) hsp Tryd.func150 rfl (n := 1) (fun _ => rfl) (by kernel_rfl) (vcast (by kernel_rfl) h)

set_option maxRecDepth 1000000 in
theorem syl_vc (hsp : SpecsOk Tryd.prog spSyl) (h : ∀ (g : Int × Int) (w : World),
True →
∃ (g1 : Int),
#[Value.int IntKind.i32 g.fst] = #[Value.int IntKind.i32 g1] ∧
True ∧
∀ (x : Nat) (w' : World),
x = partN g1 ∧ Ext w w' →
∃ (g2 : Int),
#[Value.int IntKind.i32 g.snd] = #[Value.int IntKind.i32 g2] ∧
True ∧
∀ (x1 : Nat) (w'1 : World),
x1 = partN g2 ∧ Ext w' w'1 →
bcase ((↑x : Int) == (1 : Int))
(∃ (x2 : Bool),
Value.bool
((↑x1 : Int) == (1 : Int) || ((↑x1 : Int) == (2 : Int) || ((↑x1 : Int) == (4 : Int) || (↑x1 : Int) == (5 : Int)))) =
Value.bool x2 ∧
x2 = sylB g.fst g.snd ∧ Ext w w'1)
(bcase ((↑x : Int) == (2 : Int) || (↑x : Int) == (4 : Int))
(∃ (x2 : Bool),
Value.bool ((↑x1 : Int) == (2 : Int) || (↑x1 : Int) == (3 : Int)) = Value.bool x2 ∧ x2 = sylB g.fst g.snd ∧ Ext w w'1)
(bcase ((↑x : Int) == (3 : Int) || (↑x : Int) == (5 : Int))
(∃ (x2 : Bool), Value.bool ((↑x1 : Int) == (3 : Int)) = Value.bool x2 ∧ x2 = sylB g.fst g.snd ∧ Ext w w'1)
(∃ (x2 : Bool), Value.bool false = Value.bool x2 ∧ x2 = sylB g.fst g.snd ∧ Ext w w'1)))) :
    ((sTwoB sylB)).Ok Tryd.prog 142 :=
  ok_of_vc (sTwoB sylB) (annOf spSyl) spSyl (fun _ _ => rfl) (fun _ _ => rfl) hsp Tryd.func142 rfl (n := 2) (fun _ => rfl) (by kernel_rfl) (vcast (by kernel_rfl) h)

set_option maxRecDepth 1000000 in
theorem takes_vc (hsp : SpecsOk Tryd.prog spTakes) (h : ∀ (g : GTk) (w : World),
True →
∃ (g1 : Int),
#[Value.int IntKind.i32 g.y] = #[Value.int IntKind.i32 g1] ∧
True ∧
∀ (x : Int) (w' : World),
x = kindR g1 ∧ w' = w →
bcase (x == (2 : Int)) (∃ (x1 : Bool), Value.bool true = Value.bool x1 ∧ x1 = takesB g.x g.z g.y g.n ∧ Ext w w')
(∃ (g2 : Int),
#[Value.int IntKind.i32 g.y] = #[Value.int IntKind.i32 g2] ∧
True ∧
∀ (x1 : Bool) (w'1 : World),
x1 = joinB g2 ∧ Ext w' w'1 →
bcase x1 (∃ (x2 : Bool), Value.bool true = Value.bool x2 ∧ x2 = takesB g.x g.z g.y g.n ∧ Ext w w'1)
(bcase ((↑g.n : Int) == (1 : Int))
(∃ (g3 : Int),
#[Value.int IntKind.i32 g.x] = #[Value.int IntKind.i32 g3] ∧
True ∧
∀ (x2 : Bool) (w'2 : World),
x2 = regB g3 ∧ Ext w'1 w'2 →
bcase x2
(∃ (g4 : Int),
#[Value.int IntKind.i32 g.y] = #[Value.int IntKind.i32 g4] ∧
True ∧
∀ (x3 : Bool) (w'3 : World),
x3 = regB g4 ∧ Ext w'2 w'3 →
bcase x3 (∃ (x4 : Bool), Value.bool true = Value.bool x4 ∧ x4 = takesB g.x g.z g.y g.n ∧ Ext w w'3)
(bcase (g.z == (8205 : Int))
(∃ (g5 : Int),
#[Value.int IntKind.i32 g.x] = #[Value.int IntKind.i32 g5] ∧
True ∧
∀ (x4 : Bool) (w'4 : World),
x4 = picB g5 ∧ Ext w'3 w'4 →
bcase x4
(∃ (g6 : Int),
#[Value.int IntKind.i32 g.y] = #[Value.int IntKind.i32 g6] ∧
True ∧
∀ (x5 : Bool) (w'5 : World),
x5 = picB g6 ∧ Ext w'4 w'5 →
bcase x5 (∃ (x6 : Bool), Value.bool true = Value.bool x6 ∧ x6 = takesB g.x g.z g.y g.n ∧ Ext w w'5)
(∃ (g7 : Int × Int),
#[Value.int IntKind.i32 g.z, Value.int IntKind.i32 g.y] =
#[Value.int IntKind.i32 g7.fst, Value.int IntKind.i32 g7.snd] ∧
True ∧
∀ (x6 : Bool) (w'6 : World),
x6 = sylB g7.fst g7.snd ∧ Ext w'5 w'6 →
∃ (x7 : Bool), Value.bool x6 = Value.bool x7 ∧ x7 = takesB g.x g.z g.y g.n ∧ Ext w w'6))
(∃ (g6 : Int × Int),
#[Value.int IntKind.i32 g.z, Value.int IntKind.i32 g.y] =
#[Value.int IntKind.i32 g6.fst, Value.int IntKind.i32 g6.snd] ∧
True ∧
∀ (x5 : Bool) (w'5 : World),
x5 = sylB g6.fst g6.snd ∧ Ext w'4 w'5 →
∃ (x6 : Bool), Value.bool x5 = Value.bool x6 ∧ x6 = takesB g.x g.z g.y g.n ∧ Ext w w'5))
(∃ (g5 : Int × Int),
#[Value.int IntKind.i32 g.z, Value.int IntKind.i32 g.y] =
#[Value.int IntKind.i32 g5.fst, Value.int IntKind.i32 g5.snd] ∧
True ∧
∀ (x4 : Bool) (w'4 : World),
x4 = sylB g5.fst g5.snd ∧ Ext w'3 w'4 →
∃ (x5 : Bool), Value.bool x4 = Value.bool x5 ∧ x5 = takesB g.x g.z g.y g.n ∧ Ext w w'4)))
(bcase (g.z == (8205 : Int))
(∃ (g4 : Int),
#[Value.int IntKind.i32 g.x] = #[Value.int IntKind.i32 g4] ∧
True ∧
∀ (x3 : Bool) (w'3 : World),
x3 = picB g4 ∧ Ext w'2 w'3 →
bcase x3
(∃ (g5 : Int),
#[Value.int IntKind.i32 g.y] = #[Value.int IntKind.i32 g5] ∧
True ∧
∀ (x4 : Bool) (w'4 : World),
x4 = picB g5 ∧ Ext w'3 w'4 →
bcase x4 (∃ (x5 : Bool), Value.bool true = Value.bool x5 ∧ x5 = takesB g.x g.z g.y g.n ∧ Ext w w'4)
(∃ (g6 : Int × Int),
#[Value.int IntKind.i32 g.z, Value.int IntKind.i32 g.y] =
#[Value.int IntKind.i32 g6.fst, Value.int IntKind.i32 g6.snd] ∧
True ∧
∀ (x5 : Bool) (w'5 : World),
x5 = sylB g6.fst g6.snd ∧ Ext w'4 w'5 →
∃ (x6 : Bool), Value.bool x5 = Value.bool x6 ∧ x6 = takesB g.x g.z g.y g.n ∧ Ext w w'5))
(∃ (g5 : Int × Int),
#[Value.int IntKind.i32 g.z, Value.int IntKind.i32 g.y] =
#[Value.int IntKind.i32 g5.fst, Value.int IntKind.i32 g5.snd] ∧
True ∧
∀ (x4 : Bool) (w'4 : World),
x4 = sylB g5.fst g5.snd ∧ Ext w'3 w'4 →
∃ (x5 : Bool), Value.bool x4 = Value.bool x5 ∧ x5 = takesB g.x g.z g.y g.n ∧ Ext w w'4))
(∃ (g4 : Int × Int),
#[Value.int IntKind.i32 g.z, Value.int IntKind.i32 g.y] =
#[Value.int IntKind.i32 g4.fst, Value.int IntKind.i32 g4.snd] ∧
True ∧
∀ (x3 : Bool) (w'3 : World),
x3 = sylB g4.fst g4.snd ∧ Ext w'2 w'3 →
∃ (x4 : Bool), Value.bool x3 = Value.bool x4 ∧ x4 = takesB g.x g.z g.y g.n ∧ Ext w w'3)))
(bcase (g.z == (8205 : Int))
(∃ (g3 : Int),
#[Value.int IntKind.i32 g.x] = #[Value.int IntKind.i32 g3] ∧
True ∧
∀ (x2 : Bool) (w'2 : World),
x2 = picB g3 ∧ Ext w'1 w'2 →
bcase x2
(∃ (g4 : Int),
#[Value.int IntKind.i32 g.y] = #[Value.int IntKind.i32 g4] ∧
True ∧
∀ (x3 : Bool) (w'3 : World),
x3 = picB g4 ∧ Ext w'2 w'3 →
bcase x3 (∃ (x4 : Bool), Value.bool true = Value.bool x4 ∧ x4 = takesB g.x g.z g.y g.n ∧ Ext w w'3)
(∃ (g5 : Int × Int),
#[Value.int IntKind.i32 g.z, Value.int IntKind.i32 g.y] =
#[Value.int IntKind.i32 g5.fst, Value.int IntKind.i32 g5.snd] ∧
True ∧
∀ (x4 : Bool) (w'4 : World),
x4 = sylB g5.fst g5.snd ∧ Ext w'3 w'4 →
∃ (x5 : Bool), Value.bool x4 = Value.bool x5 ∧ x5 = takesB g.x g.z g.y g.n ∧ Ext w w'4))
(∃ (g4 : Int × Int),
#[Value.int IntKind.i32 g.z, Value.int IntKind.i32 g.y] =
#[Value.int IntKind.i32 g4.fst, Value.int IntKind.i32 g4.snd] ∧
True ∧
∀ (x3 : Bool) (w'3 : World),
x3 = sylB g4.fst g4.snd ∧ Ext w'2 w'3 →
∃ (x4 : Bool), Value.bool x3 = Value.bool x4 ∧ x4 = takesB g.x g.z g.y g.n ∧ Ext w w'3))
(∃ (g3 : Int × Int),
#[Value.int IntKind.i32 g.z, Value.int IntKind.i32 g.y] =
#[Value.int IntKind.i32 g3.fst, Value.int IntKind.i32 g3.snd] ∧
True ∧
∀ (x2 : Bool) (w'2 : World),
x2 = sylB g3.fst g3.snd ∧ Ext w'1 w'2 →
∃ (x3 : Bool), Value.bool x2 = Value.bool x3 ∧ x3 = takesB g.x g.z g.y g.n ∧ Ext w w'2))))) :
    (sTakes).Ok Tryd.prog 125 :=
  ok_of_vc sTakes (annOf spTakes) spTakes (fun _ _ => rfl) (fun _ _ => rfl) hsp Tryd.func125 rfl (n := 4) (fun _ => rfl) (by kernel_rfl) (vcast (by kernel_rfl) h)

end Go.Proofs.YthpjkgoahneldaaDoor
end
