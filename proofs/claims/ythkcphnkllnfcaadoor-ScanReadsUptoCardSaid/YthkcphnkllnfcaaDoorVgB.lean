/-
  Verification conditions, printed by a program out of the specifications beside this text: each theorem says that the condition suffices. (Lean's kernel compares the printed condition with what 'wpE' computes.)
-/
import Derived.Test.YthkcphnkllnfcaaDoorSpB
import Derived.Test.YthkcphnkllnfcaaDoorProg
import Derived.KernelRfl
set_option linter.unusedVariables false
namespace Go.Proofs.YthkcphnkllnfcaaDoor
open Go Go.RowKit Vc Ut

set_option maxRecDepth 1000000 in
theorem all_vc (hsp : SpecsOk Tryd.prog spAll) (h : ∀ (g : ByteArray) (w : World),
U8 w ∧ g.size ≤ (67108864 : Nat) →
(∃ (x : Nat × Option Addr × Nat),
Value.int IntKind.i64 (0 : Int) = Value.int IntKind.i64 (↑(pos g x.fst) : Int) ∧
Value.slice none (0 : Nat) (0 : Nat) = Value.slice x.snd.fst x.fst x.snd.snd ∧
x.fst ≤ cnt g ∧ Made w w (39 : TypeId) (4 : Nat) x.snd.fst x.fst (List.flatMap (oneV g) (List.range x.fst)) x.snd.snd) ∧
∀ (u : Nat → Value) (x : Nat × Option Addr × Nat) (w' : World),
x.fst ≤ cnt g ∧ Made w w' (39 : TypeId) (4 : Nat) x.snd.fst x.fst (List.flatMap (oneV g) (List.range x.fst)) x.snd.snd →
bcase (decide ((↑(pos g x.fst) : Int) < (↑g.size : Int)))
(∃ (k : Nat),
(↑(pos g x.fst) : Int) = (↑k : Int) ∧
k ≤ g.size ∧
g.size ≤ g.size ∧
∃ (g1 : ByteArray),
#[Value.string (g.extract k g.size)] = #[Value.string g1] ∧
(U8 w' ∧ g1.size ≤ (67108864 : Nat)) ∧
∀ (x1 : Int × Nat) (w'1 : World),
x1.fst = nxR g1 ∧ x1.snd = nxN g1 ∧ Ext w' w'1 →
bcase ((↑x1.snd : Int) == (1 : Int))
(∀ (b : Nat) (w1 : World),
New w'1
(Obj.cells
#[Value.int IntKind.i64 (↑(pos g x.fst) : Int), Value.int IntKind.i32 x1.fst, Value.int IntKind.i64 (↑x1.snd : Int),
Value.bool (x1.fst == (65533 : Int))]
(39 : Nat))
b w1 →
∃ (a' : Option Addr),
∃ (c' : Nat),
∃ (w'2 : World),
AppRun Tryd.prog #[(32 : Nat), (32 : Nat)] (32 : Nat) (Value.slice x.snd.fst x.fst x.snd.snd)
(Value.slice (some { block := b, off := (0 : Nat) }) (1 : Nat) (1 : Nat)) w1 a' (x.fst + (1 : Nat)) c' w'2 ∧
KO w1 w'2 ∧
InR IntKind.i64 ((↑(pos g x.fst) : Int) + (↑x1.snd : Int)) ∧
∃ (y : Nat × Option Addr × Nat),
Value.int IntKind.i64 ((↑(pos g x.fst) : Int) + (↑x1.snd : Int)) = Value.int IntKind.i64 (↑(pos g y.fst) : Int) ∧
Value.slice a' (x.fst + (1 : Nat)) c' = Value.slice y.snd.fst y.fst y.snd.snd ∧
(y.fst ≤ cnt g ∧
Made w w'2 (39 : TypeId) (4 : Nat) y.snd.fst y.fst (List.flatMap (oneV g) (List.range y.fst)) y.snd.snd) ∧
cnt g - y.fst < cnt g - x.fst)
(∀ (b : Nat) (w1 : World),
New w'1
(Obj.cells
#[Value.int IntKind.i64 (↑(pos g x.fst) : Int), Value.int IntKind.i32 x1.fst, Value.int IntKind.i64 (↑x1.snd : Int),
Value.bool false]
(39 : Nat))
b w1 →
∃ (a' : Option Addr),
∃ (c' : Nat),
∃ (w'2 : World),
AppRun Tryd.prog #[(32 : Nat), (32 : Nat)] (32 : Nat) (Value.slice x.snd.fst x.fst x.snd.snd)
(Value.slice (some { block := b, off := (0 : Nat) }) (1 : Nat) (1 : Nat)) w1 a' (x.fst + (1 : Nat)) c' w'2 ∧
KO w1 w'2 ∧
InR IntKind.i64 ((↑(pos g x.fst) : Int) + (↑x1.snd : Int)) ∧
∃ (y : Nat × Option Addr × Nat),
Value.int IntKind.i64 ((↑(pos g x.fst) : Int) + (↑x1.snd : Int)) = Value.int IntKind.i64 (↑(pos g y.fst) : Int) ∧
Value.slice a' (x.fst + (1 : Nat)) c' = Value.slice y.snd.fst y.fst y.snd.snd ∧
(y.fst ≤ cnt g ∧
Made w w'2 (39 : TypeId) (4 : Nat) y.snd.fst y.fst (List.flatMap (oneV g) (List.range y.fst)) y.snd.snd) ∧
cnt g - y.fst < cnt g - x.fst))
(∃ (x1 : Option Addr × Nat × Nat),
Value.slice x.snd.fst x.fst x.snd.snd = Value.slice x1.fst x1.snd.fst x1.snd.snd ∧
x1.snd.fst = (allN g).length ∧
Made w w' (39 : TypeId) (4 : Nat) x1.fst x1.snd.fst (List.flatMap (oneV g) (allN g)) x1.snd.snd)) :
    ((sOnes allN)).Ok Tryd.prog 27 :=
  ok_of_vc (sOnes allN) annAll spAll (fun _ _ => rfl) (fun _ _ => rfl) hsp Tryd.func27 rfl (n := 1) (fun _ => rfl) (by kernel_rfl) (vcast (by kernel_rfl) h)

set_option maxRecDepth 1000000 in
theorem rlast_vc (hsp : SpecsOk Tryd.prog spR) (h : ∀ (g : ByteArray) (w : World),
U8 w ∧ g.size ≤ (67108864 : Nat) →
∃ (g1 : ByteArray),
#[Value.string g] = #[Value.string g1] ∧
(U8 w ∧ g1.size ≤ (67108864 : Nat)) ∧
∀ (x : Option Addr × Nat × Nat) (w' : World),
x.snd.fst = (allN g1).length ∧
Made w w' (39 : TypeId) (4 : Nat) x.fst x.snd.fst (List.flatMap (oneV g1) (allN g1)) x.snd.snd →
bcase ((↑x.snd.fst : Int) == (0 : Int))
(∃ (x1 : Int × Nat),
Value.tuple #[Value.int IntKind.i32 (65533 : Int), Value.int IntKind.i64 (0 : Int)] =
Value.tuple #[Value.int IntKind.i32 x1.fst, Value.int IntKind.i64 (↑x1.snd : Int)] ∧
x1.fst = lsR g ∧ x1.snd = lsN g ∧ Ext w w')
(∀ (w1 : World),
Drew w' w1 →
InR IntKind.i64 ((↑x.snd.fst : Int) - (1 : Int)) ∧
∃ (k : Nat),
(↑x.snd.fst : Int) - (1 : Int) = (↑k : Int) ∧
k < x.snd.fst ∧
ptrE x.fst fun (b o : Nat) =>
∃ (n : Int),
w'.cell? { block := b, off := o + k * (4 : Nat) + (1 : Nat) } = some (Value.int IntKind.i32 n) ∧
InR IntKind.i64 ((↑x.snd.fst : Int) - (1 : Int)) ∧
∃ (k1 : Nat),
(↑x.snd.fst : Int) - (1 : Int) = (↑k1 : Int) ∧
k1 < x.snd.fst ∧
ptrE x.fst fun (b1 o1 : Nat) =>
∃ (n1 : Int),
w'.cell? { block := b1, off := o1 + k1 * (4 : Nat) + (2 : Nat) } = some (Value.int IntKind.i64 n1) ∧
∃ (x1 : Int × Nat),
Value.tuple #[Value.int IntKind.i32 n, Value.int IntKind.i64 n1] =
Value.tuple #[Value.int IntKind.i32 x1.fst, Value.int IntKind.i64 (↑x1.snd : Int)] ∧
x1.fst = lsR g ∧ x1.snd = lsN g ∧ Ext w w1)) :
    ((sDec lsR lsN)).Ok Tryd.prog 17 :=
  ok_of_vc (sDec lsR lsN) (annOf spR) spR (fun _ _ => rfl) (fun _ _ => rfl) hsp Tryd.func17 rfl (n := 1) (fun _ => rfl) (by kernel_rfl) (vcast (by kernel_rfl) h)

set_option maxRecDepth 1000000 in
theorem rback_vc (hsp : SpecsOk Tryd.prog spR) (h : ∀ (g : ByteArray) (w : World),
U8 w ∧ g.size ≤ (67108864 : Nat) →
∃ (g1 : ByteArray),
#[Value.string g] = #[Value.string g1] ∧
(U8 w ∧ g1.size ≤ (67108864 : Nat)) ∧
∀ (x : Option Addr × Nat × Nat) (w' : World),
x.snd.fst = (allN g1).length ∧
Made w w' (39 : TypeId) (4 : Nat) x.fst x.snd.fst (List.flatMap (oneV g1) (allN g1)) x.snd.snd →
InR IntKind.i64 ((↑x.snd.fst : Int) - (1 : Int)) ∧
(∃ (x1 : Nat × Option Addr × Nat),
Value.int IntKind.i64 ((↑x.snd.fst : Int) - (1 : Int)) =
Value.int IntKind.i64 ((↑(cnt g) : Int) - (1 : Int) - (↑x1.fst : Int)) ∧
Value.slice none (0 : Nat) (0 : Nat) = Value.slice x1.snd.fst x1.fst x1.snd.snd ∧
x1.fst ≤ cnt g ∧
Made w' w' (39 : TypeId) (4 : Nat) x1.snd.fst x1.fst (List.flatMap (oneV g) (List.take x1.fst (backN g))) x1.snd.snd) ∧
∀ (u : Nat → Value) (x1 : Nat × Option Addr × Nat) (w'1 : World),
x1.fst ≤ cnt g ∧
Made w' w'1 (39 : TypeId) (4 : Nat) x1.snd.fst x1.fst (List.flatMap (oneV g) (List.take x1.fst (backN g))) x1.snd.snd →
bcase (decide ((↑(cnt g) : Int) - (1 : Int) - (↑x1.fst : Int) ≥ (0 : Int)))
(∃ (k : Nat),
(↑(cnt g) : Int) - (1 : Int) - (↑x1.fst : Int) = (↑k : Int) ∧
k < x.snd.fst ∧
ptrE x.fst fun (b o : Nat) =>
∃ (n : Int),
w'1.cell? { block := b, off := o + k * (4 : Nat) } = some (Value.int IntKind.i64 n) ∧
∃ (n1 : Int),
w'1.cell? { block := b, off := o + k * (4 : Nat) + (1 : Nat) } = some (Value.int IntKind.i32 n1) ∧
∃ (n2 : Int),
w'1.cell? { block := b, off := o + k * (4 : Nat) + (2 : Nat) } = some (Value.int IntKind.i64 n2) ∧
∃ (b1 : Bool),
w'1.cell? { block := b, off := o + k * (4 : Nat) + (3 : Nat) } = some (Value.bool b1) ∧
∀ (b2 : Nat) (w1 : World),
New w'1
(Obj.cells #[Value.int IntKind.i64 n, Value.int IntKind.i32 n1, Value.int IntKind.i64 n2, Value.bool b1] (39 : Nat)) b2
w1 →
∃ (a' : Option Addr),
∃ (c' : Nat),
∃ (w'2 : World),
AppRun Tryd.prog #[(32 : Nat), (32 : Nat)] (32 : Nat) (Value.slice x1.snd.fst x1.fst x1.snd.snd)
(Value.slice (some { block := b2, off := (0 : Nat) }) (1 : Nat) (1 : Nat)) w1 a' (x1.fst + (1 : Nat)) c' w'2 ∧
KO w1 w'2 ∧
InR IntKind.i64 ((↑(cnt g) : Int) - (1 : Int) - (↑x1.fst : Int) - (1 : Int)) ∧
∃ (y : Nat × Option Addr × Nat),
Value.int IntKind.i64 ((↑(cnt g) : Int) - (1 : Int) - (↑x1.fst : Int) - (1 : Int)) =
Value.int IntKind.i64 ((↑(cnt g) : Int) - (1 : Int) - (↑y.fst : Int)) ∧
Value.slice a' (x1.fst + (1 : Nat)) c' = Value.slice y.snd.fst y.fst y.snd.snd ∧
(y.fst ≤ cnt g ∧
Made w' w'2 (39 : TypeId) (4 : Nat) y.snd.fst y.fst (List.flatMap (oneV g) (List.take y.fst (backN g))) y.snd.snd) ∧
cnt g - y.fst < cnt g - x1.fst)
(∃ (x2 : Option Addr × Nat × Nat),
Value.slice x1.snd.fst x1.fst x1.snd.snd = Value.slice x2.fst x2.snd.fst x2.snd.snd ∧
x2.snd.fst = (backN g).length ∧
Made w w'1 (39 : TypeId) (4 : Nat) x2.fst x2.snd.fst (List.flatMap (oneV g) (backN g)) x2.snd.snd)) :
    ((sOnes backN)).Ok Tryd.prog 28 :=
  ok_of_vc (sOnes backN) annRBack spR (fun _ _ => rfl) (fun _ _ => rfl) hsp Tryd.func28 rfl (n := 1) (fun _ => rfl) (by kernel_rfl) (vcast (by kernel_rfl) h)

set_option maxRecDepth 1000000 in
theorem rrunes_vc (hsp : SpecsOk Tryd.prog spR) (h : ∀ (g : ByteArray) (w : World),
U8 w ∧ g.size ≤ (67108864 : Nat) →
∃ (g1 : ByteArray),
#[Value.string g] = #[Value.string g1] ∧
(U8 w ∧ g1.size ≤ (67108864 : Nat)) ∧
∀ (x : Option Addr × Nat × Nat) (w' : World),
x.snd.fst = (allN g1).length ∧
Made w w' (39 : TypeId) (4 : Nat) x.fst x.snd.fst (List.flatMap (oneV g1) (allN g1)) x.snd.snd →
(∃ (x1 : Nat × Option Addr × Nat),
Value.int IntKind.i64 (0 : Int) = Value.int IntKind.i64 (↑x1.fst : Int) ∧
Value.slice none (0 : Nat) (0 : Nat) = Value.slice x1.snd.fst x1.fst x1.snd.snd ∧
x1.fst ≤ cnt g ∧
Made w' w' (21 : TypeId) (1 : Nat) x1.snd.fst x1.fst (List.map (Value.int IntKind.i32) (List.take x1.fst (runes g)))
x1.snd.snd) ∧
∀ (u : Nat → Value) (x1 : Nat × Option Addr × Nat) (w'1 : World),
x1.fst ≤ cnt g ∧
Made w' w'1 (21 : TypeId) (1 : Nat) x1.snd.fst x1.fst (List.map (Value.int IntKind.i32) (List.take x1.fst (runes g)))
x1.snd.snd →
bcase (decide ((↑x1.fst : Int) < (↑x.snd.fst : Int)))
(∃ (k : Nat),
(↑x1.fst : Int) = (↑k : Int) ∧
k < x.snd.fst ∧
ptrE x.fst fun (b o : Nat) =>
∃ (n : Int),
w'1.cell? { block := b, off := o + k * (4 : Nat) + (1 : Nat) } = some (Value.int IntKind.i32 n) ∧
∀ (b1 : Nat) (w1 : World),
New w'1 (Obj.cells #[Value.int IntKind.i32 n] (21 : Nat)) b1 w1 →
∃ (a' : Option Addr),
∃ (c' : Nat),
∃ (w'2 : World),
AppRun Tryd.prog #[(26 : Nat), (26 : Nat)] (26 : Nat) (Value.slice x1.snd.fst x1.fst x1.snd.snd)
(Value.slice (some { block := b1, off := (0 : Nat) }) (1 : Nat) (1 : Nat)) w1 a' (x1.fst + (1 : Nat)) c' w'2 ∧
KO w1 w'2 ∧
InR IntKind.i64 ((↑x1.fst : Int) + (1 : Int)) ∧
∃ (y : Nat × Option Addr × Nat),
Value.int IntKind.i64 ((↑x1.fst : Int) + (1 : Int)) = Value.int IntKind.i64 (↑y.fst : Int) ∧
Value.slice a' (x1.fst + (1 : Nat)) c' = Value.slice y.snd.fst y.fst y.snd.snd ∧
(y.fst ≤ cnt g ∧
Made w' w'2 (21 : TypeId) (1 : Nat) y.snd.fst y.fst (List.map (Value.int IntKind.i32) (List.take y.fst (runes g)))
y.snd.snd) ∧
cnt g - y.fst < cnt g - x1.fst)
(∃ (x2 : Option Addr × Nat × Nat),
Value.slice x1.snd.fst x1.fst x1.snd.snd = Value.slice x2.fst x2.snd.fst x2.snd.snd ∧
x2.snd.fst = (runes g).length ∧
Made w w'1 (21 : TypeId) (1 : Nat) x2.fst x2.snd.fst (List.map (Value.int IntKind.i32) (runes g)) x2.snd.snd)) :
    ((sSL .i32 21 runes)).Ok Tryd.prog 34 :=
  ok_of_vc (sSL .i32 21 runes) annRRunes spR (fun _ _ => rfl) (fun _ _ => rfl) hsp Tryd.func34 rfl (n := 1) (fun _ => rfl) (by kernel_rfl) (vcast (by kernel_rfl) h)

set_option maxRecDepth 1000000 in
theorem rbad_vc (hsp : SpecsOk Tryd.prog spR) (h : ∀ (g : ByteArray) (w : World),
U8 w ∧ g.size ≤ (67108864 : Nat) →
∃ (g1 : ByteArray),
#[Value.string g] = #[Value.string g1] ∧
(U8 w ∧ g1.size ≤ (67108864 : Nat)) ∧
∀ (x : Option Addr × Nat × Nat) (w' : World),
x.snd.fst = (allN g1).length ∧
Made w w' (39 : TypeId) (4 : Nat) x.fst x.snd.fst (List.flatMap (oneV g1) (allN g1)) x.snd.snd →
(∃ (x1 : Nat × Option Addr × Nat),
Value.int IntKind.i64 (0 : Int) = Value.int IntKind.i64 (↑x1.fst : Int) ∧
Value.slice none (0 : Nat) (0 : Nat) = Value.slice x1.snd.fst (badT g x1.fst).length x1.snd.snd ∧
x1.fst ≤ cnt g ∧
Made w' w' (3 : TypeId) (1 : Nat) x1.snd.fst (badT g x1.fst).length (List.map (Value.int IntKind.i64) (badT g x1.fst))
x1.snd.snd) ∧
∀ (u : Nat → Value) (x1 : Nat × Option Addr × Nat) (w'1 : World),
x1.fst ≤ cnt g ∧
Made w' w'1 (3 : TypeId) (1 : Nat) x1.snd.fst (badT g x1.fst).length (List.map (Value.int IntKind.i64) (badT g x1.fst))
x1.snd.snd →
bcase (decide ((↑x1.fst : Int) < (↑x.snd.fst : Int)))
(∃ (k : Nat),
(↑x1.fst : Int) = (↑k : Int) ∧
k < x.snd.fst ∧
ptrE x.fst fun (b o : Nat) =>
∃ (b1 : Bool),
w'1.cell? { block := b, off := o + k * (4 : Nat) + (3 : Nat) } = some (Value.bool b1) ∧
bcase b1
(∃ (k1 : Nat),
(↑x1.fst : Int) = (↑k1 : Int) ∧
k1 < x.snd.fst ∧
ptrE x.fst fun (b2 o1 : Nat) =>
∃ (n : Int),
w'1.cell? { block := b2, off := o1 + k1 * (4 : Nat) } = some (Value.int IntKind.i64 n) ∧
∀ (b3 : Nat) (w1 : World),
New w'1 (Obj.cells #[Value.int IntKind.i64 n] (3 : Nat)) b3 w1 →
∃ (a' : Option Addr),
∃ (c' : Nat),
∃ (w'2 : World),
AppRun Tryd.prog #[(41 : Nat), (41 : Nat)] (41 : Nat) (Value.slice x1.snd.fst (badT g x1.fst).length x1.snd.snd)
(Value.slice (some { block := b3, off := (0 : Nat) }) (1 : Nat) (1 : Nat)) w1 a' ((badT g x1.fst).length + (1 : Nat)) c'
w'2 ∧
KO w1 w'2 ∧
InR IntKind.i64 ((↑x1.fst : Int) + (1 : Int)) ∧
∃ (y : Nat × Option Addr × Nat),
Value.int IntKind.i64 ((↑x1.fst : Int) + (1 : Int)) = Value.int IntKind.i64 (↑y.fst : Int) ∧
Value.slice a' ((badT g x1.fst).length + (1 : Nat)) c' = Value.slice y.snd.fst (badT g y.fst).length y.snd.snd ∧
(y.fst ≤ cnt g ∧
Made w' w'2 (3 : TypeId) (1 : Nat) y.snd.fst (badT g y.fst).length (List.map (Value.int IntKind.i64) (badT g y.fst))
y.snd.snd) ∧
cnt g - y.fst < cnt g - x1.fst)
(InR IntKind.i64 ((↑x1.fst : Int) + (1 : Int)) ∧
∃ (y : Nat × Option Addr × Nat),
Value.int IntKind.i64 ((↑x1.fst : Int) + (1 : Int)) = Value.int IntKind.i64 (↑y.fst : Int) ∧
Value.slice x1.snd.fst (badT g x1.fst).length x1.snd.snd = Value.slice y.snd.fst (badT g y.fst).length y.snd.snd ∧
(y.fst ≤ cnt g ∧
Made w' w'1 (3 : TypeId) (1 : Nat) y.snd.fst (badT g y.fst).length (List.map (Value.int IntKind.i64) (badT g y.fst))
y.snd.snd) ∧
cnt g - y.fst < cnt g - x1.fst))
(∃ (x2 : Option Addr × Nat × Nat),
Value.slice x1.snd.fst (badT g x1.fst).length x1.snd.snd = Value.slice x2.fst x2.snd.fst x2.snd.snd ∧
x2.snd.fst = (badL g).length ∧
Made w w'1 (3 : TypeId) (1 : Nat) x2.fst x2.snd.fst (List.map (Value.int IntKind.i64) (badL g)) x2.snd.snd)) :
    ((sSL .i64 3 badL)).Ok Tryd.prog 33 :=
  ok_of_vc (sSL .i64 3 badL) annRBad spR (fun _ _ => rfl) (fun _ _ => rfl) hsp Tryd.func33 rfl (n := 1) (fun _ => rfl) (by kernel_rfl) (vcast (by kernel_rfl) h)

set_option maxRecDepth 1000000 in
theorem bad_vc (hsp : SpecsOk Tryd.prog spBad) (h : ∀ (g : ByteArray) (w : World),
U8 w ∧ g.size ≤ (67108864 : Nat) →
∀ (b : Nat) (w1 : World),
New w (Obj.stringIter g (0 : Nat)) b w1 →
(∃ (x : Nat × Option Addr × Nat),
Value.slice none (0 : Nat) (0 : Nat) = Value.slice x.snd.fst (badT g x.fst).length x.snd.snd ∧
x.fst ≤ cnt g ∧
Made w w1 (3 : TypeId) (1 : Nat) x.snd.fst (badT g x.fst).length (List.map (Value.int IntKind.i64) (badT g x.fst))
x.snd.snd ∧
∃ (b1 : Nat),
Value.pointer (some { block := b, off := (0 : Nat) }) = Value.pointer (some { block := b1, off := (0 : Nat) }) ∧
w.heap.size ≤ b1 ∧ w1.heap[b1]? = some (Obj.stringIter g (pos g x.fst))) ∧
∀ (u : Nat → Value) (x : Nat × Option Addr × Nat) (w' : World),
(x.fst ≤ cnt g ∧
Made w w' (3 : TypeId) (1 : Nat) x.snd.fst (badT g x.fst).length (List.map (Value.int IntKind.i64) (badT g x.fst))
x.snd.snd ∧
∃ (b1 : Nat),
Value.pointer (some { block := b, off := (0 : Nat) }) = Value.pointer (some { block := b1, off := (0 : Nat) }) ∧
w.heap.size ≤ b1 ∧ w'.heap[b1]? = some (Obj.stringIter g (pos g x.fst))) →
∃ (s : ByteArray),
∃ (i : Nat),
w'.heap[b]? = some (Obj.stringIter s i) ∧
bcase (decide (i < s.size))
(∀ (w11 : World),
Nexted w' b s i w11 →
∃ (k : Nat),
(↑i : Int) = (↑k : Int) ∧
k ≤ g.size ∧
g.size ≤ g.size ∧
∃ (g1 : ByteArray),
#[Value.string (g.extract k g.size)] = #[Value.string g1] ∧
(U8 w11 ∧ g1.size ≤ (67108864 : Nat)) ∧
∀ (x1 : Int × Nat) (w'1 : World),
x1.fst = nxR g1 ∧ x1.snd = nxN g1 ∧ Ext w11 w'1 →
bcase (dcR s i != (65533 : Int) || (↑x1.snd : Int) != (1 : Int))
(∃ (y : Nat × Option Addr × Nat),
Value.slice x.snd.fst (badT g x.fst).length x.snd.snd = Value.slice y.snd.fst (badT g y.fst).length y.snd.snd ∧
(y.fst ≤ cnt g ∧
Made w w'1 (3 : TypeId) (1 : Nat) y.snd.fst (badT g y.fst).length (List.map (Value.int IntKind.i64) (badT g y.fst))
y.snd.snd ∧
∃ (b1 : Nat),
Value.pointer (some { block := b, off := (0 : Nat) }) = Value.pointer (some { block := b1, off := (0 : Nat) }) ∧
w.heap.size ≤ b1 ∧ w'1.heap[b1]? = some (Obj.stringIter g (pos g y.fst))) ∧
cnt g - y.fst < cnt g - x.fst)
(∀ (b1 : Nat) (w12 : World),
New w'1 (Obj.cells #[Value.int IntKind.i64 (↑i : Int)] (3 : Nat)) b1 w12 →
∃ (a' : Option Addr),
∃ (c' : Nat),
∃ (w'2 : World),
AppRun Tryd.prog #[(41 : Nat), (41 : Nat)] (41 : Nat) (Value.slice x.snd.fst (badT g x.fst).length x.snd.snd)
(Value.slice (some { block := b1, off := (0 : Nat) }) (1 : Nat) (1 : Nat)) w12 a' ((badT g x.fst).length + (1 : Nat)) c'
w'2 ∧
KO w12 w'2 ∧
∃ (y : Nat × Option Addr × Nat),
Value.slice a' ((badT g x.fst).length + (1 : Nat)) c' = Value.slice y.snd.fst (badT g y.fst).length y.snd.snd ∧
(y.fst ≤ cnt g ∧
Made w w'2 (3 : TypeId) (1 : Nat) y.snd.fst (badT g y.fst).length (List.map (Value.int IntKind.i64) (badT g y.fst))
y.snd.snd ∧
∃ (b2 : Nat),
Value.pointer (some { block := b, off := (0 : Nat) }) = Value.pointer (some { block := b2, off := (0 : Nat) }) ∧
w.heap.size ≤ b2 ∧ w'2.heap[b2]? = some (Obj.stringIter g (pos g y.fst))) ∧
cnt g - y.fst < cnt g - x.fst))
(∃ (x1 : Option Addr × Nat × Nat),
Value.slice x.snd.fst (badT g x.fst).length x.snd.snd = Value.slice x1.fst x1.snd.fst x1.snd.snd ∧
x1.snd.fst = (badL g).length ∧
Made w w' (3 : TypeId) (1 : Nat) x1.fst x1.snd.fst (List.map (Value.int IntKind.i64) (badL g)) x1.snd.snd)) :
    ((sSL .i64 3 badL)).Ok Tryd.prog 35 :=
  ok_of_vc (sSL .i64 3 badL) annBad spBad (fun _ _ => rfl) (fun _ _ => rfl) hsp Tryd.func35 rfl (n := 1) (fun _ => rfl) (by kernel_rfl) (vcast (by kernel_rfl) h)

set_option maxRecDepth 1000000 in
theorem runes_vc (hsp : SpecsOk Tryd.prog []) (h : ∀ (g : ByteArray) (w : World),
U8 w ∧ g.size ≤ (67108864 : Nat) →
(runesV g).length ≤ (70368744177664 : Nat) ∧
∀ (c b : Nat) (w1 : World),
NewRunes w g (21 : Nat) c b w1 →
∃ (x : Option Addr × Nat × Nat),
Value.slice (some { block := b, off := (0 : Nat) }) (runesV g).length c = Value.slice x.fst x.snd.fst x.snd.snd ∧
x.snd.fst = (runes g).length ∧
Made w w1 (21 : TypeId) (1 : Nat) x.fst x.snd.fst (List.map (Value.int IntKind.i32) (runes g)) x.snd.snd) :
    ((sSL .i32 21 runes)).Ok Tryd.prog 24 :=
  ok_of_vc (sSL .i32 21 runes) (annOf []) [] (fun _ _ => rfl) (fun _ _ => rfl) hsp Tryd.func24 rfl (n := 1) (fun _ => rfl) (by kernel_rfl) (vcast (by kernel_rfl) h)

set_option maxRecDepth 1000000 in
theorem count_vc (hsp : SpecsOk Tryd.prog []) (h : ∀ (g : ByteArray) (w : World),
U8 w ∧ g.size ≤ (67108864 : Nat) →
(runesV g).length ≤ (70368744177664 : Nat) ∧
∀ (c b : Nat) (w1 : World),
NewRunes w g (21 : Nat) c b w1 →
∃ (x : Nat), Value.int IntKind.i64 (↑(runesV g).length : Int) = Value.int IntKind.i64 (↑x : Int) ∧ x = cnt g ∧ Ext w w1) :
    ((sSN cnt)).Ok Tryd.prog 37 :=
  ok_of_vc (sSN cnt) (annOf []) [] (fun _ _ => rfl) (fun _ _ => rfl) hsp Tryd.func37 rfl (n := 1) (fun _ => rfl) (by kernel_rfl) (vcast (by kernel_rfl) h)

set_option maxRecDepth 1000000 in
theorem text_vc (hsp : SpecsOk Tryd.prog []) (h : ∀ (g : GSl) (w : World),
GSl.at IntKind.i32 g w ∧ g.xs.length ≤ (67108864 : Nat) →
∃ (zs : List Int),
RunesIn w g.ad g.xs.length zs ∧
∃ (x : ByteArray), Value.string (runesBytes zs) = Value.string x ∧ x = runesBytes g.xs ∧ Ext w w) :
    ((sLS runesBytes)).Ok Tryd.prog 21 :=
  ok_of_vc (sLS runesBytes) (annOf []) [] (fun _ _ => rfl) (fun _ _ => rfl) hsp Tryd.func21 rfl (n := 1) (fun _ => rfl) (by kernel_rfl) (vcast (by kernel_rfl) h)

set_option maxRecDepth 1000000 in
theorem clean_vc (hsp : SpecsOk Tryd.prog []) (h : ∀ (g : ByteArray) (w : World),
U8 w ∧ g.size ≤ (67108864 : Nat) →
(runesV g).length ≤ (70368744177664 : Nat) ∧
∀ (c b : Nat) (w1 : World),
NewRunes w g (21 : Nat) c b w1 →
∃ (zs : List Int),
RunesIn w1 (some { block := b, off := (0 : Nat) }) (runesV g).length zs ∧
∃ (x : ByteArray), Value.string (runesBytes zs) = Value.string x ∧ x = runesBytes (runes g) ∧ Ext w w1) :
    ((sSS (fun s => runesBytes (runes s)))).Ok Tryd.prog 38 :=
  ok_of_vc (sSS (fun s => runesBytes (runes s))) (annOf []) [] (fun _ _ => rfl) (fun _ _ => rfl) hsp Tryd.func38 rfl (n := 1) (fun _ => rfl) (by kernel_rfl) (vcast (by kernel_rfl) h)

set_option maxRecDepth 1000000 in
theorem rclean_vc (hsp : SpecsOk Tryd.prog spRClean) (h : ∀ (g : ByteArray) (w : World),
U8 w ∧ g.size ≤ (67108864 : Nat) →
∃ (g1 : ByteArray),
#[Value.string g] = #[Value.string g1] ∧
(U8 w ∧ g1.size ≤ (67108864 : Nat)) ∧
∀ (x : Option Addr × Nat × Nat) (w' : World),
x.snd.fst = (runes g1).length ∧
Made w w' (21 : TypeId) (1 : Nat) x.fst x.snd.fst (List.map (Value.int IntKind.i32) (runes g1)) x.snd.snd →
∃ (g2 : GSl),
#[Value.slice x.fst x.snd.fst x.snd.snd] = #[Value.slice g2.ad g2.xs.length g2.c] ∧
(GSl.at IntKind.i32 g2 w' ∧ g2.xs.length ≤ (67108864 : Nat)) ∧
∀ (x1 : ByteArray) (w'1 : World),
x1 = runesBytes g2.xs ∧ Ext w' w'1 →
∃ (x2 : ByteArray), Value.string x1 = Value.string x2 ∧ x2 = runesBytes (runes g) ∧ Ext w w'1) :
    ((sSS (fun s => runesBytes (runes s)))).Ok Tryd.prog 39 :=
  ok_of_vc (sSS (fun s => runesBytes (runes s))) (annOf spRClean) spRClean (fun _ _ => rfl) (fun _ _ => rfl) hsp Tryd.func39 rfl (n := 1) (fun _ => rfl) (by kernel_rfl) (vcast (by kernel_rfl) h)

set_option maxRecDepth 1000000 in
theorem put_vc (hsp : SpecsOk Tryd.prog []) (h : ∀ (g : GPut) (w : World),
Made g.W w (5 : TypeId) (1 : Nat) g.ad g.vs.length (List.map (Value.int IntKind.u8) g.vs) g.c ∧
g.vs.length ≤ (1073741824 : Nat) →
bcase
(decide (g.r < (0 : Int)) ||
(decide (g.r > (1114111 : Int)) || decide (g.r ≥ (55296 : Int)) && decide (g.r ≤ (57343 : Int))))
(∃ (c : Unit), Value.int IntKind.i32 (65533 : Int) = Value.int IntKind.i32 (↑(encC g.r) : Int) ∧ w = w)
(∃ (c : Unit), Value.int IntKind.i32 g.r = Value.int IntKind.i32 (↑(encC g.r) : Int) ∧ w = w) ∧
∀ (u : Nat → Value) (c : Unit) (w' : World),
w' = w →
bcase (decide ((↑(encC g.r) : Int) < (128 : Int)))
(InR IntKind.u8 (↑(encC g.r) : Int) ∧
∀ (b : Nat) (w1 : World),
New w' (Obj.cells #[Value.int IntKind.u8 (↑(encC g.r) : Int)] (5 : Nat)) b w1 →
∃ (a' : Option Addr),
∃ (c' : Nat),
∃ (w'1 : World),
AppRun Tryd.prog #[(47 : Nat), (47 : Nat)] (47 : Nat) (Value.slice g.ad g.vs.length g.c)
(Value.slice (some { block := b, off := (0 : Nat) }) (1 : Nat) (1 : Nat)) w1 a' (g.vs.length + (1 : Nat)) c' w'1 ∧
KO w1 w'1 ∧
∃ (x : Option Addr × Nat × Nat),
Value.slice a' (g.vs.length + (1 : Nat)) c' = Value.slice x.fst x.snd.fst x.snd.snd ∧
x.snd.fst = (g.vs ++ encL g.r).length ∧
Made g.W w'1 (5 : TypeId) (1 : Nat) x.fst x.snd.fst (List.map (Value.int IntKind.u8) (g.vs ++ encL g.r)) x.snd.snd)
(bcase (decide ((↑(encC g.r) : Int) < (2048 : Int)))
((0 : Int) ≤ (↑(encC g.r) : Int) ∧
(0 : Int) < (64 : Int) ∧
InR IntKind.i32 ((↑(encC g.r) : Int) / (64 : Int)) ∧
InR IntKind.i32 ((192 : Int) + (↑(encC g.r) : Int) / (64 : Int)) ∧
InR IntKind.u8 ((192 : Int) + (↑(encC g.r) : Int) / (64 : Int)) ∧
(0 : Int) ≤ (↑(encC g.r) : Int) ∧
(0 : Int) < (64 : Int) ∧
InR IntKind.i32 ((128 : Int) + (↑(encC g.r) : Int) % (64 : Int)) ∧
InR IntKind.u8 ((128 : Int) + (↑(encC g.r) : Int) % (64 : Int)) ∧
∀ (b : Nat) (w1 : World),
New w'
(Obj.cells
#[Value.int IntKind.u8 ((192 : Int) + (↑(encC g.r) : Int) / (64 : Int)),
Value.int IntKind.u8 ((128 : Int) + (↑(encC g.r) : Int) % (64 : Int))]
(5 : Nat))
b w1 →
∃ (a' : Option Addr),
∃ (c' : Nat),
∃ (w'1 : World),
AppRun Tryd.prog #[(47 : Nat), (47 : Nat)] (47 : Nat) (Value.slice g.ad g.vs.length g.c)
(Value.slice (some { block := b, off := (0 : Nat) }) (2 : Nat) (2 : Nat)) w1 a' (g.vs.length + (2 : Nat)) c' w'1 ∧
KO w1 w'1 ∧
∃ (x : Option Addr × Nat × Nat),
Value.slice a' (g.vs.length + (2 : Nat)) c' = Value.slice x.fst x.snd.fst x.snd.snd ∧
x.snd.fst = (g.vs ++ encL g.r).length ∧
Made g.W w'1 (5 : TypeId) (1 : Nat) x.fst x.snd.fst (List.map (Value.int IntKind.u8) (g.vs ++ encL g.r)) x.snd.snd)
(bcase (decide ((↑(encC g.r) : Int) < (65536 : Int)))
((0 : Int) ≤ (↑(encC g.r) : Int) ∧
(0 : Int) < (4096 : Int) ∧
InR IntKind.i32 ((↑(encC g.r) : Int) / (4096 : Int)) ∧
InR IntKind.i32 ((224 : Int) + (↑(encC g.r) : Int) / (4096 : Int)) ∧
InR IntKind.u8 ((224 : Int) + (↑(encC g.r) : Int) / (4096 : Int)) ∧
(0 : Int) ≤ (↑(encC g.r) : Int) ∧
(0 : Int) < (64 : Int) ∧
InR IntKind.i32 ((↑(encC g.r) : Int) / (64 : Int)) ∧
(0 : Int) ≤ (↑(encC g.r) : Int) / (64 : Int) ∧
(0 : Int) < (64 : Int) ∧
InR IntKind.i32 ((128 : Int) + (↑(encC g.r) : Int) / (64 : Int) % (64 : Int)) ∧
InR IntKind.u8 ((128 : Int) + (↑(encC g.r) : Int) / (64 : Int) % (64 : Int)) ∧
(0 : Int) ≤ (↑(encC g.r) : Int) ∧
(0 : Int) < (64 : Int) ∧
InR IntKind.i32 ((128 : Int) + (↑(encC g.r) : Int) % (64 : Int)) ∧
InR IntKind.u8 ((128 : Int) + (↑(encC g.r) : Int) % (64 : Int)) ∧
∀ (b : Nat) (w1 : World),
New w'
(Obj.cells
#[Value.int IntKind.u8 ((224 : Int) + (↑(encC g.r) : Int) / (4096 : Int)),
Value.int IntKind.u8 ((128 : Int) + (↑(encC g.r) : Int) / (64 : Int) % (64 : Int)),
Value.int IntKind.u8 ((128 : Int) + (↑(encC g.r) : Int) % (64 : Int))]
(5 : Nat))
b w1 →
∃ (a' : Option Addr),
∃ (c' : Nat),
∃ (w'1 : World),
AppRun Tryd.prog #[(47 : Nat), (47 : Nat)] (47 : Nat) (Value.slice g.ad g.vs.length g.c)
(Value.slice (some { block := b, off := (0 : Nat) }) (3 : Nat) (3 : Nat)) w1 a' (g.vs.length + (3 : Nat)) c' w'1 ∧
KO w1 w'1 ∧
∃ (x : Option Addr × Nat × Nat),
Value.slice a' (g.vs.length + (3 : Nat)) c' = Value.slice x.fst x.snd.fst x.snd.snd ∧
x.snd.fst = (g.vs ++ encL g.r).length ∧
Made g.W w'1 (5 : TypeId) (1 : Nat) x.fst x.snd.fst (List.map (Value.int IntKind.u8) (g.vs ++ encL g.r)) x.snd.snd)
((0 : Int) ≤ (↑(encC g.r) : Int) ∧
(0 : Int) < (262144 : Int) ∧
InR IntKind.i32 ((↑(encC g.r) : Int) / (262144 : Int)) ∧
InR IntKind.i32 ((240 : Int) + (↑(encC g.r) : Int) / (262144 : Int)) ∧
InR IntKind.u8 ((240 : Int) + (↑(encC g.r) : Int) / (262144 : Int)) ∧
(0 : Int) ≤ (↑(encC g.r) : Int) ∧
(0 : Int) < (4096 : Int) ∧
InR IntKind.i32 ((↑(encC g.r) : Int) / (4096 : Int)) ∧
(0 : Int) ≤ (↑(encC g.r) : Int) / (4096 : Int) ∧
(0 : Int) < (64 : Int) ∧
InR IntKind.i32 ((128 : Int) + (↑(encC g.r) : Int) / (4096 : Int) % (64 : Int)) ∧
InR IntKind.u8 ((128 : Int) + (↑(encC g.r) : Int) / (4096 : Int) % (64 : Int)) ∧
(0 : Int) ≤ (↑(encC g.r) : Int) ∧
(0 : Int) < (64 : Int) ∧
InR IntKind.i32 ((↑(encC g.r) : Int) / (64 : Int)) ∧
(0 : Int) ≤ (↑(encC g.r) : Int) / (64 : Int) ∧
(0 : Int) < (64 : Int) ∧
InR IntKind.i32 ((128 : Int) + (↑(encC g.r) : Int) / (64 : Int) % (64 : Int)) ∧
InR IntKind.u8 ((128 : Int) + (↑(encC g.r) : Int) / (64 : Int) % (64 : Int)) ∧
(0 : Int) ≤ (↑(encC g.r) : Int) ∧
(0 : Int) < (64 : Int) ∧
InR IntKind.i32 ((128 : Int) + (↑(encC g.r) : Int) % (64 : Int)) ∧
InR IntKind.u8 ((128 : Int) + (↑(encC g.r) : Int) % (64 : Int)) ∧
∀ (b : Nat) (w1 : World),
New w'
(Obj.cells
#[Value.int IntKind.u8 ((240 : Int) + (↑(encC g.r) : Int) / (262144 : Int)),
Value.int IntKind.u8 ((128 : Int) + (↑(encC g.r) : Int) / (4096 : Int) % (64 : Int)),
Value.int IntKind.u8 ((128 : Int) + (↑(encC g.r) : Int) / (64 : Int) % (64 : Int)),
Value.int IntKind.u8 ((128 : Int) + (↑(encC g.r) : Int) % (64 : Int))]
(5 : Nat))
b w1 →
∃ (a' : Option Addr),
∃ (c' : Nat),
∃ (w'1 : World),
AppRun Tryd.prog #[(47 : Nat), (47 : Nat)] (47 : Nat) (Value.slice g.ad g.vs.length g.c)
(Value.slice (some { block := b, off := (0 : Nat) }) (4 : Nat) (4 : Nat)) w1 a' (g.vs.length + (4 : Nat)) c' w'1 ∧
KO w1 w'1 ∧
∃ (x : Option Addr × Nat × Nat),
Value.slice a' (g.vs.length + (4 : Nat)) c' = Value.slice x.fst x.snd.fst x.snd.snd ∧
x.snd.fst = (g.vs ++ encL g.r).length ∧
Made g.W w'1 (5 : TypeId) (1 : Nat) x.fst x.snd.fst (List.map (Value.int IntKind.u8) (g.vs ++ encL g.r)) x.snd.snd)))) :
    (sPut).Ok Tryd.prog 52 :=
  ok_of_vc sPut annPut [] (fun _ _ => rfl) (fun _ _ => rfl) hsp Tryd.func52 rfl (n := 2) (fun _ => rfl) (by kernel_rfl) (vcast (by kernel_rfl) h)

set_option maxRecDepth 1000000 in
theorem rtext_vc (hsp : SpecsOk Tryd.prog spRText) (h : ∀ (g : GSl) (w : World),
GSl.at IntKind.i32 g w ∧ g.xs.length ≤ (67108864 : Nat) →
(∃ (x : Nat × Option Addr × Nat),
Value.int IntKind.i64 (0 : Int) = Value.int IntKind.i64 (↑x.fst : Int) ∧
Value.slice none (0 : Nat) (0 : Nat) =
Value.slice x.snd.fst (List.flatMap encL (List.take x.fst g.xs)).length x.snd.snd ∧
x.fst ≤ g.xs.length ∧
Made w w (5 : TypeId) (1 : Nat) x.snd.fst (List.flatMap encL (List.take x.fst g.xs)).length
(List.map (Value.int IntKind.u8) (List.flatMap encL (List.take x.fst g.xs))) x.snd.snd) ∧
∀ (u : Nat → Value) (x : Nat × Option Addr × Nat) (w' : World),
x.fst ≤ g.xs.length ∧
Made w w' (5 : TypeId) (1 : Nat) x.snd.fst (List.flatMap encL (List.take x.fst g.xs)).length
(List.map (Value.int IntKind.u8) (List.flatMap encL (List.take x.fst g.xs))) x.snd.snd →
bcase (decide ((↑x.fst : Int) < (↑g.xs.length : Int)))
(∃ (k : Nat),
(↑x.fst : Int) = (↑k : Int) ∧
k < g.xs.length ∧
ptrE g.ad fun (b o : Nat) =>
∃ (n : Int),
w'.cell? { block := b, off := o + k } = some (Value.int IntKind.i32 n) ∧
∃ (g1 : GPut),
#[Value.slice x.snd.fst (List.flatMap encL (List.take x.fst g.xs)).length x.snd.snd, Value.int IntKind.i32 n] =
#[Value.slice g1.ad g1.vs.length g1.c, Value.int IntKind.i32 g1.r] ∧
(Made g1.W w' (5 : TypeId) (1 : Nat) g1.ad g1.vs.length (List.map (Value.int IntKind.u8) g1.vs) g1.c ∧
g1.vs.length ≤ (1073741824 : Nat)) ∧
∀ (x1 : Option Addr × Nat × Nat) (w'1 : World),
x1.snd.fst = (g1.vs ++ encL g1.r).length ∧
Made g1.W w'1 (5 : TypeId) (1 : Nat) x1.fst x1.snd.fst (List.map (Value.int IntKind.u8) (g1.vs ++ encL g1.r))
x1.snd.snd →
InR IntKind.i64 ((↑x.fst : Int) + (1 : Int)) ∧
∃ (y : Nat × Option Addr × Nat),
Value.int IntKind.i64 ((↑x.fst : Int) + (1 : Int)) = Value.int IntKind.i64 (↑y.fst : Int) ∧
Value.slice x1.fst x1.snd.fst x1.snd.snd =
Value.slice y.snd.fst (List.flatMap encL (List.take y.fst g.xs)).length y.snd.snd ∧
(y.fst ≤ g.xs.length ∧
Made w w'1 (5 : TypeId) (1 : Nat) y.snd.fst (List.flatMap encL (List.take y.fst g.xs)).length
(List.map (Value.int IntKind.u8) (List.flatMap encL (List.take y.fst g.xs))) y.snd.snd) ∧
g.xs.length - y.fst < g.xs.length - x.fst)
(∃ (str : ByteArray),
BytesIn w' x.snd.fst (List.flatMap encL (List.take x.fst g.xs)).length str ∧
∃ (x1 : ByteArray), Value.string str = Value.string x1 ∧ x1 = runesBytes g.xs ∧ Ext w w')) :
    ((sLS runesBytes)).Ok Tryd.prog 23 :=
  ok_of_vc (sLS runesBytes) annRText spRText (fun _ _ => rfl) (fun _ _ => rfl) hsp Tryd.func23 rfl (n := 1) (fun _ => rfl) (by kernel_rfl) (vcast (by kernel_rfl) h)

set_option maxRecDepth 1000000 in
theorem sameR_vc (hsp : SpecsOk Tryd.prog []) (h : ∀ (g : GTwo) (w : World),
GSl.at IntKind.i32 g.a w ∧ GSl.at IntKind.i32 g.b w →
bcase ((↑g.a.xs.length : Int) != (↑g.b.xs.length : Int))
(∃ (x : Bool), Value.bool false = Value.bool x ∧ x = decide (g.a.xs = g.b.xs) ∧ Ext w w)
((∃ (x : Nat),
Value.int IntKind.i64 (0 : Int) = Value.int IntKind.i64 (↑x : Int) ∧
x ≤ g.a.xs.length ∧ List.take x g.a.xs = List.take x g.b.xs ∧ Ext w w) ∧
∀ (u : Nat → Value) (x : Nat) (w' : World),
x ≤ g.a.xs.length ∧ List.take x g.a.xs = List.take x g.b.xs ∧ Ext w w' →
bcase (decide ((↑x : Int) < (↑g.a.xs.length : Int)))
(∀ (w1 : World),
Drew w' w1 →
∃ (k : Nat),
(↑x : Int) = (↑k : Int) ∧
k < g.a.xs.length ∧
ptrE g.a.ad fun (b o : Nat) =>
∃ (n : Int),
w'.cell? { block := b, off := o + k } = some (Value.int IntKind.i32 n) ∧
∃ (k1 : Nat),
(↑x : Int) = (↑k1 : Int) ∧
k1 < g.b.xs.length ∧
ptrE g.b.ad fun (b1 o1 : Nat) =>
∃ (n1 : Int),
w'.cell? { block := b1, off := o1 + k1 } = some (Value.int IntKind.i32 n1) ∧
bcase (n != n1) (∃ (x1 : Bool), Value.bool false = Value.bool x1 ∧ x1 = decide (g.a.xs = g.b.xs) ∧ Ext w w1)
(InR IntKind.i64 ((↑x : Int) + (1 : Int)) ∧
∃ (y : Nat),
Value.int IntKind.i64 ((↑x : Int) + (1 : Int)) = Value.int IntKind.i64 (↑y : Int) ∧
(y ≤ g.a.xs.length ∧ List.take y g.a.xs = List.take y g.b.xs ∧ Ext w w1) ∧ g.a.xs.length - y < g.a.xs.length - x))
(∃ (x1 : Bool), Value.bool true = Value.bool x1 ∧ x1 = decide (g.a.xs = g.b.xs) ∧ Ext w w'))) :
    ((sSame .i32)).Ok Tryd.prog 22 :=
  ok_of_vc (sSame .i32) annSameI [] (fun _ _ => rfl) (fun _ _ => rfl) hsp Tryd.func22 rfl (n := 2) (fun _ => rfl) (by kernel_rfl) (vcast (by kernel_rfl) h)

set_option maxRecDepth 1000000 in
theorem sameI_vc (hsp : SpecsOk Tryd.prog []) (h : ∀ (g : GTwo) (w : World),
GSl.at IntKind.i64 g.a w ∧ GSl.at IntKind.i64 g.b w →
bcase ((↑g.a.xs.length : Int) != (↑g.b.xs.length : Int))
(∃ (x : Bool), Value.bool false = Value.bool x ∧ x = decide (g.a.xs = g.b.xs) ∧ Ext w w)
((∃ (x : Nat),
Value.int IntKind.i64 (0 : Int) = Value.int IntKind.i64 (↑x : Int) ∧
x ≤ g.a.xs.length ∧ List.take x g.a.xs = List.take x g.b.xs ∧ Ext w w) ∧
∀ (u : Nat → Value) (x : Nat) (w' : World),
x ≤ g.a.xs.length ∧ List.take x g.a.xs = List.take x g.b.xs ∧ Ext w w' →
bcase (decide ((↑x : Int) < (↑g.a.xs.length : Int)))
(∀ (w1 : World),
Drew w' w1 →
∃ (k : Nat),
(↑x : Int) = (↑k : Int) ∧
k < g.a.xs.length ∧
ptrE g.a.ad fun (b o : Nat) =>
∃ (n : Int),
w'.cell? { block := b, off := o + k } = some (Value.int IntKind.i64 n) ∧
∃ (k1 : Nat),
(↑x : Int) = (↑k1 : Int) ∧
k1 < g.b.xs.length ∧
ptrE g.b.ad fun (b1 o1 : Nat) =>
∃ (n1 : Int),
w'.cell? { block := b1, off := o1 + k1 } = some (Value.int IntKind.i64 n1) ∧
bcase (n != n1) (∃ (x1 : Bool), Value.bool false = Value.bool x1 ∧ x1 = decide (g.a.xs = g.b.xs) ∧ Ext w w1)
(InR IntKind.i64 ((↑x : Int) + (1 : Int)) ∧
∃ (y : Nat),
Value.int IntKind.i64 ((↑x : Int) + (1 : Int)) = Value.int IntKind.i64 (↑y : Int) ∧
(y ≤ g.a.xs.length ∧ List.take y g.a.xs = List.take y g.b.xs ∧ Ext w w1) ∧ g.a.xs.length - y < g.a.xs.length - x))
(∃ (x1 : Bool), Value.bool true = Value.bool x1 ∧ x1 = decide (g.a.xs = g.b.xs) ∧ Ext w w'))) :
    ((sSame .i64)).Ok Tryd.prog 36 :=
  ok_of_vc (sSame .i64) annSameI [] (fun _ _ => rfl) (fun _ _ => rfl) hsp Tryd.func36 rfl (n := 2) (fun _ => rfl) (by kernel_rfl) (vcast (by kernel_rfl) h)

set_option maxRecDepth 1000000 in
theorem same_vc (hsp : SpecsOk Tryd.prog []) (h : ∀ (g : GTwo) (w : World),
GSl.at IntKind.i32 g.a w ∧ GSl.at IntKind.i32 g.b w →
bcase ((↑g.a.xs.length : Int) != (↑g.b.xs.length : Int))
(∃ (x : Bool), Value.bool false = Value.bool x ∧ x = decide (g.a.xs = g.b.xs) ∧ Ext w w)
((∃ (x : Nat),
Value.int IntKind.i64 (0 : Int) = Value.int IntKind.i64 (↑x : Int) ∧
x ≤ g.a.xs.length ∧ List.take x g.a.xs = List.take x g.b.xs ∧ Ext w w) ∧
∀ (u : Nat → Value) (x : Nat) (w' : World),
x ≤ g.a.xs.length ∧ List.take x g.a.xs = List.take x g.b.xs ∧ Ext w w' →
bcase (decide ((↑x : Int) < (↑g.a.xs.length : Int)))
(∀ (w1 : World),
Drew w' w1 →
∃ (k : Nat),
(↑x : Int) = (↑k : Int) ∧
k < g.a.xs.length ∧
ptrE g.a.ad fun (b o : Nat) =>
∃ (n : Int),
w'.cell? { block := b, off := o + k } = some (Value.int IntKind.i32 n) ∧
∃ (k1 : Nat),
(↑x : Int) = (↑k1 : Int) ∧
k1 < g.b.xs.length ∧
ptrE g.b.ad fun (b1 o1 : Nat) =>
∃ (n1 : Int),
w'.cell? { block := b1, off := o1 + k1 } = some (Value.int IntKind.i32 n1) ∧
bcase (n != n1) (∃ (x1 : Bool), Value.bool false = Value.bool x1 ∧ x1 = decide (g.a.xs = g.b.xs) ∧ Ext w w1)
(InR IntKind.i64 ((↑x : Int) + (1 : Int)) ∧
∃ (y : Nat),
Value.int IntKind.i64 ((↑x : Int) + (1 : Int)) = Value.int IntKind.i64 (↑y : Int) ∧
(y ≤ g.a.xs.length ∧ List.take y g.a.xs = List.take y g.b.xs ∧ Ext w w1) ∧ g.a.xs.length - y < g.a.xs.length - x))
(∃ (x1 : Bool), Value.bool true = Value.bool x1 ∧ x1 = decide (g.a.xs = g.b.xs) ∧ Ext w w'))) :
    ((sSame .i32)).Ok Tryd.prog 32 :=
  ok_of_vc (sSame .i32) annSameI [] (fun _ _ => rfl) (fun _ _ => rfl) hsp Tryd.func32 rfl (n := 2) (fun _ => rfl) (by kernel_rfl) (vcast (by kernel_rfl) h)

end Go.Proofs.YthkcphnkllnfcaaDoor
