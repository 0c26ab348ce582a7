/-
  Verification conditions, printed by a program out of the specifications beside this text: each theorem says that the condition suffices. (Lean's kernel compares the printed condition with what 'wpE' computes.)
-/
import Derived.Test.YtniiamobbgnjaaaDoorSpA
import Derived.Test.YtniiamobbgnjaaaDoorProg
import Derived.KernelRfl
set_option linter.unusedVariables false
namespace Go.Proofs.YtniiamobbgnjaaaDoor
open Go Go.RowKit Vc Ut

set_option maxRecDepth 1000000 in
theorem within_vc (hsp : SpecsOk Tryd.prog []) (h : ∀ (g : Nat × Nat × Nat) (w : World),
True →
∃ (x : Bool),
Value.bool (decide ((↑g.fst : Int) ≥ (↑g.snd.fst : Int)) && decide ((↑g.fst : Int) ≤ (↑g.snd.snd : Int))) =
Value.bool x ∧
x = decide (g.snd.fst ≤ g.fst ∧ g.fst ≤ g.snd.snd) ∧ w = w) :
    (sWithin).Ok Tryd.prog 62 :=
  ok_of_vc sWithin (annOf []) [] (fun _ _ => rfl) (fun _ _ => rfl) hsp Tryd.func62 rfl (n := 3) (fun _ => rfl) (by kernel_rfl) (vcast (by kernel_rfl) h)

set_option maxRecDepth 1000000 in
theorem second_vc (hsp : SpecsOk Tryd.prog spSecond) (h : ∀ (g : Nat) (w : World),
True →
∃ (g1 : Nat × Nat × Nat),
#[Value.int IntKind.u8 (↑g : Int), Value.int IntKind.u8 (194 : Int), Value.int IntKind.u8 (223 : Int)] =
#[Value.int IntKind.u8 (↑g1.fst : Int), Value.int IntKind.u8 (↑g1.snd.fst : Int),
Value.int IntKind.u8 (↑g1.snd.snd : Int)] ∧
True ∧
∀ (x : Bool) (w' : World),
x = decide (g1.snd.fst ≤ g1.fst ∧ g1.fst ≤ g1.snd.snd) ∧ w' = w →
bcase x
(∃ (x1 : Nat × Nat × Nat),
Value.tuple #[Value.int IntKind.u8 (128 : Int), Value.int IntKind.u8 (191 : Int), Value.int IntKind.i64 (2 : Int)] =
Value.tuple
#[Value.int IntKind.u8 (↑x1.fst : Int), Value.int IntKind.u8 (↑x1.snd.fst : Int),
Value.int IntKind.i64 (↑x1.snd.snd : Int)] ∧
x1 = secN g ∧ w' = w)
(bcase ((↑g : Int) == (224 : Int))
(∃ (x1 : Nat × Nat × Nat),
Value.tuple #[Value.int IntKind.u8 (160 : Int), Value.int IntKind.u8 (191 : Int), Value.int IntKind.i64 (3 : Int)] =
Value.tuple
#[Value.int IntKind.u8 (↑x1.fst : Int), Value.int IntKind.u8 (↑x1.snd.fst : Int),
Value.int IntKind.i64 (↑x1.snd.snd : Int)] ∧
x1 = secN g ∧ w' = w)
(bcase ((↑g : Int) == (237 : Int))
(∃ (x1 : Nat × Nat × Nat),
Value.tuple #[Value.int IntKind.u8 (128 : Int), Value.int IntKind.u8 (159 : Int), Value.int IntKind.i64 (3 : Int)] =
Value.tuple
#[Value.int IntKind.u8 (↑x1.fst : Int), Value.int IntKind.u8 (↑x1.snd.fst : Int),
Value.int IntKind.i64 (↑x1.snd.snd : Int)] ∧
x1 = secN g ∧ w' = w)
(∃ (g2 : Nat × Nat × Nat),
#[Value.int IntKind.u8 (↑g : Int), Value.int IntKind.u8 (225 : Int), Value.int IntKind.u8 (239 : Int)] =
#[Value.int IntKind.u8 (↑g2.fst : Int), Value.int IntKind.u8 (↑g2.snd.fst : Int),
Value.int IntKind.u8 (↑g2.snd.snd : Int)] ∧
True ∧
∀ (x1 : Bool) (w'1 : World),
x1 = decide (g2.snd.fst ≤ g2.fst ∧ g2.fst ≤ g2.snd.snd) ∧ w'1 = w' →
bcase x1
(∃ (x2 : Nat × Nat × Nat),
Value.tuple #[Value.int IntKind.u8 (128 : Int), Value.int IntKind.u8 (191 : Int), Value.int IntKind.i64 (3 : Int)] =
Value.tuple
#[Value.int IntKind.u8 (↑x2.fst : Int), Value.int IntKind.u8 (↑x2.snd.fst : Int),
Value.int IntKind.i64 (↑x2.snd.snd : Int)] ∧
x2 = secN g ∧ w'1 = w)
(bcase ((↑g : Int) == (240 : Int))
(∃ (x2 : Nat × Nat × Nat),
Value.tuple #[Value.int IntKind.u8 (144 : Int), Value.int IntKind.u8 (191 : Int), Value.int IntKind.i64 (4 : Int)] =
Value.tuple
#[Value.int IntKind.u8 (↑x2.fst : Int), Value.int IntKind.u8 (↑x2.snd.fst : Int),
Value.int IntKind.i64 (↑x2.snd.snd : Int)] ∧
x2 = secN g ∧ w'1 = w)
(∃ (g3 : Nat × Nat × Nat),
#[Value.int IntKind.u8 (↑g : Int), Value.int IntKind.u8 (241 : Int), Value.int IntKind.u8 (243 : Int)] =
#[Value.int IntKind.u8 (↑g3.fst : Int), Value.int IntKind.u8 (↑g3.snd.fst : Int),
Value.int IntKind.u8 (↑g3.snd.snd : Int)] ∧
True ∧
∀ (x2 : Bool) (w'2 : World),
x2 = decide (g3.snd.fst ≤ g3.fst ∧ g3.fst ≤ g3.snd.snd) ∧ w'2 = w'1 →
bcase x2
(∃ (x3 : Nat × Nat × Nat),
Value.tuple #[Value.int IntKind.u8 (128 : Int), Value.int IntKind.u8 (191 : Int), Value.int IntKind.i64 (4 : Int)] =
Value.tuple
#[Value.int IntKind.u8 (↑x3.fst : Int), Value.int IntKind.u8 (↑x3.snd.fst : Int),
Value.int IntKind.i64 (↑x3.snd.snd : Int)] ∧
x3 = secN g ∧ w'2 = w)
(bcase ((↑g : Int) == (244 : Int))
(∃ (x3 : Nat × Nat × Nat),
Value.tuple #[Value.int IntKind.u8 (128 : Int), Value.int IntKind.u8 (143 : Int), Value.int IntKind.i64 (4 : Int)] =
Value.tuple
#[Value.int IntKind.u8 (↑x3.fst : Int), Value.int IntKind.u8 (↑x3.snd.fst : Int),
Value.int IntKind.i64 (↑x3.snd.snd : Int)] ∧
x3 = secN g ∧ w'2 = w)
(∃ (x3 : Nat × Nat × Nat),
Value.tuple #[Value.int IntKind.u8 (0 : Int), Value.int IntKind.u8 (0 : Int), Value.int IntKind.i64 (0 : Int)] =
Value.tuple
#[Value.int IntKind.u8 (↑x3.fst : Int), Value.int IntKind.u8 (↑x3.snd.fst : Int),
Value.int IntKind.i64 (↑x3.snd.snd : Int)] ∧
x3 = secN g ∧ w'2 = w)))))))) :
    (sSecond).Ok Tryd.prog 61 :=
  ok_of_vc sSecond (annOf spSecond) spSecond (fun _ _ => rfl) (fun _ _ => rfl) hsp Tryd.func61 rfl (n := 1) (fun _ => rfl) (by kernel_rfl) (vcast (by kernel_rfl) h)

set_option maxRecDepth 1000000 in
theorem begins_vc (hsp : SpecsOk Tryd.prog spBegins) (h : ∀ (g : ByteArray) (w : World),
g.size ≤ (67108864 : Nat) →
bcase (g.toList == (ByteArray.mk #[]).toList)
(∃ (x : Nat × Nat),
Value.tuple #[Value.int IntKind.i64 (0 : Int), Value.int IntKind.i64 (0 : Int)] =
Value.tuple #[Value.int IntKind.i64 (↑x.fst : Int), Value.int IntKind.i64 (↑x.snd : Int)] ∧
x.fst = begN g ∧ x.snd = begS g ∧ w = w)
(∃ (k : Nat),
(0 : Int) = (↑k : Int) ∧
k < g.size ∧
bcase (decide ((↑(g.data.toList.getD k (0 : UInt8)).toNat : Int) < (128 : Int)))
(∃ (x : Nat × Nat),
Value.tuple #[Value.int IntKind.i64 (1 : Int), Value.int IntKind.i64 (1 : Int)] =
Value.tuple #[Value.int IntKind.i64 (↑x.fst : Int), Value.int IntKind.i64 (↑x.snd : Int)] ∧
x.fst = begN g ∧ x.snd = begS g ∧ w = w)
(∃ (k1 : Nat),
(0 : Int) = (↑k1 : Int) ∧
k1 < g.size ∧
∃ (g1 : Nat),
#[Value.int IntKind.u8 (↑(g.data.toList.getD k1 (0 : UInt8)).toNat : Int)] = #[Value.int IntKind.u8 (↑g1 : Int)] ∧
True ∧
∀ (x : Nat × Nat × Nat) (w' : World),
x = secN g1 ∧ w' = w →
bcase ((↑x.snd.snd : Int) == (0 : Int))
(∃ (x1 : Nat × Nat),
Value.tuple #[Value.int IntKind.i64 (0 : Int), Value.int IntKind.i64 (0 : Int)] =
Value.tuple #[Value.int IntKind.i64 (↑x1.fst : Int), Value.int IntKind.i64 (↑x1.snd : Int)] ∧
x1.fst = begN g ∧ x1.snd = begS g ∧ w' = w)
((∃ (x1 : Nat),
Value.int IntKind.i64 (1 : Int) = Value.int IntKind.i64 (↑x1 : Int) ∧
Value.int IntKind.u8 (↑x.fst : Int) = Value.int IntKind.u8 (↑(loB g x1) : Int) ∧
Value.int IntKind.u8 (↑x.snd.fst : Int) = Value.int IntKind.u8 (↑(hiB g x1) : Int) ∧
w' = w' ∧
(1 : Nat) ≤ x1 ∧
x1 ≤ (secN (bt g (0 : Nat))).snd.snd ∧
x1 ≤ g.size ∧
runB g ((secN (bt g (0 : Nat))).snd.snd - x1) x1 = runB g ((secN (bt g (0 : Nat))).snd.snd - (1 : Nat)) (1 : Nat)) ∧
∀ (u : Nat → Value) (x1 : Nat) (w'1 : World),
w'1 = w' ∧
(1 : Nat) ≤ x1 ∧
x1 ≤ (secN (bt g (0 : Nat))).snd.snd ∧
x1 ≤ g.size ∧
runB g ((secN (bt g (0 : Nat))).snd.snd - x1) x1 = runB g ((secN (bt g (0 : Nat))).snd.snd - (1 : Nat)) (1 : Nat) →
bcase (decide ((↑x1 : Int) < (↑x.snd.snd : Int)))
(bcase (decide ((↑x1 : Int) < (↑g.size : Int)))
(∃ (k2 : Nat),
(↑x1 : Int) = (↑k2 : Int) ∧
k2 < g.size ∧
∃ (g2 : Nat × Nat × Nat),
#[Value.int IntKind.u8 (↑(g.data.toList.getD k2 (0 : UInt8)).toNat : Int), Value.int IntKind.u8 (↑(loB g x1) : Int),
Value.int IntKind.u8 (↑(hiB g x1) : Int)] =
#[Value.int IntKind.u8 (↑g2.fst : Int), Value.int IntKind.u8 (↑g2.snd.fst : Int),
Value.int IntKind.u8 (↑g2.snd.snd : Int)] ∧
True ∧
∀ (x2 : Bool) (w'2 : World),
x2 = decide (g2.snd.fst ≤ g2.fst ∧ g2.fst ≤ g2.snd.snd) ∧ w'2 = w'1 →
bcase x2
(InR IntKind.i64 ((↑x1 : Int) + (1 : Int)) ∧
∃ (y : Nat),
Value.int IntKind.i64 ((↑x1 : Int) + (1 : Int)) = Value.int IntKind.i64 (↑y : Int) ∧
Value.int IntKind.u8 (128 : Int) = Value.int IntKind.u8 (↑(loB g y) : Int) ∧
Value.int IntKind.u8 (191 : Int) = Value.int IntKind.u8 (↑(hiB g y) : Int) ∧
(w'2 = w' ∧
(1 : Nat) ≤ y ∧
y ≤ (secN (bt g (0 : Nat))).snd.snd ∧
y ≤ g.size ∧
runB g ((secN (bt g (0 : Nat))).snd.snd - y) y = runB g ((secN (bt g (0 : Nat))).snd.snd - (1 : Nat)) (1 : Nat)) ∧
g.size - y < g.size - x1)
(∃ (x3 : Nat × Nat),
Value.tuple #[Value.int IntKind.i64 (↑x1 : Int), Value.int IntKind.i64 (↑x.snd.snd : Int)] =
Value.tuple #[Value.int IntKind.i64 (↑x3.fst : Int), Value.int IntKind.i64 (↑x3.snd : Int)] ∧
x3.fst = begN g ∧ x3.snd = begS g ∧ w'2 = w))
(∃ (x2 : Nat × Nat),
Value.tuple #[Value.int IntKind.i64 (↑x1 : Int), Value.int IntKind.i64 (↑x.snd.snd : Int)] =
Value.tuple #[Value.int IntKind.i64 (↑x2.fst : Int), Value.int IntKind.i64 (↑x2.snd : Int)] ∧
x2.fst = begN g ∧ x2.snd = begS g ∧ w'1 = w))
(∃ (x2 : Nat × Nat),
Value.tuple #[Value.int IntKind.i64 (↑x1 : Int), Value.int IntKind.i64 (↑x.snd.snd : Int)] =
Value.tuple #[Value.int IntKind.i64 (↑x2.fst : Int), Value.int IntKind.i64 (↑x2.snd : Int)] ∧
x2.fst = begN g ∧ x2.snd = begS g ∧ w'1 = w))))) :
    (sBegins).Ok Tryd.prog 52 :=
  ok_of_vc sBegins annBegins spBegins (fun _ _ => rfl) (fun _ _ => rfl) hsp Tryd.func52 rfl (n := 1) (fun _ => rfl) (by kernel_rfl) (vcast (by kernel_rfl) h)

set_option maxRecDepth 1000000 in
theorem number_vc (hsp : SpecsOk Tryd.prog []) (h : ∀ (g : ByteArray) (w : World),
(1 : Nat) ≤ g.size ∧ g.size ≤ (4 : Nat) →
∀ (b : Nat) (w1 : World),
New w
(Obj.cells
#[Value.int IntKind.u8 (127 : Int), Value.int IntKind.u8 (31 : Int), Value.int IntKind.u8 (15 : Int),
Value.int IntKind.u8 (7 : Int)]
(5 : Nat))
b w1 →
∀ (w11 : World),
Drew w1 w11 →
∃ (k : Nat),
(0 : Int) = (↑k : Int) ∧
k < g.size ∧
InR IntKind.i64 ((↑g.size : Int) - (1 : Int)) ∧
∃ (k1 : Nat),
(↑g.size : Int) - (1 : Int) = (↑k1 : Int) ∧
k1 < (4 : Nat) ∧
∃ (n : Int),
w1.cell? { block := b, off := (0 : Nat) + k1 } = some (Value.int IntKind.u8 n) ∧
InR IntKind.i32
(IntKind.u8.wrap
(↑(BitVec.ofInt IntKind.u8.bits (↑(g.data.toList.getD k (0 : UInt8)).toNat : Int) &&&
BitVec.ofInt IntKind.u8.bits n).toNat :
Int)) ∧
(∃ (x : Nat),
Value.int IntKind.i64 (1 : Int) = Value.int IntKind.i64 ((↑x : Int) + (1 : Int)) ∧
Value.int IntKind.i32
(IntKind.u8.wrap
(↑(BitVec.ofInt IntKind.u8.bits (↑(g.data.toList.getD k (0 : UInt8)).toNat : Int) &&&
BitVec.ofInt IntKind.u8.bits n).toNat :
Int)) =
Value.int IntKind.i32 (↑(numP g g.size x) : Int) ∧
x + (1 : Nat) ≤ g.size ∧ Ext w11 w11) ∧
∀ (u : Nat → Value) (x : Nat) (w' : World),
x + (1 : Nat) ≤ g.size ∧ Ext w11 w' →
bcase (decide ((↑x : Int) + (1 : Int) < (↑g.size : Int)))
(InR IntKind.i32 ((64 : Int) * (↑(numP g g.size x) : Int)) ∧
∃ (k2 : Nat),
(↑x : Int) + (1 : Int) = (↑k2 : Int) ∧
k2 < g.size ∧
InR IntKind.i32
(IntKind.u8.wrap
(↑(BitVec.ofInt IntKind.u8.bits (↑(g.data.toList.getD k2 (0 : UInt8)).toNat : Int) &&&
BitVec.ofInt IntKind.u8.bits (63 : Int)).toNat :
Int)) ∧
InR IntKind.i32
((64 : Int) * (↑(numP g g.size x) : Int) +
IntKind.u8.wrap
(↑(BitVec.ofInt IntKind.u8.bits (↑(g.data.toList.getD k2 (0 : UInt8)).toNat : Int) &&&
BitVec.ofInt IntKind.u8.bits (63 : Int)).toNat :
Int)) ∧
InR IntKind.i64 ((↑x : Int) + (1 : Int) + (1 : Int)) ∧
∃ (y : Nat),
Value.int IntKind.i64 ((↑x : Int) + (1 : Int) + (1 : Int)) = Value.int IntKind.i64 ((↑y : Int) + (1 : Int)) ∧
Value.int IntKind.i32
((64 : Int) * (↑(numP g g.size x) : Int) +
IntKind.u8.wrap
(↑(BitVec.ofInt IntKind.u8.bits (↑(g.data.toList.getD k2 (0 : UInt8)).toNat : Int) &&&
BitVec.ofInt IntKind.u8.bits (63 : Int)).toNat :
Int)) =
Value.int IntKind.i32 (↑(numP g g.size y) : Int) ∧
(y + (1 : Nat) ≤ g.size ∧ Ext w11 w') ∧ g.size - y < g.size - x)
(∃ (x1 : Nat),
Value.int IntKind.i32 (↑(numP g g.size x) : Int) = Value.int IntKind.i32 (↑x1 : Int) ∧ x1 = numR g g.size ∧ Ext w w')) :
    (sNumber).Ok Tryd.prog 53 :=
  ok_of_vc sNumber annNumber [] (fun _ _ => rfl) (fun _ _ => rfl) hsp Tryd.func53 rfl (n := 1) (fun _ => rfl) (by kernel_rfl) (vcast (by kernel_rfl) h)

set_option maxRecDepth 1000000 in
theorem rnext_vc (hsp : SpecsOk Tryd.prog spRNext) (h : ∀ (g : ByteArray) (w : World),
U8 w ∧ g.size ≤ (67108864 : Nat) →
∃ (g1 : ByteArray),
#[Value.string g] = #[Value.string g1] ∧
g1.size ≤ (67108864 : Nat) ∧
∀ (x : Nat × Nat) (w' : World),
x.fst = begN g1 ∧ x.snd = begS g1 ∧ w' = w →
bcase (g.toList == (ByteArray.mk #[]).toList)
(∃ (x1 : Int × Nat),
Value.tuple #[Value.int IntKind.i32 (65533 : Int), Value.int IntKind.i64 (0 : Int)] =
Value.tuple #[Value.int IntKind.i32 x1.fst, Value.int IntKind.i64 (↑x1.snd : Int)] ∧
x1.fst = nxR g ∧ x1.snd = nxN g ∧ Ext w w')
(bcase ((↑x.fst : Int) == (0 : Int) || decide ((↑x.fst : Int) < (↑x.snd : Int)))
(∃ (x1 : Int × Nat),
Value.tuple #[Value.int IntKind.i32 (65533 : Int), Value.int IntKind.i64 (1 : Int)] =
Value.tuple #[Value.int IntKind.i32 x1.fst, Value.int IntKind.i64 (↑x1.snd : Int)] ∧
x1.fst = nxR g ∧ x1.snd = nxN g ∧ Ext w w')
(∃ (k : Nat),
(↑x.snd : Int) = (↑k : Int) ∧
(0 : Nat) ≤ k ∧
k ≤ g.size ∧
∃ (g2 : ByteArray),
#[Value.string (g.extract (0 : Nat) k)] = #[Value.string g2] ∧
((1 : Nat) ≤ g2.size ∧ g2.size ≤ (4 : Nat)) ∧
∀ (x1 : Nat) (w'1 : World),
x1 = numR g2 g2.size ∧ Ext w' w'1 →
∃ (x2 : Int × Nat),
Value.tuple #[Value.int IntKind.i32 (↑x1 : Int), Value.int IntKind.i64 (↑x.snd : Int)] =
Value.tuple #[Value.int IntKind.i32 x2.fst, Value.int IntKind.i64 (↑x2.snd : Int)] ∧
x2.fst = nxR g ∧ x2.snd = nxN g ∧ Ext w w'1))) :
    ((sDec nxR nxN)).Ok Tryd.prog 44 :=
  ok_of_vc (sDec nxR nxN) (annOf spRNext) spRNext (fun _ _ => rfl) (fun _ _ => rfl) hsp Tryd.func44 rfl (n := 1) (fun _ => rfl) (by kernel_rfl) (vcast (by kernel_rfl) h)

set_option maxRecDepth 1000000 in
theorem next_vc (hsp : SpecsOk Tryd.prog spNext) (h : ∀ (g : ByteArray) (w : World),
U8 w ∧ g.size ≤ (67108864 : Nat) →
∃ (g1 : ByteArray),
#[Value.string g] = #[Value.string g1] ∧
(U8 w ∧ g1.size ≤ (67108864 : Nat)) ∧
∀ (x : Int × Nat) (w' : World),
x.fst = nxR g1 ∧ x.snd = nxN g1 ∧ Ext w w' →
∃ (x1 : Int × Nat),
Value.tuple #[Value.int IntKind.i32 x.fst, Value.int IntKind.i64 (↑x.snd : Int)] =
Value.tuple #[Value.int IntKind.i32 x1.fst, Value.int IntKind.i64 (↑x1.snd : Int)] ∧
x1.fst = nxR g ∧ x1.snd = nxN g ∧ Ext w w') :
    ((sDec nxR nxN)).Ok Tryd.prog 34 :=
  ok_of_vc (sDec nxR nxN) (annOf spNext) spNext (fun _ _ => rfl) (fun _ _ => rfl) hsp Tryd.func34 rfl (n := 1) (fun _ => rfl) (by kernel_rfl) (vcast (by kernel_rfl) h)

end Go.Proofs.YtniiamobbgnjaaaDoor
