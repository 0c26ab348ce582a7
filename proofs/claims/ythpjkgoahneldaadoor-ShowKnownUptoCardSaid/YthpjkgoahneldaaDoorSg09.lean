/-
  Texts joined by program: VgSf, VgB, VgA, Gn, WkA, El.
-/
import Derived.Test.YthpjkgoahneldaaDoorSg06
import Derived.Test.YthpjkgoahneldaaDoorProg
import Derived.KernelRfl
import Derived.Test.YthpjkgoahneldaaDoorSg05
import Derived.Test.YthpjkgoahneldaaDoorSg03
import Derived.Test.YthpjkgoahneldaaDoorSh
set_option linter.unusedVariables false
set_option linter.unusedSimpArgs false

section
/-
  Verification conditions, printed by a program out of the specifications beside this text: each theorem says that the condition suffices. (Lean's kernel compares the printed condition with what 'wpE' computes.)
-/
set_option linter.unusedVariables false
namespace Go.Proofs.YthpjkgoahneldaaDoor
open Go Go.RowKit Vc Ut Tb Cl

set_option maxRecDepth 1000000 in
theorem tz64_vc (hsp : SpecsOk Tryd.prog []) (h : ∀ (g : Unit) (w : World), DB w → InR IntKind.u64 (IntKind.u64.wrap (↑(BitVec.ofInt IntKind.u64.bits (16 : Int) &&& BitVec.ofInt IntKind.u64.bits (IntKind.u64.wrap ((0 : Int) - (16 : Int)))).toNat : Int) * (285870213051353865 : Int)) ∧ ∃ (k : Nat), (15 : Int) = (↑k : Int) ∧ k < (64 : Nat) ∧ ∃ (n : Int), w.cell? { block := (5 : Nat), off := (0 : Nat) + k } = some (Value.int IntKind.u8 n) ∧ InR IntKind.i64 n ∧ ∃ (x : Unit), Value.int IntKind.i64 n = Value.int IntKind.i64 (4 : Int) ∧ w = w) :
    ((sTz .u64)).Ok Tryd.prog 162 :=
  ok_of_vc (sTz .u64) (annOf []) [] (fun _ _ => rfl) (fun _ _ => rfl) hsp Tryd.func162 rfl (n := 1) (fun _ => rfl) (by kernel_rfl) (vcast (by kernel_rfl) h)

set_option maxRecDepth 1000000 in
theorem tz_vc (hsp : SpecsOk Tryd.prog spTz) (h : ∀ (g : Unit) (w : World), DB w → ∃ (g1 : Unit), #[Value.int IntKind.u64 (16 : Int)] = #[Value.int IntKind.u64 (16 : Int)] ∧ DB w ∧ ∀ (x : Unit) (w' : World), w' = w → ∃ (x1 : Unit), Value.int IntKind.i64 (4 : Int) = Value.int IntKind.i64 (4 : Int) ∧ w' = w) :
    ((sTz .u64)).Ok Tryd.prog 160 :=
  ok_of_vc (sTz .u64) (annOf spTz) spTz (fun _ _ => rfl) (fun _ _ => rfl) hsp Tryd.func160 rfl (n := 1) (fun _ => rfl) (by kernel_rfl) (vcast (by kernel_rfl) h)

set_option maxRecDepth 1000000 in
theorem pow_vc (hsp : SpecsOk Tryd.prog []) (h : ∀ (g : Unit) (w : World), True → InR IntKind.i64 ((16 : Int) - (1 : Int)) ∧ ∃ (x : Unit), Value.bool true = Value.bool true ∧ w = w) :
    (sPow).Ok Tryd.prog 159 :=
  ok_of_vc sPow (annOf []) [] (fun _ _ => rfl) (fun _ _ => rfl) hsp Tryd.func159 rfl (n := 1) (fun _ => rfl) (by kernel_rfl) (vcast (by kernel_rfl) h)

set_option maxRecDepth 1000000 in
theorem bit2_vc (hsp : SpecsOk Tryd.prog spBit) (h : ∀ (g : Nat) (w : World), DB w ∧ (16 : Nat) ^ ((2 : Nat) - (1 : Nat)) ≤ g ∧ g < (16 : Nat) ^ (2 : Nat) → ∀ (b : Nat) (w1 : World), New w (Obj.cells #[Value.int IntKind.u8 (0 : Int), Value.int IntKind.u8 (0 : Int), Value.int IntKind.u8 (0 : Int), Value.int IntKind.u8 (0 : Int), Value.int IntKind.u8 (0 : Int), Value.int IntKind.u8 (0 : Int), Value.int IntKind.u8 (0 : Int), Value.int IntKind.u8 (0 : Int), Value.int IntKind.u8 (0 : Int), Value.int IntKind.u8 (0 : Int), Value.int IntKind.u8 (0 : Int), Value.int IntKind.u8 (0 : Int), Value.int IntKind.u8 (0 : Int), Value.int IntKind.u8 (0 : Int), Value.int IntKind.u8 (0 : Int), Value.int IntKind.u8 (0 : Int), Value.int IntKind.u8 (0 : Int), Value.int IntKind.u8 (0 : Int), Value.int IntKind.u8 (0 : Int), Value.int IntKind.u8 (0 : Int), Value.int IntKind.u8 (0 : Int), Value.int IntKind.u8 (0 : Int), Value.int IntKind.u8 (0 : Int), Value.int IntKind.u8 (0 : Int), Value.int IntKind.u8 (0 : Int), Value.int IntKind.u8 (0 : Int), Value.int IntKind.u8 (0 : Int), Value.int IntKind.u8 (0 : Int), Value.int IntKind.u8 (0 : Int), Value.int IntKind.u8 (0 : Int), Value.int IntKind.u8 (0 : Int), Value.int IntKind.u8 (0 : Int), Value.int IntKind.u8 (0 : Int), Value.int IntKind.u8 (0 : Int), Value.int IntKind.u8 (0 : Int), Value.int IntKind.u8 (0 : Int), Value.int IntKind.u8 (0 : Int), Value.int IntKind.u8 (0 : Int), Value.int IntKind.u8 (0 : Int), Value.int IntKind.u8 (0 : Int), Value.int IntKind.u8 (0 : Int), Value.int IntKind.u8 (0 : Int), Value.int IntKind.u8 (0 : Int), Value.int IntKind.u8 (0 : Int), Value.int IntKind.u8 (0 : Int), Value.int IntKind.u8 (0 : Int), Value.int IntKind.u8 (0 : Int), Value.int IntKind.u8 (0 : Int), Value.int IntKind.u8 (0 : Int), Value.int IntKind.u8 (0 : Int), Value.int IntKind.u8 (0 : Int), Value.int IntKind.u8 (0 : Int), Value.int IntKind.u8 (0 : Int), Value.int IntKind.u8 (0 : Int), Value.int IntKind.u8 (0 : Int), Value.int IntKind.u8 (0 : Int), Value.int IntKind.u8 (0 : Int), Value.int IntKind.u8 (0 : Int), Value.int IntKind.u8 (0 : Int), Value.int IntKind.u8 (0 : Int), Value.int IntKind.u8 (0 : Int), Value.int IntKind.u8 (0 : Int), Value.int IntKind.u8 (0 : Int), Value.int IntKind.u8 (0 : Int), Value.int IntKind.u8 (0 : Int)] (157 : Nat)) b w1 → ∃ (g1 : Unit), #[Value.int IntKind.i64 (16 : Int)] = #[Value.int IntKind.i64 (16 : Int)] ∧ True ∧ ∀ (x : Unit) (w' : World), w' = w1 → InR IntKind.u64 (16 : Int) ∧ ∃ (g2 : Unit), #[Value.int IntKind.u64 (16 : Int)] = #[Value.int IntKind.u64 (16 : Int)] ∧ DB w' ∧ ∀ (x1 : Unit) (w'1 : World), w'1 = w' → InR IntKind.u64 (4 : Int) ∧ InR IntKind.u64 (16 : Int) ∧ InR IntKind.u64 (16 : Int) ∧ InR IntKind.u64 ((16 : Int) - (1 : Int)) ∧ ((∃ (x2 : Nat), Value.int IntKind.i64 (65 : Int) = Value.int IntKind.i64 ((65 : Int) - (↑x2 : Int)) ∧ Value.int IntKind.u64 (↑g : Int) = Value.int IntKind.u64 (↑(g / (16 : Nat) ^ x2) : Int) ∧ x2 + (1 : Nat) ≤ (2 : Nat) ∧ (∃ (b1 : Nat),
 Value.pointer (some { block := b, off := (0 : Nat) }) = Value.pointer (some { block := b1, off := (0 : Nat) }) ∧ w.heap.size ≤ b1 ∧ w'1.heap[b1]? = some (Obj.cells (arrC g x2).toArray (157 : TypeId))) ∧ Ext w w'1) ∧ ∀ (u : Nat → Value) (x2 : Nat) (w'2 : World), x2 + (1 : Nat) ≤ (2 : Nat) ∧ (∃ (b1 : Nat), Value.pointer (some { block := b, off := (0 : Nat) }) = Value.pointer (some { block := b1, off := (0 : Nat) }) ∧ w.heap.size ≤ b1 ∧ w'2.heap[b1]? = some (Obj.cells (arrC g x2).toArray (157 : TypeId))) ∧ Ext w w'2 → bcase (decide ((↑(g / (16 : Nat) ^ x2) : Int) ≥ (16 : Int))) (InR IntKind.i64 ((65 : Int) - (↑x2 : Int) - (1 : Int)) ∧ ∃ (k : Nat), IntKind.u64.wrap (↑(BitVec.ofInt IntKind.u64.bits (↑(g / (16 : Nat) ^ x2) : Int) &&& BitVec.ofInt IntKind.u64.bits ((16 : Int) - (1 : Int))).toNat : Int) = (↑k : Int) ∧ k < (ByteArray.mk #[(48 : UInt8), (49 : UInt8), (50 : UInt8), (51 : UInt8), (52 : UInt8), (53 : UInt8), (54 : UInt8), (55 : UInt8), (56 : UInt8), (57 : UInt8), (97 : UInt8), (98 : UInt8), (99 : UInt8), (100 : UInt8), (101 : UInt8), (102 : UInt8), (103 : UInt8), (104 : UInt8), (105 : UInt8), (106 : UInt8), (107 : UInt8), (108 : UInt8), (109 : UInt8), (110 : UInt8), (111 : UInt8), (112 : UInt8), (113 : UInt8), (114 : UInt8), (115 : UInt8), (116 : UInt8), (117 : UInt8), (118 : UInt8), (119 : UInt8), (120 : UInt8), (121 : UInt8), (122 : UInt8)]).size ∧ ∃ (k1 : Nat), (65 : Int) - (↑x2 : Int) - (1 : Int) = (↑k1 : Int) ∧ k1 < (65 : Nat) ∧ true = true ∧ (∃ (old : Value), w'2.cell? { block := b, off := (0 : Nat) + k1 } = some old) ∧ w'2.frozen? { block := b, off := (0 : Nat) + k1 } = false ∧ ∀ (w11 : World), Stored w'2 { block := b, off := (0 : Nat) + k1 } (Value.int IntKind.u8 (↑([(48 : UInt8), (49 : UInt8), (50 : UInt8), (51 : UInt8), (52 : UInt8), (53 : UInt8), (54 : UInt8), (55 : UInt8), (56 : UInt8), (57 : UInt8), (97 : UInt8), (98 : UInt8), (99 : UInt8), (100 : UInt8), (101 : UInt8), (102 : UInt8), (103 : UInt8), (104 : UInt8), (105 : UInt8), (106 : UInt8), (107 : UInt8), (108 : UInt8), (109 : UInt8), (110 : UInt8), (111 : UInt8), (112 : UInt8), (113 : UInt8), (114 : UInt8), (115 : UInt8), (116 : UInt8), (117 : UInt8), (118 : UInt8), (119 : UInt8), (120 : UInt8), (121 : UInt8), (122 : UInt8)].getD k (0 : UInt8)).toNat : Int)) w11 → ∃ (y : Nat), Value.int IntKind.i64 ((65 : Int) - (↑x2 : Int) - (1 : Int)) = Value.int IntKind.i64 ((65 : Int) - (↑y : Int)) ∧ Value.int IntKind.u64 ((↑(g / (16 : Nat) ^ x2) : Int).fdiv ((2 : Int) ^ min (Int.toNat (4 : Int)) IntKind.u64.bits)) = Value.int IntKind.u64 (↑(g / (16 : Nat) ^ y) : Int) ∧ (y + (1 : Nat) ≤ (2 : Nat) ∧ (∃ (b1 : Nat), Value.pointer (some { block := b, off := (0 : Nat) }) = Value.pointer (some { block := b1, off := (0 : Nat) }) ∧ w.heap.size ≤ b1 ∧ w11.heap[b1]? = some (Obj.cells (arrC g y).toArray (157 : TypeId))) ∧ Ext w w11) ∧ (2 : Nat) - y < (2 : Nat) - x2) (∃ (c : Unit), Value.int IntKind.i64 ((65 : Int) - (↑x2 : Int)) = Value.int IntKind.i64 (64 : Int) ∧
 Value.int IntKind.u64 (↑(g / (16 : Nat) ^ x2) : Int) = Value.int IntKind.u64 (↑(g / (16 : Nat) ^ ((2 : Nat) - (1 : Nat))) : Int) ∧ (∃ (b1 : Nat), ∃ (j : Nat), Value.pointer (some { block := b, off := (0 : Nat) }) = Value.pointer (some { block := b1, off := (0 : Nat) }) ∧ w.heap.size ≤ b1 ∧ j + (1 : Nat) = (2 : Nat) ∧ w'2.heap[b1]? = some (Obj.cells (arrC g j).toArray (157 : TypeId))) ∧ Ext w w'2)) ∧ ∀ (u : Nat → Value) (c : Unit) (w'2 : World), (∃ (b1 : Nat), ∃ (j : Nat), Value.pointer (some { block := b, off := (0 : Nat) }) = Value.pointer (some { block := b1, off := (0 : Nat) }) ∧ w.heap.size ≤ b1 ∧ j + (1 : Nat) = (2 : Nat) ∧ w'2.heap[b1]? = some (Obj.cells (arrC g j).toArray (157 : TypeId))) ∧ Ext w w'2 → InR IntKind.i64 ((64 : Int) - (1 : Int)) ∧ ∃ (k : Nat), (↑(g / (16 : Nat) ^ ((2 : Nat) - (1 : Nat))) : Int) = (↑k : Int) ∧ k < (ByteArray.mk #[(48 : UInt8), (49 : UInt8), (50 : UInt8), (51 : UInt8), (52 : UInt8), (53 : UInt8), (54 : UInt8), (55 : UInt8), (56 : UInt8), (57 : UInt8), (97 : UInt8), (98 : UInt8), (99 : UInt8), (100 : UInt8), (101 : UInt8), (102 : UInt8), (103 : UInt8), (104 : UInt8), (105 : UInt8), (106 : UInt8), (107 : UInt8), (108 : UInt8), (109 : UInt8), (110 : UInt8), (111 : UInt8), (112 : UInt8), (113 : UInt8), (114 : UInt8), (115 : UInt8), (116 : UInt8), (117 : UInt8), (118 : UInt8), (119 : UInt8), (120 : UInt8), (121 : UInt8), (122 : UInt8)]).size ∧ ∃ (k1 : Nat), (63 : Int) = (↑k1 : Int) ∧ k1 < (65 : Nat) ∧ true = true ∧ (∃ (old : Value), w'2.cell? { block := b, off := (0 : Nat) + k1 } = some old) ∧ w'2.frozen? { block := b, off := (0 : Nat) + k1 } = false ∧ ∀ (w11 : World), Stored w'2 { block := b, off := (0 : Nat) + k1 } (Value.int IntKind.u8 (↑([(48 : UInt8), (49 : UInt8), (50 : UInt8), (51 : UInt8), (52 : UInt8), (53 : UInt8), (54 : UInt8), (55 : UInt8), (56 : UInt8), (57 : UInt8), (97 : UInt8), (98 : UInt8), (99 : UInt8), (100 : UInt8), (101 : UInt8), (102 : UInt8), (103 : UInt8), (104 : UInt8), (105 : UInt8), (106 : UInt8), (107 : UInt8), (108 : UInt8), (109 : UInt8), (110 : UInt8), (111 : UInt8), (112 : UInt8), (113 : UInt8), (114 : UInt8), (115 : UInt8), (116 : UInt8), (117 : UInt8), (118 : UInt8), (119 : UInt8), (120 : UInt8), (121 : UInt8), (122 : UInt8)].getD k (0 : UInt8)).toNat : Int)) w11 → ∃ (str : ByteArray), BytesIn w11 (some { block := b, off := (63 : Nat) }) ((65 : Nat) - ((64 : Int) - (1 : Int)).toNat) str ∧ ∃ (x2 : Unit × ByteArray), Value.tuple #[Value.slice none (0 : Nat) (0 : Nat), Value.string str] = Value.tuple #[Value.slice none (0 : Nat) (0 : Nat), Value.string x2.snd] ∧ x2.snd = strL (numS g (2 : Nat)) ∧ Ext w w11) :
    ((sBitD 2)).Ok Tryd.prog 155 :=
  ok_of_vc (sBitD 2) (annBitD 2 64) spBit (fun _ _ => rfl) (fun _ _ => rfl) hsp Tryd.func155 rfl (n := 5) (fun _ => rfl) (by kernel_rfl) (vcast (by kernel_rfl) h)

set_option maxRecDepth 1000000 in
theorem bit3_vc (hsp : SpecsOk Tryd.prog spBit) (h : ∀ (g : Nat) (w : World), DB w ∧ (16 : Nat) ^ ((3 : Nat) - (1 : Nat)) ≤ g ∧ g < (16 : Nat) ^ (3 : Nat) → ∀ (b : Nat) (w1 : World), New w (Obj.cells #[Value.int IntKind.u8 (0 : Int), Value.int IntKind.u8 (0 : Int), Value.int IntKind.u8 (0 : Int), Value.int IntKind.u8 (0 : Int), Value.int IntKind.u8 (0 : Int), Value.int IntKind.u8 (0 : Int), Value.int IntKind.u8 (0 : Int), Value.int IntKind.u8 (0 : Int), Value.int IntKind.u8 (0 : Int), Value.int IntKind.u8 (0 : Int), Value.int IntKind.u8 (0 : Int), Value.int IntKind.u8 (0 : Int), Value.int IntKind.u8 (0 : Int), Value.int IntKind.u8 (0 : Int), Value.int IntKind.u8 (0 : Int), Value.int IntKind.u8 (0 : Int), Value.int IntKind.u8 (0 : Int), Value.int IntKind.u8 (0 : Int), Value.int IntKind.u8 (0 : Int), Value.int IntKind.u8 (0 : Int), Value.int IntKind.u8 (0 : Int), Value.int IntKind.u8 (0 : Int), Value.int IntKind.u8 (0 : Int), Value.int IntKind.u8 (0 : Int), Value.int IntKind.u8 (0 : Int), Value.int IntKind.u8 (0 : Int), Value.int IntKind.u8 (0 : Int), Value.int IntKind.u8 (0 : Int), Value.int IntKind.u8 (0 : Int), Value.int IntKind.u8 (0 : Int), Value.int IntKind.u8 (0 : Int), Value.int IntKind.u8 (0 : Int), Value.int IntKind.u8 (0 : Int), Value.int IntKind.u8 (0 : Int), Value.int IntKind.u8 (0 : Int), Value.int IntKind.u8 (0 : Int), Value.int IntKind.u8 (0 : Int), Value.int IntKind.u8 (0 : Int), Value.int IntKind.u8 (0 : Int), Value.int IntKind.u8 (0 : Int), Value.int IntKind.u8 (0 : Int), Value.int IntKind.u8 (0 : Int), Value.int IntKind.u8 (0 : Int), Value.int IntKind.u8 (0 : Int), Value.int IntKind.u8 (0 : Int), Value.int IntKind.u8 (0 : Int), Value.int IntKind.u8 (0 : Int), Value.int IntKind.u8 (0 : Int), Value.int IntKind.u8 (0 : Int), Value.int IntKind.u8 (0 : Int), Value.int IntKind.u8 (0 : Int), Value.int IntKind.u8 (0 : Int), Value.int IntKind.u8 (0 : Int), Value.int IntKind.u8 (0 : Int), Value.int IntKind.u8 (0 : Int), Value.int IntKind.u8 (0 : Int), Value.int IntKind.u8 (0 : Int), Value.int IntKind.u8 (0 : Int), Value.int IntKind.u8 (0 : Int), Value.int IntKind.u8 (0 : Int), Value.int IntKind.u8 (0 : Int), Value.int IntKind.u8 (0 : Int), Value.int IntKind.u8 (0 : Int), Value.int IntKind.u8 (0 : Int), Value.int IntKind.u8 (0 : Int)] (157 : Nat)) b w1 → ∃ (g1 : Unit), #[Value.int IntKind.i64 (16 : Int)] = #[Value.int IntKind.i64 (16 : Int)] ∧ True ∧ ∀ (x : Unit) (w' : World), w' = w1 → InR IntKind.u64 (16 : Int) ∧ ∃ (g2 : Unit), #[Value.int IntKind.u64 (16 : Int)] = #[Value.int IntKind.u64 (16 : Int)] ∧ DB w' ∧ ∀ (x1 : Unit) (w'1 : World), w'1 = w' → InR IntKind.u64 (4 : Int) ∧ InR IntKind.u64 (16 : Int) ∧ InR IntKind.u64 (16 : Int) ∧ InR IntKind.u64 ((16 : Int) - (1 : Int)) ∧ ((∃ (x2 : Nat), Value.int IntKind.i64 (65 : Int) = Value.int IntKind.i64 ((65 : Int) - (↑x2 : Int)) ∧ Value.int IntKind.u64 (↑g : Int) = Value.int IntKind.u64 (↑(g / (16 : Nat) ^ x2) : Int) ∧ x2 + (1 : Nat) ≤ (3 : Nat) ∧ (∃ (b1 : Nat),
 Value.pointer (some { block := b, off := (0 : Nat) }) = Value.pointer (some { block := b1, off := (0 : Nat) }) ∧ w.heap.size ≤ b1 ∧ w'1.heap[b1]? = some (Obj.cells (arrC g x2).toArray (157 : TypeId))) ∧ Ext w w'1) ∧ ∀ (u : Nat → Value) (x2 : Nat) (w'2 : World), x2 + (1 : Nat) ≤ (3 : Nat) ∧ (∃ (b1 : Nat), Value.pointer (some { block := b, off := (0 : Nat) }) = Value.pointer (some { block := b1, off := (0 : Nat) }) ∧ w.heap.size ≤ b1 ∧ w'2.heap[b1]? = some (Obj.cells (arrC g x2).toArray (157 : TypeId))) ∧ Ext w w'2 → bcase (decide ((↑(g / (16 : Nat) ^ x2) : Int) ≥ (16 : Int))) (InR IntKind.i64 ((65 : Int) - (↑x2 : Int) - (1 : Int)) ∧ ∃ (k : Nat), IntKind.u64.wrap (↑(BitVec.ofInt IntKind.u64.bits (↑(g / (16 : Nat) ^ x2) : Int) &&& BitVec.ofInt IntKind.u64.bits ((16 : Int) - (1 : Int))).toNat : Int) = (↑k : Int) ∧ k < (ByteArray.mk #[(48 : UInt8), (49 : UInt8), (50 : UInt8), (51 : UInt8), (52 : UInt8), (53 : UInt8), (54 : UInt8), (55 : UInt8), (56 : UInt8), (57 : UInt8), (97 : UInt8), (98 : UInt8), (99 : UInt8), (100 : UInt8), (101 : UInt8), (102 : UInt8), (103 : UInt8), (104 : UInt8), (105 : UInt8), (106 : UInt8), (107 : UInt8), (108 : UInt8), (109 : UInt8), (110 : UInt8), (111 : UInt8), (112 : UInt8), (113 : UInt8), (114 : UInt8), (115 : UInt8), (116 : UInt8), (117 : UInt8), (118 : UInt8), (119 : UInt8), (120 : UInt8), (121 : UInt8), (122 : UInt8)]).size ∧ ∃ (k1 : Nat), (65 : Int) - (↑x2 : Int) - (1 : Int) = (↑k1 : Int) ∧ k1 < (65 : Nat) ∧ true = true ∧ (∃ (old : Value), w'2.cell? { block := b, off := (0 : Nat) + k1 } = some old) ∧ w'2.frozen? { block := b, off := (0 : Nat) + k1 } = false ∧ ∀ (w11 : World), Stored w'2 { block := b, off := (0 : Nat) + k1 } (Value.int IntKind.u8 (↑([(48 : UInt8), (49 : UInt8), (50 : UInt8), (51 : UInt8), (52 : UInt8), (53 : UInt8), (54 : UInt8), (55 : UInt8), (56 : UInt8), (57 : UInt8), (97 : UInt8), (98 : UInt8), (99 : UInt8), (100 : UInt8), (101 : UInt8), (102 : UInt8), (103 : UInt8), (104 : UInt8), (105 : UInt8), (106 : UInt8), (107 : UInt8), (108 : UInt8), (109 : UInt8), (110 : UInt8), (111 : UInt8), (112 : UInt8), (113 : UInt8), (114 : UInt8), (115 : UInt8), (116 : UInt8), (117 : UInt8), (118 : UInt8), (119 : UInt8), (120 : UInt8), (121 : UInt8), (122 : UInt8)].getD k (0 : UInt8)).toNat : Int)) w11 → ∃ (y : Nat), Value.int IntKind.i64 ((65 : Int) - (↑x2 : Int) - (1 : Int)) = Value.int IntKind.i64 ((65 : Int) - (↑y : Int)) ∧ Value.int IntKind.u64 ((↑(g / (16 : Nat) ^ x2) : Int).fdiv ((2 : Int) ^ min (Int.toNat (4 : Int)) IntKind.u64.bits)) = Value.int IntKind.u64 (↑(g / (16 : Nat) ^ y) : Int) ∧ (y + (1 : Nat) ≤ (3 : Nat) ∧ (∃ (b1 : Nat), Value.pointer (some { block := b, off := (0 : Nat) }) = Value.pointer (some { block := b1, off := (0 : Nat) }) ∧ w.heap.size ≤ b1 ∧ w11.heap[b1]? = some (Obj.cells (arrC g y).toArray (157 : TypeId))) ∧ Ext w w11) ∧ (3 : Nat) - y < (3 : Nat) - x2) (∃ (c : Unit), Value.int IntKind.i64 ((65 : Int) - (↑x2 : Int)) = Value.int IntKind.i64 (63 : Int) ∧
 Value.int IntKind.u64 (↑(g / (16 : Nat) ^ x2) : Int) = Value.int IntKind.u64 (↑(g / (16 : Nat) ^ ((3 : Nat) - (1 : Nat))) : Int) ∧ (∃ (b1 : Nat), ∃ (j : Nat), Value.pointer (some { block := b, off := (0 : Nat) }) = Value.pointer (some { block := b1, off := (0 : Nat) }) ∧ w.heap.size ≤ b1 ∧ j + (1 : Nat) = (3 : Nat) ∧ w'2.heap[b1]? = some (Obj.cells (arrC g j).toArray (157 : TypeId))) ∧ Ext w w'2)) ∧ ∀ (u : Nat → Value) (c : Unit) (w'2 : World), (∃ (b1 : Nat), ∃ (j : Nat), Value.pointer (some { block := b, off := (0 : Nat) }) = Value.pointer (some { block := b1, off := (0 : Nat) }) ∧ w.heap.size ≤ b1 ∧ j + (1 : Nat) = (3 : Nat) ∧ w'2.heap[b1]? = some (Obj.cells (arrC g j).toArray (157 : TypeId))) ∧ Ext w w'2 → InR IntKind.i64 ((63 : Int) - (1 : Int)) ∧ ∃ (k : Nat), (↑(g / (16 : Nat) ^ ((3 : Nat) - (1 : Nat))) : Int) = (↑k : Int) ∧ k < (ByteArray.mk #[(48 : UInt8), (49 : UInt8), (50 : UInt8), (51 : UInt8), (52 : UInt8), (53 : UInt8), (54 : UInt8), (55 : UInt8), (56 : UInt8), (57 : UInt8), (97 : UInt8), (98 : UInt8), (99 : UInt8), (100 : UInt8), (101 : UInt8), (102 : UInt8), (103 : UInt8), (104 : UInt8), (105 : UInt8), (106 : UInt8), (107 : UInt8), (108 : UInt8), (109 : UInt8), (110 : UInt8), (111 : UInt8), (112 : UInt8), (113 : UInt8), (114 : UInt8), (115 : UInt8), (116 : UInt8), (117 : UInt8), (118 : UInt8), (119 : UInt8), (120 : UInt8), (121 : UInt8), (122 : UInt8)]).size ∧ ∃ (k1 : Nat), (62 : Int) = (↑k1 : Int) ∧ k1 < (65 : Nat) ∧ true = true ∧ (∃ (old : Value), w'2.cell? { block := b, off := (0 : Nat) + k1 } = some old) ∧ w'2.frozen? { block := b, off := (0 : Nat) + k1 } = false ∧ ∀ (w11 : World), Stored w'2 { block := b, off := (0 : Nat) + k1 } (Value.int IntKind.u8 (↑([(48 : UInt8), (49 : UInt8), (50 : UInt8), (51 : UInt8), (52 : UInt8), (53 : UInt8), (54 : UInt8), (55 : UInt8), (56 : UInt8), (57 : UInt8), (97 : UInt8), (98 : UInt8), (99 : UInt8), (100 : UInt8), (101 : UInt8), (102 : UInt8), (103 : UInt8), (104 : UInt8), (105 : UInt8), (106 : UInt8), (107 : UInt8), (108 : UInt8), (109 : UInt8), (110 : UInt8), (111 : UInt8), (112 : UInt8), (113 : UInt8), (114 : UInt8), (115 : UInt8), (116 : UInt8), (117 : UInt8), (118 : UInt8), (119 : UInt8), (120 : UInt8), (121 : UInt8), (122 : UInt8)].getD k (0 : UInt8)).toNat : Int)) w11 → ∃ (str : ByteArray), BytesIn w11 (some { block := b, off := (62 : Nat) }) ((65 : Nat) - ((63 : Int) - (1 : Int)).toNat) str ∧ ∃ (x2 : Unit × ByteArray), Value.tuple #[Value.slice none (0 : Nat) (0 : Nat), Value.string str] = Value.tuple #[Value.slice none (0 : Nat) (0 : Nat), Value.string x2.snd] ∧ x2.snd = strL (numS g (3 : Nat)) ∧ Ext w w11) :
    ((sBitD 3)).Ok Tryd.prog 155 :=
  ok_of_vc (sBitD 3) (annBitD 3 63) spBit (fun _ _ => rfl) (fun _ _ => rfl) hsp Tryd.func155 rfl (n := 5) (fun _ => rfl) (by kernel_rfl) (vcast (by kernel_rfl) h)

set_option maxRecDepth 1000000 in
theorem bit4_vc (hsp : SpecsOk Tryd.prog spBit) (h : ∀ (g : Nat) (w : World), DB w ∧ (16 : Nat) ^ ((4 : Nat) - (1 : Nat)) ≤ g ∧ g < (16 : Nat) ^ (4 : Nat) → ∀ (b : Nat) (w1 : World), New w (Obj.cells #[Value.int IntKind.u8 (0 : Int), Value.int IntKind.u8 (0 : Int), Value.int IntKind.u8 (0 : Int), Value.int IntKind.u8 (0 : Int), Value.int IntKind.u8 (0 : Int), Value.int IntKind.u8 (0 : Int), Value.int IntKind.u8 (0 : Int), Value.int IntKind.u8 (0 : Int), Value.int IntKind.u8 (0 : Int), Value.int IntKind.u8 (0 : Int), Value.int IntKind.u8 (0 : Int), Value.int IntKind.u8 (0 : Int), Value.int IntKind.u8 (0 : Int), Value.int IntKind.u8 (0 : Int), Value.int IntKind.u8 (0 : Int), Value.int IntKind.u8 (0 : Int), Value.int IntKind.u8 (0 : Int), Value.int IntKind.u8 (0 : Int), Value.int IntKind.u8 (0 : Int), Value.int IntKind.u8 (0 : Int), Value.int IntKind.u8 (0 : Int), Value.int IntKind.u8 (0 : Int), Value.int IntKind.u8 (0 : Int), Value.int IntKind.u8 (0 : Int), Value.int IntKind.u8 (0 : Int), Value.int IntKind.u8 (0 : Int), Value.int IntKind.u8 (0 : Int), Value.int IntKind.u8 (0 : Int), Value.int IntKind.u8 (0 : Int), Value.int IntKind.u8 (0 : Int), Value.int IntKind.u8 (0 : Int), Value.int IntKind.u8 (0 : Int), Value.int IntKind.u8 (0 : Int), Value.int IntKind.u8 (0 : Int), Value.int IntKind.u8 (0 : Int), Value.int IntKind.u8 (0 : Int), Value.int IntKind.u8 (0 : Int), Value.int IntKind.u8 (0 : Int), Value.int IntKind.u8 (0 : Int), Value.int IntKind.u8 (0 : Int), Value.int IntKind.u8 (0 : Int), Value.int IntKind.u8 (0 : Int), Value.int IntKind.u8 (0 : Int), Value.int IntKind.u8 (0 : Int), Value.int IntKind.u8 (0 : Int), Value.int IntKind.u8 (0 : Int), Value.int IntKind.u8 (0 : Int), Value.int IntKind.u8 (0 : Int), Value.int IntKind.u8 (0 : Int), Value.int IntKind.u8 (0 : Int), Value.int IntKind.u8 (0 : Int), Value.int IntKind.u8 (0 : Int), Value.int IntKind.u8 (0 : Int), Value.int IntKind.u8 (0 : Int), Value.int IntKind.u8 (0 : Int), Value.int IntKind.u8 (0 : Int), Value.int IntKind.u8 (0 : Int), Value.int IntKind.u8 (0 : Int), Value.int IntKind.u8 (0 : Int), Value.int IntKind.u8 (0 : Int), Value.int IntKind.u8 (0 : Int), Value.int IntKind.u8 (0 : Int), Value.int IntKind.u8 (0 : Int), Value.int IntKind.u8 (0 : Int), Value.int IntKind.u8 (0 : Int)] (157 : Nat)) b w1 → ∃ (g1 : Unit), #[Value.int IntKind.i64 (16 : Int)] = #[Value.int IntKind.i64 (16 : Int)] ∧ True ∧ ∀ (x : Unit) (w' : World), w' = w1 → InR IntKind.u64 (16 : Int) ∧ ∃ (g2 : Unit), #[Value.int IntKind.u64 (16 : Int)] = #[Value.int IntKind.u64 (16 : Int)] ∧ DB w' ∧ ∀ (x1 : Unit) (w'1 : World), w'1 = w' → InR IntKind.u64 (4 : Int) ∧ InR IntKind.u64 (16 : Int) ∧ InR IntKind.u64 (16 : Int) ∧ InR IntKind.u64 ((16 : Int) - (1 : Int)) ∧ ((∃ (x2 : Nat), Value.int IntKind.i64 (65 : Int) = Value.int IntKind.i64 ((65 : Int) - (↑x2 : Int)) ∧ Value.int IntKind.u64 (↑g : Int) = Value.int IntKind.u64 (↑(g / (16 : Nat) ^ x2) : Int) ∧ x2 + (1 : Nat) ≤ (4 : Nat) ∧ (∃ (b1 : Nat),
 Value.pointer (some { block := b, off := (0 : Nat) }) = Value.pointer (some { block := b1, off := (0 : Nat) }) ∧ w.heap.size ≤ b1 ∧ w'1.heap[b1]? = some (Obj.cells (arrC g x2).toArray (157 : TypeId))) ∧ Ext w w'1) ∧ ∀ (u : Nat → Value) (x2 : Nat) (w'2 : World), x2 + (1 : Nat) ≤ (4 : Nat) ∧ (∃ (b1 : Nat), Value.pointer (some { block := b, off := (0 : Nat) }) = Value.pointer (some { block := b1, off := (0 : Nat) }) ∧ w.heap.size ≤ b1 ∧ w'2.heap[b1]? = some (Obj.cells (arrC g x2).toArray (157 : TypeId))) ∧ Ext w w'2 → bcase (decide ((↑(g / (16 : Nat) ^ x2) : Int) ≥ (16 : Int))) (InR IntKind.i64 ((65 : Int) - (↑x2 : Int) - (1 : Int)) ∧ ∃ (k : Nat), IntKind.u64.wrap (↑(BitVec.ofInt IntKind.u64.bits (↑(g / (16 : Nat) ^ x2) : Int) &&& BitVec.ofInt IntKind.u64.bits ((16 : Int) - (1 : Int))).toNat : Int) = (↑k : Int) ∧ k < (ByteArray.mk #[(48 : UInt8), (49 : UInt8), (50 : UInt8), (51 : UInt8), (52 : UInt8), (53 : UInt8), (54 : UInt8), (55 : UInt8), (56 : UInt8), (57 : UInt8), (97 : UInt8), (98 : UInt8), (99 : UInt8), (100 : UInt8), (101 : UInt8), (102 : UInt8), (103 : UInt8), (104 : UInt8), (105 : UInt8), (106 : UInt8), (107 : UInt8), (108 : UInt8), (109 : UInt8), (110 : UInt8), (111 : UInt8), (112 : UInt8), (113 : UInt8), (114 : UInt8), (115 : UInt8), (116 : UInt8), (117 : UInt8), (118 : UInt8), (119 : UInt8), (120 : UInt8), (121 : UInt8), (122 : UInt8)]).size ∧ ∃ (k1 : Nat), (65 : Int) - (↑x2 : Int) - (1 : Int) = (↑k1 : Int) ∧ k1 < (65 : Nat) ∧ true = true ∧ (∃ (old : Value), w'2.cell? { block := b, off := (0 : Nat) + k1 } = some old) ∧ w'2.frozen? { block := b, off := (0 : Nat) + k1 } = false ∧ ∀ (w11 : World), Stored w'2 { block := b, off := (0 : Nat) + k1 } (Value.int IntKind.u8 (↑([(48 : UInt8), (49 : UInt8), (50 : UInt8), (51 : UInt8), (52 : UInt8), (53 : UInt8), (54 : UInt8), (55 : UInt8), (56 : UInt8), (57 : UInt8), (97 : UInt8), (98 : UInt8), (99 : UInt8), (100 : UInt8), (101 : UInt8), (102 : UInt8), (103 : UInt8), (104 : UInt8), (105 : UInt8), (106 : UInt8), (107 : UInt8), (108 : UInt8), (109 : UInt8), (110 : UInt8), (111 : UInt8), (112 : UInt8), (113 : UInt8), (114 : UInt8), (115 : UInt8), (116 : UInt8), (117 : UInt8), (118 : UInt8), (119 : UInt8), (120 : UInt8), (121 : UInt8), (122 : UInt8)].getD k (0 : UInt8)).toNat : Int)) w11 → ∃ (y : Nat), Value.int IntKind.i64 ((65 : Int) - (↑x2 : Int) - (1 : Int)) = Value.int IntKind.i64 ((65 : Int) - (↑y : Int)) ∧ Value.int IntKind.u64 ((↑(g / (16 : Nat) ^ x2) : Int).fdiv ((2 : Int) ^ min (Int.toNat (4 : Int)) IntKind.u64.bits)) = Value.int IntKind.u64 (↑(g / (16 : Nat) ^ y) : Int) ∧ (y + (1 : Nat) ≤ (4 : Nat) ∧ (∃ (b1 : Nat), Value.pointer (some { block := b, off := (0 : Nat) }) = Value.pointer (some { block := b1, off := (0 : Nat) }) ∧ w.heap.size ≤ b1 ∧ w11.heap[b1]? = some (Obj.cells (arrC g y).toArray (157 : TypeId))) ∧ Ext w w11) ∧ (4 : Nat) - y < (4 : Nat) - x2) (∃ (c : Unit), Value.int IntKind.i64 ((65 : Int) - (↑x2 : Int)) = Value.int IntKind.i64 (62 : Int) ∧
 Value.int IntKind.u64 (↑(g / (16 : Nat) ^ x2) : Int) = Value.int IntKind.u64 (↑(g / (16 : Nat) ^ ((4 : Nat) - (1 : Nat))) : Int) ∧ (∃ (b1 : Nat), ∃ (j : Nat), Value.pointer (some { block := b, off := (0 : Nat) }) = Value.pointer (some { block := b1, off := (0 : Nat) }) ∧ w.heap.size ≤ b1 ∧ j + (1 : Nat) = (4 : Nat) ∧ w'2.heap[b1]? = some (Obj.cells (arrC g j).toArray (157 : TypeId))) ∧ Ext w w'2)) ∧ ∀ (u : Nat → Value) (c : Unit) (w'2 : World), (∃ (b1 : Nat), ∃ (j : Nat), Value.pointer (some { block := b, off := (0 : Nat) }) = Value.pointer (some { block := b1, off := (0 : Nat) }) ∧ w.heap.size ≤ b1 ∧ j + (1 : Nat) = (4 : Nat) ∧ w'2.heap[b1]? = some (Obj.cells (arrC g j).toArray (157 : TypeId))) ∧ Ext w w'2 → InR IntKind.i64 ((62 : Int) - (1 : Int)) ∧ ∃ (k : Nat), (↑(g / (16 : Nat) ^ ((4 : Nat) - (1 : Nat))) : Int) = (↑k : Int) ∧ k < (ByteArray.mk #[(48 : UInt8), (49 : UInt8), (50 : UInt8), (51 : UInt8), (52 : UInt8), (53 : UInt8), (54 : UInt8), (55 : UInt8), (56 : UInt8), (57 : UInt8), (97 : UInt8), (98 : UInt8), (99 : UInt8), (100 : UInt8), (101 : UInt8), (102 : UInt8), (103 : UInt8), (104 : UInt8), (105 : UInt8), (106 : UInt8), (107 : UInt8), (108 : UInt8), (109 : UInt8), (110 : UInt8), (111 : UInt8), (112 : UInt8), (113 : UInt8), (114 : UInt8), (115 : UInt8), (116 : UInt8), (117 : UInt8), (118 : UInt8), (119 : UInt8), (120 : UInt8), (121 : UInt8), (122 : UInt8)]).size ∧ ∃ (k1 : Nat), (61 : Int) = (↑k1 : Int) ∧ k1 < (65 : Nat) ∧ true = true ∧ (∃ (old : Value), w'2.cell? { block := b, off := (0 : Nat) + k1 } = some old) ∧ w'2.frozen? { block := b, off := (0 : Nat) + k1 } = false ∧ ∀ (w11 : World), Stored w'2 { block := b, off := (0 : Nat) + k1 } (Value.int IntKind.u8 (↑([(48 : UInt8), (49 : UInt8), (50 : UInt8), (51 : UInt8), (52 : UInt8), (53 : UInt8), (54 : UInt8), (55 : UInt8), (56 : UInt8), (57 : UInt8), (97 : UInt8), (98 : UInt8), (99 : UInt8), (100 : UInt8), (101 : UInt8), (102 : UInt8), (103 : UInt8), (104 : UInt8), (105 : UInt8), (106 : UInt8), (107 : UInt8), (108 : UInt8), (109 : UInt8), (110 : UInt8), (111 : UInt8), (112 : UInt8), (113 : UInt8), (114 : UInt8), (115 : UInt8), (116 : UInt8), (117 : UInt8), (118 : UInt8), (119 : UInt8), (120 : UInt8), (121 : UInt8), (122 : UInt8)].getD k (0 : UInt8)).toNat : Int)) w11 → ∃ (str : ByteArray), BytesIn w11 (some { block := b, off := (61 : Nat) }) ((65 : Nat) - ((62 : Int) - (1 : Int)).toNat) str ∧ ∃ (x2 : Unit × ByteArray), Value.tuple #[Value.slice none (0 : Nat) (0 : Nat), Value.string str] = Value.tuple #[Value.slice none (0 : Nat) (0 : Nat), Value.string x2.snd] ∧ x2.snd = strL (numS g (4 : Nat)) ∧ Ext w w11) :
    ((sBitD 4)).Ok Tryd.prog 155 :=
  ok_of_vc (sBitD 4) (annBitD 4 62) spBit (fun _ _ => rfl) (fun _ _ => rfl) hsp Tryd.func155 rfl (n := 5) (fun _ => rfl) (by kernel_rfl) (vcast (by kernel_rfl) h)

set_option maxRecDepth 1000000 in
theorem bit5_vc (hsp : SpecsOk Tryd.prog spBit) (h : ∀ (g : Nat) (w : World), DB w ∧ (16 : Nat) ^ ((5 : Nat) - (1 : Nat)) ≤ g ∧ g < (16 : Nat) ^ (5 : Nat) → ∀ (b : Nat) (w1 : World), New w (Obj.cells #[Value.int IntKind.u8 (0 : Int), Value.int IntKind.u8 (0 : Int), Value.int IntKind.u8 (0 : Int), Value.int IntKind.u8 (0 : Int), Value.int IntKind.u8 (0 : Int), Value.int IntKind.u8 (0 : Int), Value.int IntKind.u8 (0 : Int), Value.int IntKind.u8 (0 : Int), Value.int IntKind.u8 (0 : Int), Value.int IntKind.u8 (0 : Int), Value.int IntKind.u8 (0 : Int), Value.int IntKind.u8 (0 : Int), Value.int IntKind.u8 (0 : Int), Value.int IntKind.u8 (0 : Int), Value.int IntKind.u8 (0 : Int), Value.int IntKind.u8 (0 : Int), Value.int IntKind.u8 (0 : Int), Value.int IntKind.u8 (0 : Int), Value.int IntKind.u8 (0 : Int), Value.int IntKind.u8 (0 : Int), Value.int IntKind.u8 (0 : Int), Value.int IntKind.u8 (0 : Int), Value.int IntKind.u8 (0 : Int), Value.int IntKind.u8 (0 : Int), Value.int IntKind.u8 (0 : Int), Value.int IntKind.u8 (0 : Int), Value.int IntKind.u8 (0 : Int), Value.int IntKind.u8 (0 : Int), Value.int IntKind.u8 (0 : Int), Value.int IntKind.u8 (0 : Int), Value.int IntKind.u8 (0 : Int), Value.int IntKind.u8 (0 : Int), Value.int IntKind.u8 (0 : Int), Value.int IntKind.u8 (0 : Int), Value.int IntKind.u8 (0 : Int), Value.int IntKind.u8 (0 : Int), Value.int IntKind.u8 (0 : Int), Value.int IntKind.u8 (0 : Int), Value.int IntKind.u8 (0 : Int), Value.int IntKind.u8 (0 : Int), Value.int IntKind.u8 (0 : Int), Value.int IntKind.u8 (0 : Int), Value.int IntKind.u8 (0 : Int), Value.int IntKind.u8 (0 : Int), Value.int IntKind.u8 (0 : Int), Value.int IntKind.u8 (0 : Int), Value.int IntKind.u8 (0 : Int), Value.int IntKind.u8 (0 : Int), Value.int IntKind.u8 (0 : Int), Value.int IntKind.u8 (0 : Int), Value.int IntKind.u8 (0 : Int), Value.int IntKind.u8 (0 : Int), Value.int IntKind.u8 (0 : Int), Value.int IntKind.u8 (0 : Int), Value.int IntKind.u8 (0 : Int), Value.int IntKind.u8 (0 : Int), Value.int IntKind.u8 (0 : Int), Value.int IntKind.u8 (0 : Int), Value.int IntKind.u8 (0 : Int), Value.int IntKind.u8 (0 : Int), Value.int IntKind.u8 (0 : Int), Value.int IntKind.u8 (0 : Int), Value.int IntKind.u8 (0 : Int), Value.int IntKind.u8 (0 : Int), Value.int IntKind.u8 (0 : Int)] (157 : Nat)) b w1 → ∃ (g1 : Unit), #[Value.int IntKind.i64 (16 : Int)] = #[Value.int IntKind.i64 (16 : Int)] ∧ True ∧ ∀ (x : Unit) (w' : World), w' = w1 → InR IntKind.u64 (16 : Int) ∧ ∃ (g2 : Unit), #[Value.int IntKind.u64 (16 : Int)] = #[Value.int IntKind.u64 (16 : Int)] ∧ DB w' ∧ ∀ (x1 : Unit) (w'1 : World), w'1 = w' → InR IntKind.u64 (4 : Int) ∧ InR IntKind.u64 (16 : Int) ∧ InR IntKind.u64 (16 : Int) ∧ InR IntKind.u64 ((16 : Int) - (1 : Int)) ∧ ((∃ (x2 : Nat), Value.int IntKind.i64 (65 : Int) = Value.int IntKind.i64 ((65 : Int) - (↑x2 : Int)) ∧ Value.int IntKind.u64 (↑g : Int) = Value.int IntKind.u64 (↑(g / (16 : Nat) ^ x2) : Int) ∧ x2 + (1 : Nat) ≤ (5 : Nat) ∧ (∃ (b1 : Nat),
 Value.pointer (some { block := b, off := (0 : Nat) }) = Value.pointer (some { block := b1, off := (0 : Nat) }) ∧ w.heap.size ≤ b1 ∧ w'1.heap[b1]? = some (Obj.cells (arrC g x2).toArray (157 : TypeId))) ∧ Ext w w'1) ∧ ∀ (u : Nat → Value) (x2 : Nat) (w'2 : World), x2 + (1 : Nat) ≤ (5 : Nat) ∧ (∃ (b1 : Nat), Value.pointer (some { block := b, off := (0 : Nat) }) = Value.pointer (some { block := b1, off := (0 : Nat) }) ∧ w.heap.size ≤ b1 ∧ w'2.heap[b1]? = some (Obj.cells (arrC g x2).toArray (157 : TypeId))) ∧ Ext w w'2 → bcase (decide ((↑(g / (16 : Nat) ^ x2) : Int) ≥ (16 : Int))) (InR IntKind.i64 ((65 : Int) - (↑x2 : Int) - (1 : Int)) ∧ ∃ (k : Nat), IntKind.u64.wrap (↑(BitVec.ofInt IntKind.u64.bits (↑(g / (16 : Nat) ^ x2) : Int) &&& BitVec.ofInt IntKind.u64.bits ((16 : Int) - (1 : Int))).toNat : Int) = (↑k : Int) ∧ k < (ByteArray.mk #[(48 : UInt8), (49 : UInt8), (50 : UInt8), (51 : UInt8), (52 : UInt8), (53 : UInt8), (54 : UInt8), (55 : UInt8), (56 : UInt8), (57 : UInt8), (97 : UInt8), (98 : UInt8), (99 : UInt8), (100 : UInt8), (101 : UInt8), (102 : UInt8), (103 : UInt8), (104 : UInt8), (105 : UInt8), (106 : UInt8), (107 : UInt8), (108 : UInt8), (109 : UInt8), (110 : UInt8), (111 : UInt8), (112 : UInt8), (113 : UInt8), (114 : UInt8), (115 : UInt8), (116 : UInt8), (117 : UInt8), (118 : UInt8), (119 : UInt8), (120 : UInt8), (121 : UInt8), (122 : UInt8)]).size ∧ ∃ (k1 : Nat), (65 : Int) - (↑x2 : Int) - (1 : Int) = (↑k1 : Int) ∧ k1 < (65 : Nat) ∧ true = true ∧ (∃ (old : Value), w'2.cell? { block := b, off := (0 : Nat) + k1 } = some old) ∧ w'2.frozen? { block := b, off := (0 : Nat) + k1 } = false ∧ ∀ (w11 : World), Stored w'2 { block := b, off := (0 : Nat) + k1 } (Value.int IntKind.u8 (↑([(48 : UInt8), (49 : UInt8), (50 : UInt8), (51 : UInt8), (52 : UInt8), (53 : UInt8), (54 : UInt8), (55 : UInt8), (56 : UInt8), (57 : UInt8), (97 : UInt8), (98 : UInt8), (99 : UInt8), (100 : UInt8), (101 : UInt8), (102 : UInt8), (103 : UInt8), (104 : UInt8), (105 : UInt8), (106 : UInt8), (107 : UInt8), (108 : UInt8), (109 : UInt8), (110 : UInt8), (111 : UInt8), (112 : UInt8), (113 : UInt8), (114 : UInt8), (115 : UInt8), (116 : UInt8), (117 : UInt8), (118 : UInt8), (119 : UInt8), (120 : UInt8), (121 : UInt8), (122 : UInt8)].getD k (0 : UInt8)).toNat : Int)) w11 → ∃ (y : Nat), Value.int IntKind.i64 ((65 : Int) - (↑x2 : Int) - (1 : Int)) = Value.int IntKind.i64 ((65 : Int) - (↑y : Int)) ∧ Value.int IntKind.u64 ((↑(g / (16 : Nat) ^ x2) : Int).fdiv ((2 : Int) ^ min (Int.toNat (4 : Int)) IntKind.u64.bits)) = Value.int IntKind.u64 (↑(g / (16 : Nat) ^ y) : Int) ∧ (y + (1 : Nat) ≤ (5 : Nat) ∧ (∃ (b1 : Nat), Value.pointer (some { block := b, off := (0 : Nat) }) = Value.pointer (some { block := b1, off := (0 : Nat) }) ∧ w.heap.size ≤ b1 ∧ w11.heap[b1]? = some (Obj.cells (arrC g y).toArray (157 : TypeId))) ∧ Ext w w11) ∧ (5 : Nat) - y < (5 : Nat) - x2) (∃ (c : Unit), Value.int IntKind.i64 ((65 : Int) - (↑x2 : Int)) = Value.int IntKind.i64 (61 : Int) ∧
 Value.int IntKind.u64 (↑(g / (16 : Nat) ^ x2) : Int) = Value.int IntKind.u64 (↑(g / (16 : Nat) ^ ((5 : Nat) - (1 : Nat))) : Int) ∧ (∃ (b1 : Nat), ∃ (j : Nat), Value.pointer (some { block := b, off := (0 : Nat) }) = Value.pointer (some { block := b1, off := (0 : Nat) }) ∧ w.heap.size ≤ b1 ∧ j + (1 : Nat) = (5 : Nat) ∧ w'2.heap[b1]? = some (Obj.cells (arrC g j).toArray (157 : TypeId))) ∧ Ext w w'2)) ∧ ∀ (u : Nat → Value) (c : Unit) (w'2 : World), (∃ (b1 : Nat), ∃ (j : Nat), Value.pointer (some { block := b, off := (0 : Nat) }) = Value.pointer (some { block := b1, off := (0 : Nat) }) ∧ w.heap.size ≤ b1 ∧ j + (1 : Nat) = (5 : Nat) ∧ w'2.heap[b1]? = some (Obj.cells (arrC g j).toArray (157 : TypeId))) ∧ Ext w w'2 → InR IntKind.i64 ((61 : Int) - (1 : Int)) ∧ ∃ (k : Nat), (↑(g / (16 : Nat) ^ ((5 : Nat) - (1 : Nat))) : Int) = (↑k : Int) ∧ k < (ByteArray.mk #[(48 : UInt8), (49 : UInt8), (50 : UInt8), (51 : UInt8), (52 : UInt8), (53 : UInt8), (54 : UInt8), (55 : UInt8), (56 : UInt8), (57 : UInt8), (97 : UInt8), (98 : UInt8), (99 : UInt8), (100 : UInt8), (101 : UInt8), (102 : UInt8), (103 : UInt8), (104 : UInt8), (105 : UInt8), (106 : UInt8), (107 : UInt8), (108 : UInt8), (109 : UInt8), (110 : UInt8), (111 : UInt8), (112 : UInt8), (113 : UInt8), (114 : UInt8), (115 : UInt8), (116 : UInt8), (117 : UInt8), (118 : UInt8), (119 : UInt8), (120 : UInt8), (121 : UInt8), (122 : UInt8)]).size ∧ ∃ (k1 : Nat), (60 : Int) = (↑k1 : Int) ∧ k1 < (65 : Nat) ∧ true = true ∧ (∃ (old : Value), w'2.cell? { block := b, off := (0 : Nat) + k1 } = some old) ∧ w'2.frozen? { block := b, off := (0 : Nat) + k1 } = false ∧ ∀ (w11 : World), Stored w'2 { block := b, off := (0 : Nat) + k1 } (Value.int IntKind.u8 (↑([(48 : UInt8), (49 : UInt8), (50 : UInt8), (51 : UInt8), (52 : UInt8), (53 : UInt8), (54 : UInt8), (55 : UInt8), (56 : UInt8), (57 : UInt8), (97 : UInt8), (98 : UInt8), (99 : UInt8), (100 : UInt8), (101 : UInt8), (102 : UInt8), (103 : UInt8), (104 : UInt8), (105 : UInt8), (106 : UInt8), (107 : UInt8), (108 : UInt8), (109 : UInt8), (110 : UInt8), (111 : UInt8), (112 : UInt8), (113 : UInt8), (114 : UInt8), (115 : UInt8), (116 : UInt8), (117 : UInt8), (118 : UInt8), (119 : UInt8), (120 : UInt8), (121 : UInt8), (122 : UInt8)].getD k (0 : UInt8)).toNat : Int)) w11 → ∃ (str : ByteArray), BytesIn w11 (some { block := b, off := (60 : Nat) }) ((65 : Nat) - ((61 : Int) - (1 : Int)).toNat) str ∧ ∃ (x2 : Unit × ByteArray), Value.tuple #[Value.slice none (0 : Nat) (0 : Nat), Value.string str] = Value.tuple #[Value.slice none (0 : Nat) (0 : Nat), Value.string x2.snd] ∧ x2.snd = strL (numS g (5 : Nat)) ∧ Ext w w11) :
    ((sBitD 5)).Ok Tryd.prog 155 :=
  ok_of_vc (sBitD 5) (annBitD 5 61) spBit (fun _ _ => rfl) (fun _ _ => rfl) hsp Tryd.func155 rfl (n := 5) (fun _ => rfl) (by kernel_rfl) (vcast (by kernel_rfl) h)

set_option maxRecDepth 1000000 in
theorem bit6_vc (hsp : SpecsOk Tryd.prog spBit) (h : ∀ (g : Nat) (w : World), DB w ∧ (16 : Nat) ^ ((6 : Nat) - (1 : Nat)) ≤ g ∧ g < (16 : Nat) ^ (6 : Nat) → ∀ (b : Nat) (w1 : World), New w (Obj.cells #[Value.int IntKind.u8 (0 : Int), Value.int IntKind.u8 (0 : Int), Value.int IntKind.u8 (0 : Int), Value.int IntKind.u8 (0 : Int), Value.int IntKind.u8 (0 : Int), Value.int IntKind.u8 (0 : Int), Value.int IntKind.u8 (0 : Int), Value.int IntKind.u8 (0 : Int), Value.int IntKind.u8 (0 : Int), Value.int IntKind.u8 (0 : Int), Value.int IntKind.u8 (0 : Int), Value.int IntKind.u8 (0 : Int), Value.int IntKind.u8 (0 : Int), Value.int IntKind.u8 (0 : Int), Value.int IntKind.u8 (0 : Int), Value.int IntKind.u8 (0 : Int), Value.int IntKind.u8 (0 : Int), Value.int IntKind.u8 (0 : Int), Value.int IntKind.u8 (0 : Int), Value.int IntKind.u8 (0 : Int), Value.int IntKind.u8 (0 : Int), Value.int IntKind.u8 (0 : Int), Value.int IntKind.u8 (0 : Int), Value.int IntKind.u8 (0 : Int), Value.int IntKind.u8 (0 : Int), Value.int IntKind.u8 (0 : Int), Value.int IntKind.u8 (0 : Int), Value.int IntKind.u8 (0 : Int), Value.int IntKind.u8 (0 : Int), Value.int IntKind.u8 (0 : Int), Value.int IntKind.u8 (0 : Int), Value.int IntKind.u8 (0 : Int), Value.int IntKind.u8 (0 : Int), Value.int IntKind.u8 (0 : Int), Value.int IntKind.u8 (0 : Int), Value.int IntKind.u8 (0 : Int), Value.int IntKind.u8 (0 : Int), Value.int IntKind.u8 (0 : Int), Value.int IntKind.u8 (0 : Int), Value.int IntKind.u8 (0 : Int), Value.int IntKind.u8 (0 : Int), Value.int IntKind.u8 (0 : Int), Value.int IntKind.u8 (0 : Int), Value.int IntKind.u8 (0 : Int), Value.int IntKind.u8 (0 : Int), Value.int IntKind.u8 (0 : Int), Value.int IntKind.u8 (0 : Int), Value.int IntKind.u8 (0 : Int), Value.int IntKind.u8 (0 : Int), Value.int IntKind.u8 (0 : Int), Value.int IntKind.u8 (0 : Int), Value.int IntKind.u8 (0 : Int), Value.int IntKind.u8 (0 : Int), Value.int IntKind.u8 (0 : Int), Value.int IntKind.u8 (0 : Int), Value.int IntKind.u8 (0 : Int), Value.int IntKind.u8 (0 : Int), Value.int IntKind.u8 (0 : Int), Value.int IntKind.u8 (0 : Int), Value.int IntKind.u8 (0 : Int), Value.int IntKind.u8 (0 : Int), Value.int IntKind.u8 (0 : Int), Value.int IntKind.u8 (0 : Int), Value.int IntKind.u8 (0 : Int), Value.int IntKind.u8 (0 : Int)] (157 : Nat)) b w1 → ∃ (g1 : Unit), #[Value.int IntKind.i64 (16 : Int)] = #[Value.int IntKind.i64 (16 : Int)] ∧ True ∧ ∀ (x : Unit) (w' : World), w' = w1 → InR IntKind.u64 (16 : Int) ∧ ∃ (g2 : Unit), #[Value.int IntKind.u64 (16 : Int)] = #[Value.int IntKind.u64 (16 : Int)] ∧ DB w' ∧ ∀ (x1 : Unit) (w'1 : World), w'1 = w' → InR IntKind.u64 (4 : Int) ∧ InR IntKind.u64 (16 : Int) ∧ InR IntKind.u64 (16 : Int) ∧ InR IntKind.u64 ((16 : Int) - (1 : Int)) ∧ ((∃ (x2 : Nat), Value.int IntKind.i64 (65 : Int) = Value.int IntKind.i64 ((65 : Int) - (↑x2 : Int)) ∧ Value.int IntKind.u64 (↑g : Int) = Value.int IntKind.u64 (↑(g / (16 : Nat) ^ x2) : Int) ∧ x2 + (1 : Nat) ≤ (6 : Nat) ∧ (∃ (b1 : Nat),
 Value.pointer (some { block := b, off := (0 : Nat) }) = Value.pointer (some { block := b1, off := (0 : Nat) }) ∧ w.heap.size ≤ b1 ∧ w'1.heap[b1]? = some (Obj.cells (arrC g x2).toArray (157 : TypeId))) ∧ Ext w w'1) ∧ ∀ (u : Nat → Value) (x2 : Nat) (w'2 : World), x2 + (1 : Nat) ≤ (6 : Nat) ∧ (∃ (b1 : Nat), Value.pointer (some { block := b, off := (0 : Nat) }) = Value.pointer (some { block := b1, off := (0 : Nat) }) ∧ w.heap.size ≤ b1 ∧ w'2.heap[b1]? = some (Obj.cells (arrC g x2).toArray (157 : TypeId))) ∧ Ext w w'2 → bcase (decide ((↑(g / (16 : Nat) ^ x2) : Int) ≥ (16 : Int))) (InR IntKind.i64 ((65 : Int) - (↑x2 : Int) - (1 : Int)) ∧ ∃ (k : Nat), IntKind.u64.wrap (↑(BitVec.ofInt IntKind.u64.bits (↑(g / (16 : Nat) ^ x2) : Int) &&& BitVec.ofInt IntKind.u64.bits ((16 : Int) - (1 : Int))).toNat : Int) = (↑k : Int) ∧ k < (ByteArray.mk #[(48 : UInt8), (49 : UInt8), (50 : UInt8), (51 : UInt8), (52 : UInt8), (53 : UInt8), (54 : UInt8), (55 : UInt8), (56 : UInt8), (57 : UInt8), (97 : UInt8), (98 : UInt8), (99 : UInt8), (100 : UInt8), (101 : UInt8), (102 : UInt8), (103 : UInt8), (104 : UInt8), (105 : UInt8), (106 : UInt8), (107 : UInt8), (108 : UInt8), (109 : UInt8), (110 : UInt8), (111 : UInt8), (112 : UInt8), (113 : UInt8), (114 : UInt8), (115 : UInt8), (116 : UInt8), (117 : UInt8), (118 : UInt8), (119 : UInt8), (120 : UInt8), (121 : UInt8), (122 : UInt8)]).size ∧ ∃ (k1 : Nat), (65 : Int) - (↑x2 : Int) - (1 : Int) = (↑k1 : Int) ∧ k1 < (65 : Nat) ∧ true = true ∧ (∃ (old : Value), w'2.cell? { block := b, off := (0 : Nat) + k1 } = some old) ∧ w'2.frozen? { block := b, off := (0 : Nat) + k1 } = false ∧ ∀ (w11 : World), Stored w'2 { block := b, off := (0 : Nat) + k1 } (Value.int IntKind.u8 (↑([(48 : UInt8), (49 : UInt8), (50 : UInt8), (51 : UInt8), (52 : UInt8), (53 : UInt8), (54 : UInt8), (55 : UInt8), (56 : UInt8), (57 : UInt8), (97 : UInt8), (98 : UInt8), (99 : UInt8), (100 : UInt8), (101 : UInt8), (102 : UInt8), (103 : UInt8), (104 : UInt8), (105 : UInt8), (106 : UInt8), (107 : UInt8), (108 : UInt8), (109 : UInt8), (110 : UInt8), (111 : UInt8), (112 : UInt8), (113 : UInt8), (114 : UInt8), (115 : UInt8), (116 : UInt8), (117 : UInt8), (118 : UInt8), (119 : UInt8), (120 : UInt8), (121 : UInt8), (122 : UInt8)].getD k (0 : UInt8)).toNat : Int)) w11 → ∃ (y : Nat), Value.int IntKind.i64 ((65 : Int) - (↑x2 : Int) - (1 : Int)) = Value.int IntKind.i64 ((65 : Int) - (↑y : Int)) ∧ Value.int IntKind.u64 ((↑(g / (16 : Nat) ^ x2) : Int).fdiv ((2 : Int) ^ min (Int.toNat (4 : Int)) IntKind.u64.bits)) = Value.int IntKind.u64 (↑(g / (16 : Nat) ^ y) : Int) ∧ (y + (1 : Nat) ≤ (6 : Nat) ∧ (∃ (b1 : Nat), Value.pointer (some { block := b, off := (0 : Nat) }) = Value.pointer (some { block := b1, off := (0 : Nat) }) ∧ w.heap.size ≤ b1 ∧ w11.heap[b1]? = some (Obj.cells (arrC g y).toArray (157 : TypeId))) ∧ Ext w w11) ∧ (6 : Nat) - y < (6 : Nat) - x2) (∃ (c : Unit), Value.int IntKind.i64 ((65 : Int) - (↑x2 : Int)) = Value.int IntKind.i64 (60 : Int) ∧
 Value.int IntKind.u64 (↑(g / (16 : Nat) ^ x2) : Int) = Value.int IntKind.u64 (↑(g / (16 : Nat) ^ ((6 : Nat) - (1 : Nat))) : Int) ∧ (∃ (b1 : Nat), ∃ (j : Nat), Value.pointer (some { block := b, off := (0 : Nat) }) = Value.pointer (some { block := b1, off := (0 : Nat) }) ∧ w.heap.size ≤ b1 ∧ j + (1 : Nat) = (6 : Nat) ∧ w'2.heap[b1]? = some (Obj.cells (arrC g j).toArray (157 : TypeId))) ∧ Ext w w'2)) ∧ ∀ (u : Nat → Value) (c : Unit) (w'2 : World), (∃ (b1 : Nat), ∃ (j : Nat), Value.pointer (some { block := b, off := (0 : Nat) }) = Value.pointer (some { block := b1, off := (0 : Nat) }) ∧ w.heap.size ≤ b1 ∧ j + (1 : Nat) = (6 : Nat) ∧ w'2.heap[b1]? = some (Obj.cells (arrC g j).toArray (157 : TypeId))) ∧ Ext w w'2 → InR IntKind.i64 ((60 : Int) - (1 : Int)) ∧ ∃ (k : Nat), (↑(g / (16 : Nat) ^ ((6 : Nat) - (1 : Nat))) : Int) = (↑k : Int) ∧ k < (ByteArray.mk #[(48 : UInt8), (49 : UInt8), (50 : UInt8), (51 : UInt8), (52 : UInt8), (53 : UInt8), (54 : UInt8), (55 : UInt8), (56 : UInt8), (57 : UInt8), (97 : UInt8), (98 : UInt8), (99 : UInt8), (100 : UInt8), (101 : UInt8), (102 : UInt8), (103 : UInt8), (104 : UInt8), (105 : UInt8), (106 : UInt8), (107 : UInt8), (108 : UInt8), (109 : UInt8), (110 : UInt8), (111 : UInt8), (112 : UInt8), (113 : UInt8), (114 : UInt8), (115 : UInt8), (116 : UInt8), (117 : UInt8), (118 : UInt8), (119 : UInt8), (120 : UInt8), (121 : UInt8), (122 : UInt8)]).size ∧ ∃ (k1 : Nat), (59 : Int) = (↑k1 : Int) ∧ k1 < (65 : Nat) ∧ true = true ∧ (∃ (old : Value), w'2.cell? { block := b, off := (0 : Nat) + k1 } = some old) ∧ w'2.frozen? { block := b, off := (0 : Nat) + k1 } = false ∧ ∀ (w11 : World), Stored w'2 { block := b, off := (0 : Nat) + k1 } (Value.int IntKind.u8 (↑([(48 : UInt8), (49 : UInt8), (50 : UInt8), (51 : UInt8), (52 : UInt8), (53 : UInt8), (54 : UInt8), (55 : UInt8), (56 : UInt8), (57 : UInt8), (97 : UInt8), (98 : UInt8), (99 : UInt8), (100 : UInt8), (101 : UInt8), (102 : UInt8), (103 : UInt8), (104 : UInt8), (105 : UInt8), (106 : UInt8), (107 : UInt8), (108 : UInt8), (109 : UInt8), (110 : UInt8), (111 : UInt8), (112 : UInt8), (113 : UInt8), (114 : UInt8), (115 : UInt8), (116 : UInt8), (117 : UInt8), (118 : UInt8), (119 : UInt8), (120 : UInt8), (121 : UInt8), (122 : UInt8)].getD k (0 : UInt8)).toNat : Int)) w11 → ∃ (str : ByteArray), BytesIn w11 (some { block := b, off := (59 : Nat) }) ((65 : Nat) - ((60 : Int) - (1 : Int)).toNat) str ∧ ∃ (x2 : Unit × ByteArray), Value.tuple #[Value.slice none (0 : Nat) (0 : Nat), Value.string str] = Value.tuple #[Value.slice none (0 : Nat) (0 : Nat), Value.string x2.snd] ∧ x2.snd = strL (numS g (6 : Nat)) ∧ Ext w w11) :
    ((sBitD 6)).Ok Tryd.prog 155 :=
  ok_of_vc (sBitD 6) (annBitD 6 60) spBit (fun _ _ => rfl) (fun _ _ => rfl) hsp Tryd.func155 rfl (n := 5) (fun _ => rfl) (by kernel_rfl) (vcast (by kernel_rfl) h)

set_option maxRecDepth 1000000 in
theorem fmtI_vc (hsp : SpecsOk Tryd.prog spFmtI) (h : ∀ (g : Nat) (w : World), DB w ∧ (16 : Nat) ≤ g ∧ g < (16777216 : Nat) → InR IntKind.u64 (↑g : Int) ∧ ∃ (g1 : Nat), #[Value.slice none (0 : Nat) (0 : Nat), Value.int IntKind.u64 (↑g : Int), Value.int IntKind.i64 (16 : Int), Value.bool false, Value.bool false] = #[Value.slice none (0 : Nat) (0 : Nat), Value.int IntKind.u64 (↑g1 : Int), Value.int IntKind.i64 (16 : Int), Value.bool false, Value.bool false] ∧ (DB w ∧ (16 : Nat) ≤ g1 ∧ g1 < (16777216 : Nat)) ∧ ∀ (x : Unit × ByteArray) (w' : World), x.snd = strL (numS g1 (digN g1)) ∧ Ext w w' → ∃ (x1 : ByteArray), Value.string x.snd = Value.string x1 ∧ x1 = strL (numS g (digN g)) ∧ Ext w w') :
    (sFmtI).Ok Tryd.prog 149 :=
  ok_of_vc sFmtI (annOf spFmtI) spFmtI (fun _ _ => rfl) (fun _ _ => rfl) hsp Tryd.func149 rfl (n := 2) (fun _ => rfl) (by kernel_rfl) (vcast (by kernel_rfl) h)

set_option maxRecDepth 1000000 in
theorem fmt_vc (hsp : SpecsOk Tryd.prog spFmt) (h : ∀ (g : Nat) (w : World), DB w ∧ (16 : Nat) ≤ g ∧ g < (16777216 : Nat) → ∃ (g1 : Nat), #[Value.int IntKind.i64 (↑g : Int), Value.int IntKind.i64 (16 : Int)] = #[Value.int IntKind.i64 (↑g1 : Int), Value.int IntKind.i64 (16 : Int)] ∧ (DB w ∧ (16 : Nat) ≤ g1 ∧ g1 < (16777216 : Nat)) ∧ ∀ (x : ByteArray) (w' : World), x = strL (numS g1 (digN g1)) ∧ Ext w w' → ∃ (x1 : ByteArray), Value.string x = Value.string x1 ∧ x1 = strL (numS g (digN g)) ∧ Ext w w') :
    (sFmtI).Ok Tryd.prog 136 :=
  ok_of_vc sFmtI (annOf spFmt) spFmt (fun _ _ => rfl) (fun _ _ => rfl) hsp Tryd.func136 rfl (n := 2) (fun _ => rfl) (by kernel_rfl) (vcast (by kernel_rfl) h)

set_option maxRecDepth 1000000 in
theorem named_vc (hsp : SpecsOk Tryd.prog spNamed) (h : ∀ (g : Nat) (w : World), DB w ∧ (16 : Nat) ≤ g ∧ g ≤ (1114111 : Nat) → InR IntKind.i64 (↑g : Int) ∧ ∃ (g1 : Nat), #[Value.int IntKind.i64 (↑g : Int), Value.int IntKind.i64 (16 : Int)] = #[Value.int IntKind.i64 (↑g1 : Int), Value.int IntKind.i64 (16 : Int)] ∧ (DB w ∧ (16 : Nat) ≤ g1 ∧ g1 < (16777216 : Nat)) ∧ ∀ (x : ByteArray) (w' : World), x = strL (numS g1 (digN g1)) ∧ Ext w w' → (∃ (x1 : Nat), Value.string x = Value.string (strL (numS g x1)) ∧ digN g ≤ x1 ∧ x1 ≤ numJ g ∧ w' = w') ∧ ∀ (u : Nat → Value) (x1 : Nat) (w'1 : World), digN g ≤ x1 ∧ x1 ≤ numJ g ∧ w'1 = w' → bcase (decide ((↑(strL (numS g x1)).size : Int) < (4 : Int))) ((ByteArray.mk #[(48 : UInt8)]).size + (strL (numS g x1)).size ≤ (9223372036854775807 : Nat) ∧ ∃ (y : Nat), Value.string ((ByteArray.mk #[(48 : UInt8)]) ++ strL (numS g x1)) = Value.string (strL (numS g y)) ∧ (digN g ≤ y ∧ y ≤ numJ g ∧ w'1 = w') ∧ (4 : Nat) - y < (4 : Nat) - x1) ((ByteArray.mk #[(60 : UInt8)]).size + (strL (numS g x1)).size ≤ (9223372036854775807 : Nat) ∧ ((ByteArray.mk #[(60 : UInt8)]) ++ strL (numS g x1)).size + (ByteArray.mk #[(62 : UInt8)]).size ≤ (9223372036854775807 : Nat) ∧ ∃ (x2 : ByteArray), Value.string ((ByteArray.mk #[(60 : UInt8)]) ++ strL (numS g x1) ++ (ByteArray.mk #[(62 : UInt8)])) = Value.string x2 ∧ x2 = nameS g ∧ Ext w w'1)) :
    (sNamed).Ok Tryd.prog 113 :=
  ok_of_vc sNamed annNamed spNamed (fun _ _ => rfl) (fun _ _ => rfl) hsp Tryd.func113 rfl (n := 1) (fun _ => rfl) (by kernel_rfl) (vcast (by kernel_rfl) h)

set_option maxRecDepth 1000000 in
theorem numX_vc (hsp : SpecsOk Tryd.prog []) (h : ∀ (g : Nat) (w : World), (16 : Nat) ≤ g ∧ g ≤ (1114111 : Nat) → InR IntKind.i64 (↑g : Int) ∧ (∃ (x : GNm), Value.int IntKind.i64 (↑g : Int) = Value.int IntKind.i64 (↑(g / (16 : Nat) ^ x.j) : Int) ∧ Value.slice none (0 : Nat) (0 : Nat) = Value.slice x.a x.j x.c ∧ x.j ≤ numJ g ∧ Made w w (5 : TypeId) (1 : Nat) x.a x.j (u8L (numS g x.j)) x.c) ∧ ∀ (u : Nat → Value) (x : GNm) (w' : World), x.j ≤ numJ g ∧ Made w w' (5 : TypeId) (1 : Nat) x.a x.j (u8L (numS g x.j)) x.c → bcase (decide ((↑(g / (16 : Nat) ^ x.j) : Int) > (0 : Int)) || decide ((↑x.j : Int) < (4 : Int))) ((0 : Int) ≤ (↑(g / (16 : Nat) ^ x.j) : Int) ∧ (0 : Int) < (16 : Int) ∧ ∃ (k : Nat), (↑(g / (16 : Nat) ^ x.j) : Int) % (16 : Int) = (↑k : Int) ∧ k < (ByteArray.mk #[(48 : UInt8), (49 : UInt8), (50 : UInt8), (51 : UInt8), (52 : UInt8), (53 : UInt8), (54 : UInt8), (55 : UInt8), (56 : UInt8), (57 : UInt8), (97 : UInt8), (98 : UInt8), (99 : UInt8), (100 : UInt8), (101 : UInt8), (102 : UInt8)]).size ∧ ∀ (b : Nat) (w1 : World), New w' (Obj.cells #[Value.int IntKind.u8 (↑([(48 : UInt8), (49 : UInt8), (50 : UInt8), (51 : UInt8), (52 : UInt8), (53 : UInt8), (54 : UInt8), (55 : UInt8), (56 : UInt8), (57 : UInt8), (97 : UInt8), (98 : UInt8), (99 : UInt8), (100 : UInt8), (101 : UInt8), (102 : UInt8)].getD k (0 : UInt8)).toNat : Int)] (5 : Nat)) b w1 → ∃ (a' : Option Addr), ∃ (c' : Nat), ∃ (w'1 : World), AppRun Tryd.prog #[(64 : Nat), (64 : Nat)] (64 : Nat) (Value.slice (some { block := b, off := (0 : Nat) }) (1 : Nat) (1 : Nat)) (Value.slice x.a x.j x.c) w1 a' ((1 : Nat) + x.j) c' w'1 ∧ KO w1 w'1 ∧ (0 : Int) ≤ (↑(g / (16 : Nat) ^ x.j) : Int) ∧ (0 : Int) < (16 : Int) ∧ InR IntKind.i64 ((↑(g / (16 : Nat) ^ x.j) : Int) / (16 : Int)) ∧ ∃ (y : GNm), Value.int IntKind.i64 ((↑(g / (16 : Nat) ^ x.j) : Int) / (16 : Int)) = Value.int IntKind.i64 (↑(g / (16 : Nat) ^ y.j) : Int) ∧ Value.slice a' ((1 : Nat) + x.j) c' = Value.slice y.a y.j y.c ∧ (y.j ≤ numJ g ∧ Made w w'1 (5 : TypeId) (1 : Nat) y.a y.j (u8L (numS g y.j)) y.c) ∧ (10 : Nat) - y.j < (10 : Nat) - x.j) (∃ (str : ByteArray), BytesIn w' x.a x.j str ∧ ∃ (x1 : ByteArray), Value.string str = Value.string x1 ∧ x1 = strL (numS g (numJ g)) ∧ Ext w w')) :
    (sNumX).Ok Tryd.prog 119 :=
  ok_of_vc sNumX annNumX [] (fun _ _ => rfl) (fun _ _ => rfl) hsp Tryd.func119 rfl (n := 1) (fun _ => rfl) (by kernel_rfl) (vcast (by kernel_rfl) h)

set_option maxRecDepth 1000000 in
theorem blanks_vc (hsp : SpecsOk Tryd.prog []) (h : ∀ (g : Nat) (w : World), g ≤ (16 : Nat) → (∃ (x : GNm), Value.int IntKind.i64 (0 : Int) = Value.int IntKind.i64 (↑x.j : Int) ∧ Value.slice none (0 : Nat) (0 : Nat) = Value.slice x.a x.j x.c ∧ x.j ≤ g ∧ Made w w (5 : TypeId) (1 : Nat) x.a x.j (u8L (List.replicate x.j (32 : UInt8))) x.c) ∧ ∀ (u : Nat → Value) (x : GNm) (w' : World), x.j ≤ g ∧ Made w w' (5 : TypeId) (1 : Nat) x.a x.j (u8L (List.replicate x.j (32 : UInt8))) x.c → bcase (decide ((↑x.j : Int) < (↑g : Int))) (∀ (b : Nat) (w1 : World), New w' (Obj.cells #[Value.int IntKind.u8 (32 : Int)] (5 : Nat)) b w1 → ∃ (a' : Option Addr), ∃ (c' : Nat), ∃ (w'1 : World), AppRun Tryd.prog #[(64 : Nat), (64 : Nat)] (64 : Nat) (Value.slice x.a x.j x.c) (Value.slice (some { block := b, off := (0 : Nat) }) (1 : Nat) (1 : Nat)) w1 a' (x.j + (1 : Nat)) c' w'1 ∧ KO w1 w'1 ∧ InR IntKind.i64 ((↑x.j : Int) + (1 : Int)) ∧ ∃ (y : GNm), Value.int IntKind.i64 ((↑x.j : Int) + (1 : Int)) = Value.int IntKind.i64 (↑y.j : Int) ∧ Value.slice a' (x.j + (1 : Nat)) c' = Value.slice y.a y.j y.c ∧ (y.j ≤ g ∧ Made w w'1 (5 : TypeId) (1 : Nat) y.a y.j (u8L (List.replicate y.j (32 : UInt8))) y.c) ∧ g - y.j < g - x.j) (∃ (str : ByteArray), BytesIn w' x.a x.j str ∧ ∃ (x1 : ByteArray), Value.string str = Value.string x1 ∧ x1 = blankS g ∧ Ext w w')) :
    (sBlanks).Ok Tryd.prog 117 :=
  ok_of_vc sBlanks annBlanks [] (fun _ _ => rfl) (fun _ _ => rfl) hsp Tryd.func117 rfl (n := 1) (fun _ => rfl) (by kernel_rfl) (vcast (by kernel_rfl) h)

end Go.Proofs.YthpjkgoahneldaaDoor
end

section
/-
  Verification conditions, printed by a program out of the specifications beside this text: each theorem says that the condition suffices. (Lean's kernel compares the printed condition with what 'wpE' computes.)
-/
set_option linter.unusedVariables false
namespace Go.Proofs.YthpjkgoahneldaaDoor
open Go Go.RowKit Vc Ut



end Go.Proofs.YthpjkgoahneldaaDoor
end

section
/-
  Verification conditions, printed by a program out of the specifications beside this text: each theorem says that the condition suffices. (Lean's kernel compares the printed condition with what 'wpE' computes.)
-/
set_option linter.unusedVariables false
namespace Go.Proofs.YthpjkgoahneldaaDoor
open Go Go.RowKit Vc Ut

set_option maxRecDepth 1000000 in
theorem within_vc (hsp : SpecsOk Tryd.prog []) (h : ∀ (g : Nat × Nat × Nat) (w : World), True → ∃ (x : Bool), Value.bool (decide ((↑g.fst : Int) ≥ (↑g.snd.fst : Int)) && decide ((↑g.fst : Int) ≤ (↑g.snd.snd : Int))) = Value.bool x ∧ x = decide (g.snd.fst ≤ g.fst ∧ g.fst ≤ g.snd.snd) ∧ w = w) :
    (sWithin).Ok Tryd.prog 144 :=
  ok_of_vc sWithin (annOf []) [] (fun _ _ => rfl) (fun _ _ => rfl) hsp Tryd.func144 rfl (n := 3) (fun _ => rfl) (by kernel_rfl) (vcast (by kernel_rfl) h)

set_option maxRecDepth 1000000 in
theorem second_vc (hsp : SpecsOk Tryd.prog spSecond) (h : ∀ (g : Nat) (w : World), True → ∃ (g1 : Nat × Nat × Nat), #[Value.int IntKind.u8 (↑g : Int), Value.int IntKind.u8 (194 : Int), Value.int IntKind.u8 (223 : Int)] = #[Value.int IntKind.u8 (↑g1.fst : Int), Value.int IntKind.u8 (↑g1.snd.fst : Int), Value.int IntKind.u8 (↑g1.snd.snd : Int)] ∧ True ∧ ∀ (x : Bool) (w' : World), x = decide (g1.snd.fst ≤ g1.fst ∧ g1.fst ≤ g1.snd.snd) ∧ w' = w → bcase x (∃ (x1 : Nat × Nat × Nat), Value.tuple #[Value.int IntKind.u8 (128 : Int), Value.int IntKind.u8 (191 : Int), Value.int IntKind.i64 (2 : Int)] = Value.tuple #[Value.int IntKind.u8 (↑x1.fst : Int), Value.int IntKind.u8 (↑x1.snd.fst : Int), Value.int IntKind.i64 (↑x1.snd.snd : Int)] ∧ x1 = secN g ∧ w' = w) (bcase ((↑g : Int) == (224 : Int)) (∃ (x1 : Nat × Nat × Nat), Value.tuple #[Value.int IntKind.u8 (160 : Int), Value.int IntKind.u8 (191 : Int), Value.int IntKind.i64 (3 : Int)] = Value.tuple #[Value.int IntKind.u8 (↑x1.fst : Int), Value.int IntKind.u8 (↑x1.snd.fst : Int), Value.int IntKind.i64 (↑x1.snd.snd : Int)] ∧ x1 = secN g ∧ w' = w) (bcase ((↑g : Int) == (237 : Int)) (∃ (x1 : Nat × Nat × Nat), Value.tuple #[Value.int IntKind.u8 (128 : Int), Value.int IntKind.u8 (159 : Int), Value.int IntKind.i64 (3 : Int)] = Value.tuple #[Value.int IntKind.u8 (↑x1.fst : Int), Value.int IntKind.u8 (↑x1.snd.fst : Int), Value.int IntKind.i64 (↑x1.snd.snd : Int)] ∧ x1 = secN g ∧ w' = w) (∃ (g2 : Nat × Nat × Nat), #[Value.int IntKind.u8 (↑g : Int), Value.int IntKind.u8 (225 : Int), Value.int IntKind.u8 (239 : Int)] = #[Value.int IntKind.u8 (↑g2.fst : Int), Value.int IntKind.u8 (↑g2.snd.fst : Int), Value.int IntKind.u8 (↑g2.snd.snd : Int)] ∧ True ∧ ∀ (x1 : Bool) (w'1 : World), x1 = decide (g2.snd.fst ≤ g2.fst ∧ g2.fst ≤ g2.snd.snd) ∧ w'1 = w' → bcase x1 (∃ (x2 : Nat × Nat × Nat), Value.tuple #[Value.int IntKind.u8 (128 : Int), Value.int IntKind.u8 (191 : Int), Value.int IntKind.i64 (3 : Int)] = Value.tuple #[Value.int IntKind.u8 (↑x2.fst : Int), Value.int IntKind.u8 (↑x2.snd.fst : Int), Value.int IntKind.i64 (↑x2.snd.snd : Int)] ∧ x2 = secN g ∧ w'1 = w) (bcase ((↑g : Int) == (240 : Int)) (∃ (x2 : Nat × Nat × Nat), Value.tuple #[Value.int IntKind.u8 (144 : Int), Value.int IntKind.u8 (191 : Int), Value.int IntKind.i64 (4 : Int)] = Value.tuple #[Value.int IntKind.u8 (↑x2.fst : Int), Value.int IntKind.u8 (↑x2.snd.fst : Int), Value.int IntKind.i64 (↑x2.snd.snd : Int)] ∧ x2 = secN g ∧ w'1 = w) (∃ (g3 : Nat × Nat × Nat), #[Value.int IntKind.u8 (↑g : Int), Value.int IntKind.u8 (241 : Int), Value.int IntKind.u8 (243 : Int)] = #[Value.int IntKind.u8 (↑g3.fst : Int), Value.int IntKind.u8 (↑g3.snd.fst : Int), Value.int IntKind.u8 (↑g3.snd.snd : Int)] ∧ True ∧ ∀ (x2 : Bool) (w'2 : World), x2 = decide (g3.snd.fst ≤ g3.fst ∧ g3.fst ≤ g3.snd.snd) ∧ w'2 = w'1 → bcase x2 (∃ (x3 : Nat × Nat × Nat), Value.tuple #[Value.int IntKind.u8 (128 : Int), Value.int IntKind.u8 (191 : Int), Value.int IntKind.i64 (4 : Int)] = Value.tuple
 #[Value.int IntKind.u8 (↑x3.fst : Int), Value.int IntKind.u8 (↑x3.snd.fst : Int), Value.int IntKind.i64 (↑x3.snd.snd : Int)] ∧ x3 = secN g ∧ w'2 = w) (bcase ((↑g : Int) == (244 : Int)) (∃ (x3 : Nat × Nat × Nat), Value.tuple #[Value.int IntKind.u8 (128 : Int), Value.int IntKind.u8 (143 : Int), Value.int IntKind.i64 (4 : Int)] = Value.tuple #[Value.int IntKind.u8 (↑x3.fst : Int), Value.int IntKind.u8 (↑x3.snd.fst : Int), Value.int IntKind.i64 (↑x3.snd.snd : Int)] ∧ x3 = secN g ∧ w'2 = w) (∃ (x3 : Nat × Nat × Nat), Value.tuple #[Value.int IntKind.u8 (0 : Int), Value.int IntKind.u8 (0 : Int), Value.int IntKind.i64 (0 : Int)] = Value.tuple #[Value.int IntKind.u8 (↑x3.fst : Int), Value.int IntKind.u8 (↑x3.snd.fst : Int), Value.int IntKind.i64 (↑x3.snd.snd : Int)] ∧ x3 = secN g ∧ w'2 = w)))))))) :
    (sSecond).Ok Tryd.prog 143 :=
  ok_of_vc sSecond (annOf spSecond) spSecond (fun _ _ => rfl) (fun _ _ => rfl) hsp Tryd.func143 rfl (n := 1) (fun _ => rfl) (by kernel_rfl) (vcast (by kernel_rfl) h)

set_option maxRecDepth 1000000 in
theorem begins_vc (hsp : SpecsOk Tryd.prog spBegins) (h : ∀ (g : ByteArray) (w : World), g.size ≤ (67108864 : Nat) → bcase (g.toList == (ByteArray.mk #[]).toList) (∃ (x : Nat × Nat), Value.tuple #[Value.int IntKind.i64 (0 : Int), Value.int IntKind.i64 (0 : Int)] = Value.tuple #[Value.int IntKind.i64 (↑x.fst : Int), Value.int IntKind.i64 (↑x.snd : Int)] ∧ x.fst = begN g ∧ x.snd = begS g ∧ w = w) (∃ (k : Nat), (0 : Int) = (↑k : Int) ∧ k < g.size ∧ bcase (decide ((↑(g.data.toList.getD k (0 : UInt8)).toNat : Int) < (128 : Int))) (∃ (x : Nat × Nat), Value.tuple #[Value.int IntKind.i64 (1 : Int), Value.int IntKind.i64 (1 : Int)] = Value.tuple #[Value.int IntKind.i64 (↑x.fst : Int), Value.int IntKind.i64 (↑x.snd : Int)] ∧ x.fst = begN g ∧ x.snd = begS g ∧ w = w) (∃ (k1 : Nat), (0 : Int) = (↑k1 : Int) ∧ k1 < g.size ∧ ∃ (g1 : Nat), #[Value.int IntKind.u8 (↑(g.data.toList.getD k1 (0 : UInt8)).toNat : Int)] = #[Value.int IntKind.u8 (↑g1 : Int)] ∧ True ∧ ∀ (x : Nat × Nat × Nat) (w' : World), x = secN g1 ∧ w' = w → bcase ((↑x.snd.snd : Int) == (0 : Int)) (∃ (x1 : Nat × Nat), Value.tuple #[Value.int IntKind.i64 (0 : Int), Value.int IntKind.i64 (0 : Int)] = Value.tuple #[Value.int IntKind.i64 (↑x1.fst : Int), Value.int IntKind.i64 (↑x1.snd : Int)] ∧ x1.fst = begN g ∧ x1.snd = begS g ∧ w' = w) ((∃ (x1 : Nat), Value.int IntKind.i64 (1 : Int) = Value.int IntKind.i64 (↑x1 : Int) ∧ Value.int IntKind.u8 (↑x.fst : Int) = Value.int IntKind.u8 (↑(loB g x1) : Int) ∧ Value.int IntKind.u8 (↑x.snd.fst : Int) = Value.int IntKind.u8 (↑(hiB g x1) : Int) ∧ w' = w' ∧ (1 : Nat) ≤ x1 ∧ x1 ≤ (secN (bt g (0 : Nat))).snd.snd ∧ x1 ≤ g.size ∧ runB g ((secN (bt g (0 : Nat))).snd.snd - x1) x1 = runB g ((secN (bt g (0 : Nat))).snd.snd - (1 : Nat)) (1 : Nat)) ∧ ∀ (u : Nat → Value) (x1 : Nat) (w'1 : World), w'1 = w' ∧ (1 : Nat) ≤ x1 ∧ x1 ≤ (secN (bt g (0 : Nat))).snd.snd ∧ x1 ≤ g.size ∧ runB g ((secN (bt g (0 : Nat))).snd.snd - x1) x1 = runB g ((secN (bt g (0 : Nat))).snd.snd - (1 : Nat)) (1 : Nat) → bcase (decide ((↑x1 : Int) < (↑x.snd.snd : Int))) (bcase (decide ((↑x1 : Int) < (↑g.size : Int))) (∃ (k2 : Nat), (↑x1 : Int) = (↑k2 : Int) ∧ k2 < g.size ∧ ∃ (g2 : Nat × Nat × Nat), #[Value.int IntKind.u8 (↑(g.data.toList.getD k2 (0 : UInt8)).toNat : Int), Value.int IntKind.u8 (↑(loB g x1) : Int), Value.int IntKind.u8 (↑(hiB g x1) : Int)] = #[Value.int IntKind.u8 (↑g2.fst : Int), Value.int IntKind.u8 (↑g2.snd.fst : Int), Value.int IntKind.u8 (↑g2.snd.snd : Int)] ∧ True ∧ ∀ (x2 : Bool) (w'2 : World), x2 = decide (g2.snd.fst ≤ g2.fst ∧ g2.fst ≤ g2.snd.snd) ∧ w'2 = w'1 → bcase x2 (InR IntKind.i64 ((↑x1 : Int) + (1 : Int)) ∧ ∃ (y : Nat), Value.int IntKind.i64 ((↑x1 : Int) + (1 : Int)) = Value.int IntKind.i64 (↑y : Int) ∧ Value.int IntKind.u8 (128 : Int) = Value.int IntKind.u8 (↑(loB g y) : Int) ∧ Value.int IntKind.u8 (191 : Int) = Value.int IntKind.u8 (↑(hiB g y) : Int) ∧ (w'2 = w' ∧ (1 : Nat) ≤ y ∧ y ≤ (secN (bt g (0 : Nat))).snd.snd ∧ y ≤ g.size ∧
 runB g ((secN (bt g (0 : Nat))).snd.snd - y) y = runB g ((secN (bt g (0 : Nat))).snd.snd - (1 : Nat)) (1 : Nat)) ∧ g.size - y < g.size - x1) (∃ (x3 : Nat × Nat), Value.tuple #[Value.int IntKind.i64 (↑x1 : Int), Value.int IntKind.i64 (↑x.snd.snd : Int)] = Value.tuple #[Value.int IntKind.i64 (↑x3.fst : Int), Value.int IntKind.i64 (↑x3.snd : Int)] ∧ x3.fst = begN g ∧ x3.snd = begS g ∧ w'2 = w)) (∃ (x2 : Nat × Nat), Value.tuple #[Value.int IntKind.i64 (↑x1 : Int), Value.int IntKind.i64 (↑x.snd.snd : Int)] = Value.tuple #[Value.int IntKind.i64 (↑x2.fst : Int), Value.int IntKind.i64 (↑x2.snd : Int)] ∧ x2.fst = begN g ∧ x2.snd = begS g ∧ w'1 = w)) (∃ (x2 : Nat × Nat), Value.tuple #[Value.int IntKind.i64 (↑x1 : Int), Value.int IntKind.i64 (↑x.snd.snd : Int)] = Value.tuple #[Value.int IntKind.i64 (↑x2.fst : Int), Value.int IntKind.i64 (↑x2.snd : Int)] ∧ x2.fst = begN g ∧ x2.snd = begS g ∧ w'1 = w))))) :
    (sBegins).Ok Tryd.prog 126 :=
  ok_of_vc sBegins annBegins spBegins (fun _ _ => rfl) (fun _ _ => rfl) hsp Tryd.func126 rfl (n := 1) (fun _ => rfl) (by kernel_rfl) (vcast (by kernel_rfl) h)

set_option maxRecDepth 1000000 in
theorem number_vc (hsp : SpecsOk Tryd.prog []) (h : ∀ (g : ByteArray) (w : World), (1 : Nat) ≤ g.size ∧ g.size ≤ (4 : Nat) → ∀ (b : Nat) (w1 : World), New w (Obj.cells #[Value.int IntKind.u8 (127 : Int), Value.int IntKind.u8 (31 : Int), Value.int IntKind.u8 (15 : Int), Value.int IntKind.u8 (7 : Int)] (5 : Nat)) b w1 → ∀ (w11 : World), Drew w1 w11 → ∃ (k : Nat), (0 : Int) = (↑k : Int) ∧ k < g.size ∧ InR IntKind.i64 ((↑g.size : Int) - (1 : Int)) ∧ ∃ (k1 : Nat), (↑g.size : Int) - (1 : Int) = (↑k1 : Int) ∧ k1 < (4 : Nat) ∧ ∃ (n : Int), w1.cell? { block := b, off := (0 : Nat) + k1 } = some (Value.int IntKind.u8 n) ∧ InR IntKind.i32 (IntKind.u8.wrap (↑(BitVec.ofInt IntKind.u8.bits (↑(g.data.toList.getD k (0 : UInt8)).toNat : Int) &&& BitVec.ofInt IntKind.u8.bits n).toNat : Int)) ∧ (∃ (x : Nat), Value.int IntKind.i64 (1 : Int) = Value.int IntKind.i64 ((↑x : Int) + (1 : Int)) ∧ Value.int IntKind.i32 (IntKind.u8.wrap (↑(BitVec.ofInt IntKind.u8.bits (↑(g.data.toList.getD k (0 : UInt8)).toNat : Int) &&& BitVec.ofInt IntKind.u8.bits n).toNat : Int)) = Value.int IntKind.i32 (↑(numP g g.size x) : Int) ∧ x + (1 : Nat) ≤ g.size ∧ Ext w11 w11) ∧ ∀ (u : Nat → Value) (x : Nat) (w' : World), x + (1 : Nat) ≤ g.size ∧ Ext w11 w' → bcase (decide ((↑x : Int) + (1 : Int) < (↑g.size : Int))) (InR IntKind.i32 ((64 : Int) * (↑(numP g g.size x) : Int)) ∧ ∃ (k2 : Nat), (↑x : Int) + (1 : Int) = (↑k2 : Int) ∧ k2 < g.size ∧ InR IntKind.i32 (IntKind.u8.wrap (↑(BitVec.ofInt IntKind.u8.bits (↑(g.data.toList.getD k2 (0 : UInt8)).toNat : Int) &&& BitVec.ofInt IntKind.u8.bits (63 : Int)).toNat : Int)) ∧ InR IntKind.i32 ((64 : Int) * (↑(numP g g.size x) : Int) + IntKind.u8.wrap (↑(BitVec.ofInt IntKind.u8.bits (↑(g.data.toList.getD k2 (0 : UInt8)).toNat : Int) &&& BitVec.ofInt IntKind.u8.bits (63 : Int)).toNat : Int)) ∧ InR IntKind.i64 ((↑x : Int) + (1 : Int) + (1 : Int)) ∧ ∃ (y : Nat), Value.int IntKind.i64 ((↑x : Int) + (1 : Int) + (1 : Int)) = Value.int IntKind.i64 ((↑y : Int) + (1 : Int)) ∧ Value.int IntKind.i32 ((64 : Int) * (↑(numP g g.size x) : Int) + IntKind.u8.wrap (↑(BitVec.ofInt IntKind.u8.bits (↑(g.data.toList.getD k2 (0 : UInt8)).toNat : Int) &&& BitVec.ofInt IntKind.u8.bits (63 : Int)).toNat : Int)) = Value.int IntKind.i32 (↑(numP g g.size y) : Int) ∧ (y + (1 : Nat) ≤ g.size ∧ Ext w11 w') ∧ g.size - y < g.size - x) (∃ (x1 : Nat), Value.int IntKind.i32 (↑(numP g g.size x) : Int) = Value.int IntKind.i32 (↑x1 : Int) ∧ x1 = numR g g.size ∧ Ext w w')) :
    (sNumber).Ok Tryd.prog 127 :=
  ok_of_vc sNumber annNumber [] (fun _ _ => rfl) (fun _ _ => rfl) hsp Tryd.func127 rfl (n := 1) (fun _ => rfl) (by kernel_rfl) (vcast (by kernel_rfl) h)

set_option maxRecDepth 1000000 in
theorem rnext_vc (hsp : SpecsOk Tryd.prog spRNext) (h : ∀ (g : ByteArray) (w : World), U8 w ∧ g.size ≤ (67108864 : Nat) → ∃ (g1 : ByteArray), #[Value.string g] = #[Value.string g1] ∧ g1.size ≤ (67108864 : Nat) ∧ ∀ (x : Nat × Nat) (w' : World), x.fst = begN g1 ∧ x.snd = begS g1 ∧ w' = w → bcase (g.toList == (ByteArray.mk #[]).toList) (∃ (x1 : Int × Nat), Value.tuple #[Value.int IntKind.i32 (65533 : Int), Value.int IntKind.i64 (0 : Int)] = Value.tuple #[Value.int IntKind.i32 x1.fst, Value.int IntKind.i64 (↑x1.snd : Int)] ∧ x1.fst = nxR g ∧ x1.snd = nxN g ∧ Ext w w') (bcase ((↑x.fst : Int) == (0 : Int) || decide ((↑x.fst : Int) < (↑x.snd : Int))) (∃ (x1 : Int × Nat), Value.tuple #[Value.int IntKind.i32 (65533 : Int), Value.int IntKind.i64 (1 : Int)] = Value.tuple #[Value.int IntKind.i32 x1.fst, Value.int IntKind.i64 (↑x1.snd : Int)] ∧ x1.fst = nxR g ∧ x1.snd = nxN g ∧ Ext w w') (∃ (k : Nat), (↑x.snd : Int) = (↑k : Int) ∧ (0 : Nat) ≤ k ∧ k ≤ g.size ∧ ∃ (g2 : ByteArray), #[Value.string (g.extract (0 : Nat) k)] = #[Value.string g2] ∧ ((1 : Nat) ≤ g2.size ∧ g2.size ≤ (4 : Nat)) ∧ ∀ (x1 : Nat) (w'1 : World), x1 = numR g2 g2.size ∧ Ext w' w'1 → ∃ (x2 : Int × Nat), Value.tuple #[Value.int IntKind.i32 (↑x1 : Int), Value.int IntKind.i64 (↑x.snd : Int)] = Value.tuple #[Value.int IntKind.i32 x2.fst, Value.int IntKind.i64 (↑x2.snd : Int)] ∧ x2.fst = nxR g ∧ x2.snd = nxN g ∧ Ext w w'1))) :
    ((sDec nxR nxN)).Ok Tryd.prog 86 :=
  ok_of_vc (sDec nxR nxN) (annOf spRNext) spRNext (fun _ _ => rfl) (fun _ _ => rfl) hsp Tryd.func86 rfl (n := 1) (fun _ => rfl) (by kernel_rfl) (vcast (by kernel_rfl) h)

set_option maxRecDepth 1000000 in
theorem next_vc (hsp : SpecsOk Tryd.prog spNext) (h : ∀ (g : ByteArray) (w : World), U8 w ∧ g.size ≤ (67108864 : Nat) → ∃ (g1 : ByteArray), #[Value.string g] = #[Value.string g1] ∧ (U8 w ∧ g1.size ≤ (67108864 : Nat)) ∧ ∀ (x : Int × Nat) (w' : World), x.fst = nxR g1 ∧ x.snd = nxN g1 ∧ Ext w w' → ∃ (x1 : Int × Nat), Value.tuple #[Value.int IntKind.i32 x.fst, Value.int IntKind.i64 (↑x.snd : Int)] = Value.tuple #[Value.int IntKind.i32 x1.fst, Value.int IntKind.i64 (↑x1.snd : Int)] ∧ x1.fst = nxR g ∧ x1.snd = nxN g ∧ Ext w w') :
    ((sDec nxR nxN)).Ok Tryd.prog 63 :=
  ok_of_vc (sDec nxR nxN) (annOf spNext) spNext (fun _ _ => rfl) (fun _ _ => rfl) hsp Tryd.func63 rfl (n := 1) (fun _ => rfl) (by kernel_rfl) (vcast (by kernel_rfl) h)

end Go.Proofs.YthpjkgoahneldaaDoor
end

section
/-
  Facts that many proofs share.
-/
namespace Go.Proofs.YthpjkgoahneldaaDoor
open Go Go.RowKit Vc

theorem take_succ0 {xs : List Int} {x : Nat} (h : x < xs.length) : xs.take (x + 1) = xs.take x ++ [xs.getD x 0] := by
  rw [List.take_add_one, List.getD_eq_getElem?_getD, List.getElem?_eq_getElem h]; rfl
theorem getD_take_map {k : IntKind} {xs : List Int} {i : Nat} (h : i < xs.length) : ((xs.take (i + 1)).map (Value.int k)) = ((xs.take i).map (Value.int k)) ++ [.int k (xs.getD i 0)] := by
  rw [take_succ0 h]; simp
theorem take_eq_step {a b : List Int} {x : Nat} (ha : x < a.length) (hb : x < b.length) (h : a.take x = b.take x) (hv : a.getD x 0 = b.getD x 0) : a.take (x + 1) = b.take (x + 1) := by
  rw [take_succ0 ha, take_succ0 hb, h, hv]
theorem at_box {w w1 : World} {k : IntKind} {e : TypeId} {b : Nat} {xs : List Int} {cs : Array Value} (h : New w (.cells cs e) b w1) (hcs : cs = (xs.map (Value.int k)).toArray) (hl : xs.length ≤ 35184372087808) : GSl.at k ⟨some ⟨b, 0, none⟩, xs.length, xs⟩ w1 := by
  subst hcs; exact ⟨CellsAt.new h, hl⟩
theorem GSl.at_ext {k : IntKind} {g : GSl} {w w1 : World} (h : g.at k w) (hx : Ext w w1) : g.at k w1 := ⟨h.1.ext hx, h.2⟩
theorem at_made {w w1 : World} {k : IntKind} {e : TypeId} {a : Option Addr} {n c : Nat} {xs : List Int} (h : Made w w1 e 1 a n (xs.map (Value.int k)) c) (hl : xs.length ≤ 35184372087808) : GSl.at k ⟨a, c, xs⟩ w1 :=
  ⟨h.row.cells, hl⟩
theorem Ext.fr_new {w0 w w' : World} {S : Nat → Prop} (h : Ext w0 w) (hf : Fr S w w') (hS : ∀ q, S q → w0.heap.size ≤ q) : Ext w0 w' :=
  Below.trans h (hf.below h.size (fun q hq hs => by have := hS q hs; omega))
theorem beq_nat (a b : Nat) : ((a : Int) == (b : Int)) = decide (a = b) := decide_eq_decide.2 (by omega)
theorem bne_nat (a b : Nat) : ((a : Int) != (b : Int)) = decide (a ≠ b) := by
  rw [bne, beq_nat, decide_not]

theorem flat_at {α : Type} {f : α → List Value} {s : Nat} (hf : ∀ x, (f x).length = s) : ∀ {l : List α} {k j : Nat} {x : α}, l[k]? = some x → j < s → (l.flatMap f)[k * s + j]? = (f x)[j]?
  | [], k, j, x, h, _ => by simp at h
  | y :: l, 0, j, x, h, hj => by
    simp only [List.getElem?_cons_zero, Option.some.injEq] at h
    subst h
    rw [List.flatMap_cons, Nat.zero_mul, Nat.zero_add, List.getElem?_append_left (by rw [hf]; exact hj)]
  | y :: l, k + 1, j, x, h, hj => by
    simp only [List.getElem?_cons_succ] at h
    rw [List.flatMap_cons, List.getElem?_append_right (by rw [hf, Nat.add_mul]; omega), hf, show (k + 1) * s + j - s = k * s + j from by rw [Nat.add_mul]; omega]
    exact flat_at hf h hj
theorem flat_len' {α : Type} {f : α → List Value} {s : Nat} (hf : ∀ x, (f x).length = s) (l : List α) : (l.flatMap f).length = l.length * s := by
  induction l with
  | nil => simp
  | cons x l ih => rw [List.flatMap_cons, List.length_append, ih, hf, List.length_cons, Nat.add_mul]; omega

end Go.Proofs.YthpjkgoahneldaaDoor

namespace Go.Proofs.YthpjkgoahneldaaDoor.Vc
open Go Go.RowKit

/-- A cell of an element of several cells. -/
theorem CellsAt.fld {w : World} {ad : Option Addr} {vs : List Value} {k s j : Nat} {v : Value} {K : Nat → Nat → Prop} (h : CellsAt w ad vs) (hv : vs[k * s + j]? = some v)
    (hk : ∀ b o, w.cell? ⟨b, o + k * s + j, none⟩ = some v → K b o) : ptrE ad K := by
  rcases h with h | ⟨b, o, h1, h2⟩
  · subst h; simp at hv
  · subst h1
    refine hk b o ?_
    rw [Nat.add_assoc]; exact h2 _ _ hv
/-- All cells of an element. -/
theorem CellsAt.elem {w : World} {ad : Option Addr} {vs : List Value} {k s : Nat} {K : Nat → Nat → Prop} (h : CellsAt w ad vs) (hs : 0 < s) (hl : k * s + s ≤ vs.length)
    (hk : ∀ b o, (∀ j v, vs[k * s + j]? = some v → w.cell? ⟨b, o + k * s + j, none⟩ = some v) → K b o) : ptrE ad K := by
  rcases h with h | ⟨b, o, h1, h2⟩
  · subst h; simp at hl; omega
  · subst h1
    exact hk b o fun j v hv => by rw [Nat.add_assoc]; exact h2 _ _ hv
/-- An iterator over a string goes on: a block of the call's own. -/
theorem Nexted.below {w0 w w1 : World} {r i B : Nat} {s : ByteArray} (h : Nexted w r s i w1) (hb : Below B w0 w) (hr : B ≤ r) : Below B w0 w1 := by
  subst h
  exact ⟨hb.os, hb.tape, hb.output, by simpa using hb.size, fun b hlt => (World.putObj_heap_other (by omega)).trans (hb.block b hlt)⟩
theorem Nexted.heap {w w1 : World} {r i : Nat} {s : ByteArray} {o : Obj} (h : Nexted w r s i w1) (hr : w.heap[r]? = some o) : w1.heap[r]? = some (.stringIter s (i + dcN s i)) := by
  subst h
  have := (Array.getElem?_eq_some_iff.1 hr).1
  simp [World.putObj, this]
theorem Nexted.other {w w1 : World} {r i b : Nat} {s : ByteArray} (h : Nexted w r s i w1) (hb : b ≠ r) : w1.heap[b]? = w.heap[b]? := by
  subst h; exact World.putObj_heap_other hb
theorem Nexted.size {w w1 : World} {r i : Nat} {s : ByteArray} (h : Nexted w r s i w1) : w1.heap.size = w.heap.size := by subst h; simp
theorem Row.nexted {w w1 : World} {e : TypeId} {r i s' n c : Nat} {s : ByteArray} {ad : Option Addr} {vs : List Value} (h : Row w e s' ad n vs c) (hn : Nexted w r s i w1) (hr : ∃ s0 i0, w.heap[r]? = some (.stringIter s0 i0)) : Row w1 e s' ad n vs c := by
  refine ⟨h.1, ?_⟩
  rcases h.2 with h1 | ⟨g, cur, h1, h2, h3⟩
  · exact .inl h1
  · refine .inr ⟨g, cur, h1, ?_, h3⟩
    have : g ≠ r := by rintro rfl; obtain ⟨s0, i0, hr⟩ := hr; rw [hr] at h2; cases h2
    rw [hn.other this]; exact h2
theorem Made.nexted {w0 w w1 : World} {e : TypeId} {r i s' n c : Nat} {s : ByteArray} {ad : Option Addr} {vs : List Value} (h : Made w0 w e s' ad n vs c) (hn : Nexted w r s i w1) (hr : ∃ s0 i0, w.heap[r]? = some (.stringIter s0 i0)) (hB : w0.heap.size ≤ r) : Made w0 w1 e s' ad n vs c :=
  ⟨h.row.nexted hn hr, h.new, hn.below h.ext hB⟩

end Go.Proofs.YthpjkgoahneldaaDoor.Vc
end

section
/-
  Chapter 1: one step of the decoders: the document's and the library's say the same.
-/
namespace Go.Proofs.YthpjkgoahneldaaDoor
open Go Go.RowKit Vc Ut

theorem U8.ext {w w' : World} (h : U8 w) (hx : Ext w w') : U8 w' := ⟨fun c hc => hx.cell (h.1 c hc), fun i hi => ⟨hx.cell (h.2 i hi).1, hx.cell (h.2 i hi).2⟩⟩
theorem U8.fr {S : Nat → Prop} {w w' : World} (h : U8 w) (hf : Fr S w w') (h0 : ¬ S 0) (h1 : ¬ S 1) : U8 w' := by
  have k : ∀ (g o : Nat) (v : Value), ¬ S g → w.cell? ⟨g, o, none⟩ = some v → w'.cell? ⟨g, o, none⟩ = some v := fun g o v hg hc =>
    (World.cell?_of_block (w := w) (hf.block g (World.block_lt_of_cell? w _ hc) hg)).trans hc
  exact ⟨fun c hc => k _ _ _ h0 (h.1 c hc), fun i hi => ⟨k _ _ _ h1 (h.2 i hi).1, k _ _ _ h1 (h.2 i hi).2⟩⟩
theorem U8.lt {w : World} (h : U8 w) : 0 < w.heap.size ∧ 1 < w.heap.size :=
  ⟨World.block_lt_of_cell? w _ (h.1 0 (by decide)), World.block_lt_of_cell? w _ (h.2 0 (by decide)).1⟩

theorem str_eq (a b : ByteArray) : (a.toList == b.toList) = decide (a = b) := by
  rw [ByteArray.toList_eq, ByteArray.toList_eq]
  by_cases h : a = b
  · subst h; simp
  · rw [decide_eq_false h]
    have : ¬ a.data.toList = b.data.toList := fun hh => h (ByteArray.ext (Array.ext' hh))
    simpa using this
theorem size_zero {a : ByteArray} (h : a.size = 0) : a = ByteArray.mk #[] := by
  apply ByteArray.ext
  exact Array.eq_empty_of_size_eq_zero h
theorem str_nil (a : ByteArray) : (a.toList == (ByteArray.mk #[]).toList) = decide (a.size = 0) := by
  rw [str_eq]
  exact decide_eq_decide.2 ⟨fun h => by rw [h]; rfl, size_zero⟩

theorem within_ok : sWithin.Ok Tryd.prog 144 := by
  refine within_vc trivial ?_
  rintro ⟨c, a, b⟩ w _
  refine ⟨_, rfl, ?_, rfl⟩
  dsimp only
  rw [Bool.decide_and]
  congr 1 <;> exact decide_eq_decide.2 (by omega)

theorem second_ok : sSecond.Ok Tryd.prog 143 := by
  refine second_vc ⟨within_ok, trivial⟩ ?_
  rintro c w _
  refine ⟨(c, 194, 223), rfl, trivial, ?_⟩
  rintro x w1 ⟨rfl, rfl⟩
  dsimp only
  refine bcase_mk (fun h => ⟨(128, 191, 2), rfl, ?_, rfl⟩) (fun h1 => ?_)
  · simp only [decide_eq_true_eq] at h; unfold secN; rw [if_pos h]
  simp only [decide_eq_false_iff_not] at h1
  refine bcase_mk (fun h => ⟨(160, 191, 3), rfl, ?_, rfl⟩) (fun h2 => ?_)
  · simp only [beq_iff_eq] at h; unfold secN; rw [if_neg h1, if_pos (by omega)]
  simp only [beq_eq_false_iff_ne, ne_eq] at h2
  refine bcase_mk (fun h => ⟨(128, 159, 3), rfl, ?_, rfl⟩) (fun h3 => ?_)
  · simp only [beq_iff_eq] at h; unfold secN; rw [if_neg h1, if_neg (by omega), if_pos (by omega)]
  simp only [beq_eq_false_iff_ne, ne_eq] at h3
  refine ⟨(c, 225, 239), rfl, trivial, ?_⟩
  rintro x w2 ⟨rfl, rfl⟩
  refine bcase_mk (fun h => ⟨(128, 191, 3), rfl, ?_, rfl⟩) (fun h4 => ?_)
  · simp only [decide_eq_true_eq] at h; unfold secN; rw [if_neg h1, if_neg (by omega), if_neg (by omega), if_pos h]
  simp only [decide_eq_false_iff_not] at h4
  refine bcase_mk (fun h => ⟨(144, 191, 4), rfl, ?_, rfl⟩) (fun h5 => ?_)
  · simp only [beq_iff_eq] at h; unfold secN; rw [if_neg h1, if_neg (by omega), if_neg (by omega), if_neg h4, if_pos (by omega)]
  simp only [beq_eq_false_iff_ne, ne_eq] at h5
  refine ⟨(c, 241, 243), rfl, trivial, ?_⟩
  rintro x w3 ⟨rfl, rfl⟩
  refine bcase_mk (fun h => ⟨(128, 191, 4), rfl, ?_, rfl⟩) (fun h6 => ?_)
  · simp only [decide_eq_true_eq] at h; unfold secN; rw [if_neg h1, if_neg (by omega), if_neg (by omega), if_neg h4, if_neg (by omega), if_pos h]
  simp only [decide_eq_false_iff_not] at h6
  refine bcase_mk (fun h => ⟨(128, 143, 4), rfl, ?_, rfl⟩) (fun h7 => ⟨(0, 0, 0), rfl, ?_, rfl⟩)
  · simp only [beq_iff_eq] at h; unfold secN; rw [if_neg h1, if_neg (by omega), if_neg (by omega), if_neg h4, if_neg (by omega), if_neg h6, if_pos (by omega)]
  · simp only [beq_eq_false_iff_ne, ne_eq] at h7; unfold secN; rw [if_neg h1, if_neg (by omega), if_neg (by omega), if_neg h4, if_neg (by omega), if_neg h6, if_neg (by omega)]

theorem runB_stop {s : ByteArray} {f n : Nat} (h : ¬ okB s n) : runB s f n = n := by
  cases f with
  | zero => rfl
  | succ f => unfold runB; rw [if_neg h]
theorem runB_go {s : ByteArray} {k n : Nat} (h : okB s n) (hk : n < k) : runB s (k - n) n = runB s (k - (n + 1)) (n + 1) := by
  rw [show k - n = k - (n + 1) + 1 from by omega]
  unfold runB
  rw [if_pos h]
  cases k - (n + 1) <;> rfl

set_option maxRecDepth 20000 in
theorem begins_ok : sBegins.Ok Tryd.prog 126 := by
  refine begins_vc ⟨second_ok, within_ok, trivial⟩ ?_
  rintro s w hsm
  rw [str_nil]
  refine bcase_mk (fun h => ?_) (fun h => ?_)
  · have h0 : s.size = 0 := by simpa using h
    exact ⟨(0, 0), rfl, by unfold begN; rw [if_pos h0], by unfold begS; rw [if_pos h0], rfl⟩
  have h0 : ¬ s.size = 0 := by simpa using h
  refine ⟨0, rfl, by omega, ?_⟩
  refine bcase_mk (fun h => ?_) (fun h => ?_)
  · have h1 : bt s 0 < 128 := by simp only [decide_eq_true_eq] at h; unfold bt; omega
    exact ⟨(1, 1), rfl, by unfold begN; rw [if_neg h0, if_pos h1], by unfold begS; rw [if_neg h0, if_pos h1], rfl⟩
  have h1 : ¬ bt s 0 < 128 := by simp only [decide_eq_false_iff_not] at h; unfold bt; omega
  refine ⟨0, rfl, by omega, bt s 0, rfl, trivial, ?_⟩
  rintro x w1 ⟨rfl, rfl⟩
  have hS : begS s = (secN (bt s 0)).2.2 := by unfold begS; rw [if_neg h0, if_neg h1]
  refine bcase_mk (fun h => ?_) (fun h => ?_)
  · have h2 : (secN (bt s 0)).2.2 = 0 := by simp only [beq_iff_eq] at h; omega
    exact ⟨(0, 0), rfl, by unfold begN; rw [if_neg h0, if_neg h1, if_pos h2], by rw [hS, h2], rfl⟩
  have h2 : ¬ (secN (bt s 0)).2.2 = 0 := by simp only [beq_eq_false_iff_ne, ne_eq] at h; omega
  have hN : begN s = runB s ((secN (bt s 0)).2.2 - 1) 1 := by unfold begN; rw [if_neg h0, if_neg h1, if_neg h2]
  have hbd := secN_bd (bt s 0)
  refine ⟨⟨1, rfl, rfl, rfl, rfl, Nat.le_refl _, by omega, by omega, rfl⟩, ?_⟩
  rintro _ n w2 ⟨rfl, hn1, hn2, hn3, hrun⟩
  have done : runB s ((secN (bt s 0)).2.2 - n) n = n → ∃ x2 : Nat × Nat, Value.tuple #[.int .i64 n, .int .i64 (secN (bt s 0)).2.2] = Value.tuple #[.int .i64 x2.1, .int .i64 x2.2] ∧ x2.1 = begN s ∧ x2.2 = begS s ∧ w2 = w2 :=
    fun hd => ⟨(n, (secN (bt s 0)).2.2), rfl, by rw [hN, ← hrun, hd], hS.symm, rfl⟩
  refine bcase_mk (fun h => ?_) (fun h => ?_)
  · have hk : n < (secN (bt s 0)).2.2 := by simp only [decide_eq_true_eq] at h; omega
    refine bcase_mk (fun h => ?_) (fun h => ?_)
    · have hs : n < s.size := by simp only [decide_eq_true_eq] at h; omega
      refine ⟨n, rfl, hs, (bt s n, loB s n, hiB s n), rfl, trivial, ?_⟩
      rintro x w3 ⟨rfl, rfl⟩
      dsimp only
      refine bcase_mk (fun h => ?_) (fun h => ?_)
      · have hok : okB s n := by simp only [decide_eq_true_eq] at h; exact ⟨hs, h⟩
        refine ⟨inr_i64 (by omega) (by omega), n + 1, by simp, ?_, ?_, ⟨rfl, by omega, by omega, by omega, by rw [← hrun, runB_go hok hk]⟩, by omega⟩
        · unfold loB; rw [if_neg (by omega)]; rfl
        · unfold hiB; rw [if_neg (by omega)]; rfl
      · exact done (runB_stop (fun hok => by simp only [decide_eq_false_iff_not] at h; exact h hok.2))
    · exact done (runB_stop (fun hok => by simp only [decide_eq_false_iff_not] at h; have := hok.1; omega))
  · have hk : n = (secN (bt s 0)).2.2 := by simp only [decide_eq_false_iff_not] at h; omega
    refine done ?_
    rw [← hk, Nat.sub_self]; rfl

set_option maxRecDepth 100000 in
theorem and_masks : ∀ x : Fin 256, IntKind.u8.wrap ((BitVec.ofInt IntKind.u8.bits ((x.val : Nat) : Int) &&& BitVec.ofInt IntKind.u8.bits 127).toNat : Int) = ((x.val % 128 : Nat) : Int) ∧
    IntKind.u8.wrap ((BitVec.ofInt IntKind.u8.bits ((x.val : Nat) : Int) &&& BitVec.ofInt IntKind.u8.bits 31).toNat : Int) = ((x.val % 32 : Nat) : Int) ∧
    IntKind.u8.wrap ((BitVec.ofInt IntKind.u8.bits ((x.val : Nat) : Int) &&& BitVec.ofInt IntKind.u8.bits 15).toNat : Int) = ((x.val % 16 : Nat) : Int) ∧
    IntKind.u8.wrap ((BitVec.ofInt IntKind.u8.bits ((x.val : Nat) : Int) &&& BitVec.ofInt IntKind.u8.bits 7).toNat : Int) = ((x.val % 8 : Nat) : Int) ∧
    IntKind.u8.wrap ((BitVec.ofInt IntKind.u8.bits ((x.val : Nat) : Int) &&& BitVec.ofInt IntKind.u8.bits 63).toNat : Int) = ((x.val % 64 : Nat) : Int) := by decide
theorem and_mask (s : ByteArray) (i : Nat) {m : Int} {k : Nat} (h : (m = 127 ∧ k = 128) ∨ (m = 31 ∧ k = 32) ∨ (m = 15 ∧ k = 16) ∨ (m = 7 ∧ k = 8) ∨ (m = 63 ∧ k = 64)) :
    IntKind.u8.wrap ((BitVec.ofInt IntKind.u8.bits ((s.data.toList.getD i 0).toNat : Int) &&& BitVec.ofInt IntKind.u8.bits m).toNat : Int) = ((bt s i % k : Nat) : Int) := by
  have := and_masks ⟨bt s i, bt_lt s i⟩
  dsimp only at this
  rcases h with ⟨rfl, rfl⟩ | ⟨rfl, rfl⟩ | ⟨rfl, rfl⟩ | ⟨rfl, rfl⟩ | ⟨rfl, rfl⟩
  · exact this.1
  · exact this.2.1
  · exact this.2.2.1
  · exact this.2.2.2.1
  · exact this.2.2.2.2

theorem number_ok : sNumber.Ok Tryd.prog 127 := by
  refine number_vc trivial ?_
  rintro s w ⟨h1, h4⟩ b w1 hn w2 hd
  have hcell : ∃ m : Int, w1.cell? ⟨b, 0 + (s.size - 1), none⟩ = some (.int .u8 m) ∧ ((m = 127 ∧ maskN s.size = 128) ∨ (m = 31 ∧ maskN s.size = 32) ∨ (m = 15 ∧ maskN s.size = 16) ∨ (m = 7 ∧ maskN s.size = 8) ∨ (m = 63 ∧ maskN s.size = 64)) := by
    rw [Nat.zero_add, hn.cell]
    have : s.size = 1 ∨ s.size = 2 ∨ s.size = 3 ∨ s.size = 4 := by omega
    rcases this with h | h | h | h <;> rw [h]
    · exact ⟨127, rfl, .inl ⟨rfl, rfl⟩⟩
    · exact ⟨31, rfl, .inr (.inl ⟨rfl, rfl⟩)⟩
    · exact ⟨15, rfl, .inr (.inr (.inl ⟨rfl, rfl⟩))⟩
    · exact ⟨7, rfl, .inr (.inr (.inr (.inl ⟨rfl, rfl⟩)))⟩
  obtain ⟨m, hc, hm⟩ := hcell
  have hmod := and_mask s 0 hm
  have hb := bt_lt s 0
  have hml : bt s 0 % maskN s.size ≤ bt s 0 := Nat.mod_le _ _
  refine ⟨0, rfl, by omega, inr_i64 (by omega) (by omega), s.size - 1, by omega, by omega, m, hc, ?_, ⟨0, rfl, ?_, by omega, Ext.refl _⟩, ?_⟩
  · rw [hmod]; exact inr_i32 (by omega) (by omega)
  · rw [hmod]; rfl
  rintro _ n w3 ⟨hn1, hw3⟩
  refine bcase_mk (fun h => ?_) (fun h => ?_)
  · have hn2 : n + 1 < s.size := by simp only [decide_eq_true_eq] at h; omega
    have hp := numP_le s s.size n
    have hp64 : (64 : Nat) ^ n ≤ 64 ^ 2 := Nat.pow_le_pow_right (by omega) (by omega)
    have hm63 := and_mask s (n + 1) (m := 63) (k := 64) (.inr (.inr (.inr (.inr ⟨rfl, rfl⟩))))
    have h64 : bt s (n + 1) % 64 < 64 := Nat.mod_lt _ (by omega)
    refine ⟨inr_i32 (by omega) (by omega), n + 1, by omega, hn2, ?_, ?_, inr_i64 (by omega) (by omega), n + 1, by simp, ?_, ⟨by omega, hw3⟩, by omega⟩
    · rw [hm63]; exact inr_i32 (by omega) (by omega)
    · rw [hm63]; exact inr_i32 (by omega) (by omega)
    · rw [hm63]; simp only [numP]; simp
  · have hn2 : n = s.size - 1 := by simp only [decide_eq_false_iff_not] at h; omega
    refine ⟨numP s s.size n, rfl, by unfold numR; rw [hn2], ?_⟩
    exact Ext.trans hn.ext (Ext.trans hd.ext hw3)

theorem numP_ext {s : ByteArray} {k a n : Nat} (hk : k ≤ s.size) (hn : n < k) : numP (s.extract 0 k) a n = numP s a n := by
  induction n with
  | zero => simp only [numP]; rw [bt_ext (by omega)]
  | succ n ih => simp only [numP]; rw [ih (by omega), bt_ext (by omega), Nat.zero_add]

theorem rnext_ok : (sDec nxR nxN).Ok Tryd.prog 86 := by
  refine rnext_vc ⟨begins_ok, number_ok, trivial⟩ ?_
  rintro s w ⟨hU, hsm⟩
  refine ⟨s, rfl, hsm, ?_⟩
  rintro ⟨n, k⟩ w1 ⟨hn, hk, rfl⟩
  dsimp only at hn hk ⊢
  have hx := nextR_nx s
  rw [str_nil]
  refine bcase_mk (fun h => ?_) (fun h => ?_)
  · have h0 : s.size = 0 := by simpa using h
    exact ⟨(65533, 0), rfl, by unfold nxR; rw [if_pos h0], by unfold nxN; rw [if_pos h0], Ext.refl _⟩
  have h0 : ¬ s.size = 0 := by simpa using h
  unfold nextR at hx
  rw [if_neg h0] at hx
  refine bcase_mk (fun h => ?_) (fun h => ?_)
  · have hb : begN s = 0 ∨ begN s < begS s := by simp only [Bool.or_eq_true, beq_iff_eq, decide_eq_true_eq] at h; omega
    rw [if_pos hb] at hx
    exact ⟨(65533, 1), rfl, hx.1, hx.2, Ext.refl _⟩
  · have hb : ¬ (begN s = 0 ∨ begN s < begS s) := by simp only [Bool.or_eq_false_iff, beq_eq_false_iff_ne, ne_eq, decide_eq_false_iff_not] at h; omega
    rw [if_neg hb] at hx
    have hle := begN_le s
    have hsz : (s.extract 0 k).size = k := by rw [size_ext (by omega)]; rfl
    refine ⟨k, rfl, Nat.zero_le _, by omega, _, rfl, by rw [hsz]; omega, ?_⟩
    rintro x w2 ⟨hx2, hw2⟩
    refine ⟨(x, k), rfl, ?_, by rw [hk]; exact hx.2, hw2⟩
    dsimp only
    rw [hx2, hsz, ← hx.1, hk]
    unfold numR
    rw [numP_ext (by omega) (by omega)]

theorem dec_ok : (sDec nxR nxN).Ok Tryd.prog 99 := by
  rintro (s : ByteArray) w ⟨hU, hsm⟩
  refine (Tryd.utf8_DecodeRuneInString s w hU).mono fun e w' ⟨he, hx⟩ => ⟨(nxR s, nxN s), ?_, ⟨rfl, rfl, hx⟩, KO.below hx (Nat.le_refl _)⟩
  have := decodeGo_eq s
  rw [he, this.1, this.2]; rfl
theorem next_ok : (sDec nxR nxN).Ok Tryd.prog 63 := by
  refine next_vc ⟨dec_ok, trivial⟩ ?_
  rintro s w hp
  refine ⟨s, rfl, hp, ?_⟩
  rintro x w1 ⟨h1, h2, h3⟩
  exact ⟨x, rfl, h1, h2, h3⟩
/-! ### FullRuneInString -/

theorem wholeB_cases (s : ByteArray) (h0 : s.size ≠ 0) : wholeB s = if begS s ≤ s.size then true else if 1 < s.size ∧ ¬ okB s 1 then true else if 2 < s.size ∧ ¬ okB s 2 then true else false := by
  have hle := begN_le s
  unfold wholeB
  by_cases h1 : begS s ≤ s.size
  · rw [if_pos h1]; simp only [decide_eq_true_eq]; omega
  · rw [if_neg h1]
    have hS : begS s = (secN (bt s 0)).2.2 ∧ ¬ bt s 0 < 128 := by
      unfold begS at h1 ⊢
      rw [if_neg h0] at h1 ⊢
      by_cases h : bt s 0 < 128
      · rw [if_pos h] at h1; omega
      · exact ⟨if_neg h, h⟩
    have hN : begN s = runB s (begS s - 1) 1 := by
      unfold begN; rw [if_neg h0, if_neg hS.2, ← hS.1, if_neg (by omega)]
    have : s.size = 1 ∨ s.size = 2 ∨ s.size = 3 := by omega
    rcases this with h | h | h
    · have : ¬ okB s 1 := fun hh => by have := hh.1; omega
      rw [runB_stop this] at hN
      rw [if_neg (by omega), if_neg (by omega)]; simp only [decide_eq_false_iff_not]; omega
    · have n2 : ¬ okB s 2 := fun hh => by have := hh.1; omega
      by_cases k1 : okB s 1
      · rw [runB_go k1 (by omega), runB_stop n2] at hN
        rw [if_neg (fun hh => hh.2 k1), if_neg (by omega)]; simp only [decide_eq_false_iff_not]; omega
      · rw [runB_stop k1] at hN
        rw [if_pos ⟨by omega, k1⟩]; simp only [decide_eq_true_eq]; omega
    · have n3 : ¬ okB s 3 := fun hh => by have := hh.1; omega
      by_cases k1 : okB s 1
      · rw [runB_go k1 (by omega)] at hN
        rw [if_neg (fun hh => hh.2 k1)]
        by_cases k2 : okB s 2
        · rw [runB_go k2 (by omega), runB_stop n3] at hN
          rw [if_neg (fun hh => hh.2 k2)]; simp only [decide_eq_false_iff_not]; omega
        · rw [runB_stop k2] at hN
          rw [if_pos ⟨by omega, k2⟩]; simp only [decide_eq_true_eq]; omega
      · rw [runB_stop k1] at hN
        rw [if_pos ⟨by omega, k1⟩]; simp only [decide_eq_true_eq]; omega

set_option maxRecDepth 100000 in
theorem first_sec : ∀ c : Fin 256, IntKind.u8.wrap ((BitVec.ofInt IntKind.u8.bits ((Lib.firstT c.val : Nat) : Int) &&& BitVec.ofInt IntKind.u8.bits 7).toNat : Int) = (if c.val < 128 then 0 else if (secN c.val).2.2 = 0 then 1 else ((secN c.val).2.2 : Int)) ∧
    ((Lib.firstT c.val : Nat) : Int).fdiv (2 ^ min (Int.toNat 4) IntKind.u8.bits) = ((Lib.firstT c.val / 16 : Nat) : Int) ∧ Lib.firstT c.val / 16 < 16 ∧
    ((secN c.val).2.2 ≠ 0 → Lib.accLo (Lib.firstT c.val / 16) = (secN c.val).1 ∧ Lib.accHi (Lib.firstT c.val / 16) = (secN c.val).2.1) := by decide

end Go.Proofs.YthpjkgoahneldaaDoor
end

section
/-
  Elements of slices; the rest of a text.
-/
namespace Go.Proofs.YthpjkgoahneldaaDoor
open Go Go.RowKit Vc Ut

theorem elem32 : ElemOk Tryd.prog 88 21 1 4 := elemOk_mk (.int .i32 0) (by kernel_rfl) (by kernel_rfl) rfl
theorem elem64 : ElemOk Tryd.prog 45 3 1 8 := elemOk_mk (.int .i64 0) (by kernel_rfl) (by kernel_rfl) rfl
theorem elem8 : ElemOk Tryd.prog 64 5 1 1 := elemOk_mk (.int .u8 0) (by kernel_rfl) (by kernel_rfl) rfl
theorem elemI8 : ElemOk Tryd.prog 22 25 1 1 := elemOk_mk (.int .i8 0) (by kernel_rfl) (by kernel_rfl) rfl
theorem ext_size {s : ByteArray} {n : Nat} (h : s.size ≤ 67108864) : (s.extract (pos s n) s.size).size ≤ 67108864 := by
  rw [size_ext (Nat.le_refl _)]; omega
theorem nx_drop {s : ByteArray} {n : Nat} (h : pos s n < s.size) : nxR (s.extract (pos s n) s.size) = dcR s (pos s n) ∧ nxN (s.extract (pos s n) s.size) = dcN s (pos s n) := by
  have hz : ¬ (s.extract (pos s n) s.size).size = 0 := by rw [size_ext (Nat.le_refl _)]; omega
  unfold nxR nxN dcR dcN
  rw [if_neg hz, if_neg hz, decode_drop s (by omega)]
  exact ⟨rfl, rfl⟩

end Go.Proofs.YthpjkgoahneldaaDoor
end
