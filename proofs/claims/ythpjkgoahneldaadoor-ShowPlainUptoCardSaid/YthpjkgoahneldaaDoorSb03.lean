/-
  Texts joined by program: VgSf, VgB, WkB, WkSf, Uq, Us.
-/
import Derived.Test.YthpjkgoahneldaaDoorSb01
import Derived.Test.YthpjkgoahneldaaDoorProg
import Derived.KernelRfl
import Derived.Test.YthpjkgoahneldaaDoorJb05
import Derived.Test.YthpjkgoahneldaaDoorJb10
import Derived.Test.YthpjkgoahneldaaDoorJb11
set_option linter.unusedVariables false
set_option linter.unusedSimpArgs false

section
/-
  Verification conditions, printed by a program out of the specifications beside this text: each theorem says that the condition suffices. (Lean's kernel compares the printed condition with what 'wpE' computes.)
-/
set_option linter.unusedVariables false
namespace Go.Proofs.YthpjkgoahneldaaDoor
open Go Go.RowKit Vc Ut Tb Cl

set_option maxRecDepth 1000000 in
theorem tz64_vc (hsp : SpecsOk Tryd.prog []) (h : ∀ (g : Unit) (w : World), DB w → InR IntKind.u64 (IntKind.u64.wrap (↑(BitVec.ofInt IntKind.u64.bits (16 : Int) &&& BitVec.ofInt IntKind.u64.bits (IntKind.u64.wrap ((0 : Int) - (16 : Int)))).toNat : Int) * (285870213051353865 : Int)) ∧ ∃ (k : Nat), (15 : Int) = (↑k : Int) ∧ k < (64 : Nat) ∧ ∃ (n : Int), w.cell? { block := (5 : Nat), off := (0 : Nat) + k } = some (Value.int IntKind.u8 n) ∧ InR IntKind.i64 n ∧ ∃ (x : Unit), Value.int IntKind.i64 n = Value.int IntKind.i64 (4 : Int) ∧ w = w) :
    ((sTz .u64)).Ok Tryd.prog 162 :=
  ok_of_vc (sTz .u64) (annOf []) [] (fun _ _ => rfl) (fun _ _ => rfl) hsp Tryd.func162 rfl (n := 1) (fun _ => rfl) (by kernel_rfl) (vcast (by kernel_rfl) h)

set_option maxRecDepth 1000000 in
theorem tz_vc (hsp : SpecsOk Tryd.prog spTz) (h : ∀ (g : Unit) (w : World), DB w → ∃ (g1 : Unit), #[Value.int IntKind.u64 (16 : Int)] = #[Value.int IntKind.u64 (16 : Int)] ∧ DB w ∧ ∀ (x : Unit) (w' : World), w' = w → ∃ (x1 : Unit), Value.int IntKind.i64 (4 : Int) = Value.int IntKind.i64 (4 : Int) ∧ w' = w) :
    ((sTz .u64)).Ok Tryd.prog 160 :=
  ok_of_vc (sTz .u64) (annOf spTz) spTz (fun _ _ => rfl) (fun _ _ => rfl) hsp Tryd.func160 rfl (n := 1) (fun _ => rfl) (by kernel_rfl) (vcast (by kernel_rfl) h)

set_option maxRecDepth 1000000 in
theorem pow_vc (hsp : SpecsOk Tryd.prog []) (h : ∀ (g : Unit) (w : World), True → InR IntKind.i64 ((16 : Int) - (1 : Int)) ∧ ∃ (x : Unit), Value.bool true = Value.bool true ∧ w = w) :
    (sPow).Ok Tryd.prog 159 :=
  ok_of_vc sPow (annOf []) [] (fun _ _ => rfl) (fun _ _ => rfl) hsp Tryd.func159 rfl (n := 1) (fun _ => rfl) (by kernel_rfl) (vcast (by kernel_rfl) h)

set_option maxRecDepth 1000000 in
theorem bit2_vc (hsp : SpecsOk Tryd.prog spBit) (h : ∀ (g : Nat) (w : World), DB w ∧ (16 : Nat) ^ ((2 : Nat) - (1 : Nat)) ≤ g ∧ g < (16 : Nat) ^ (2 : Nat) → ∀ (b : Nat) (w1 : World), New w (Obj.cells #[Value.int IntKind.u8 (0 : Int), Value.int IntKind.u8 (0 : Int), Value.int IntKind.u8 (0 : Int), Value.int IntKind.u8 (0 : Int), Value.int IntKind.u8 (0 : Int), Value.int IntKind.u8 (0 : Int), Value.int IntKind.u8 (0 : Int), Value.int IntKind.u8 (0 : Int), Value.int IntKind.u8 (0 : Int), Value.int IntKind.u8 (0 : Int), Value.int IntKind.u8 (0 : Int), Value.int IntKind.u8 (0 : Int), Value.int IntKind.u8 (0 : Int), Value.int IntKind.u8 (0 : Int), Value.int IntKind.u8 (0 : Int), Value.int IntKind.u8 (0 : Int), Value.int IntKind.u8 (0 : Int), Value.int IntKind.u8 (0 : Int), Value.int IntKind.u8 (0 : Int), Value.int IntKind.u8 (0 : Int), Value.int IntKind.u8 (0 : Int), Value.int IntKind.u8 (0 : Int), Value.int IntKind.u8 (0 : Int), Value.int IntKind.u8 (0 : Int), Value.int IntKind.u8 (0 : Int), Value.int IntKind.u8 (0 : Int), Value.int IntKind.u8 (0 : Int), Value.int IntKind.u8 (0 : Int), Value.int IntKind.u8 (0 : Int), Value.int IntKind.u8 (0 : Int), Value.int IntKind.u8 (0 : Int), Value.int IntKind.u8 (0 : Int), Value.int IntKind.u8 (0 : Int), Value.int IntKind.u8 (0 : Int), Value.int IntKind.u8 (0 : Int), Value.int IntKind.u8 (0 : Int), Value.int IntKind.u8 (0 : Int), Value.int IntKind.u8 (0 : Int), Value.int IntKind.u8 (0 : Int), Value.int IntKind.u8 (0 : Int), Value.int IntKind.u8 (0 : Int), Value.int IntKind.u8 (0 : Int), Value.int IntKind.u8 (0 : Int), Value.int IntKind.u8 (0 : Int), Value.int IntKind.u8 (0 : Int), Value.int IntKind.u8 (0 : Int), Value.int IntKind.u8 (0 : Int), Value.int IntKind.u8 (0 : Int), Value.int IntKind.u8 (0 : Int), Value.int IntKind.u8 (0 : Int), Value.int IntKind.u8 (0 : Int), Value.int IntKind.u8 (0 : Int), Value.int IntKind.u8 (0 : Int), Value.int IntKind.u8 (0 : Int), Value.int IntKind.u8 (0 : Int), Value.int IntKind.u8 (0 : Int), Value.int IntKind.u8 (0 : Int), Value.int IntKind.u8 (0 : Int), Value.int IntKind.u8 (0 : Int), Value.int IntKind.u8 (0 : Int), Value.int IntKind.u8 (0 : Int), Value.int IntKind.u8 (0 : Int), Value.int IntKind.u8 (0 : Int), Value.int IntKind.u8 (0 : Int), Value.int IntKind.u8 (0 : Int)] (157 : Nat)) b w1 → ∃ (g1 : Unit), #[Value.int IntKind.i64 (16 : Int)] = #[Value.int IntKind.i64 (16 : Int)] ∧ True ∧ ∀ (x : Unit) (w' : World), w' = w1 → InR IntKind.u64 (16 : Int) ∧ ∃ (g2 : Unit), #[Value.int IntKind.u64 (16 : Int)] = #[Value.int IntKind.u64 (16 : Int)] ∧ DB w' ∧ ∀ (x1 : Unit) (w'1 : World), w'1 = w' → InR IntKind.u64 (4 : Int) ∧ InR IntKind.u64 (16 : Int) ∧ InR IntKind.u64 (16 : Int) ∧ InR IntKind.u64 ((16 : Int) - (1 : Int)) ∧ ((∃ (x2 : Nat), Value.int IntKind.i64 (65 : Int) = Value.int IntKind.i64 ((65 : Int) - (↑x2 : Int)) ∧ Value.int IntKind.u64 (↑g : Int) = Value.int IntKind.u64 (↑(g / (16 : Nat) ^ x2) : Int) ∧ x2 + (1 : Nat) ≤ (2 : Nat) ∧ (∃ (b1 : Nat),
 Value.pointer (some { block := b, off := (0 : Nat) }) = Value.pointer (some { block := b1, off := (0 : Nat) }) ∧ w.heap.size ≤ b1 ∧ w'1.heap[b1]? = some (Obj.cells (arrC g x2).toArray (157 : TypeId))) ∧ Ext w w'1) ∧ ∀ (u : Nat → Value) (x2 : Nat) (w'2 : World), x2 + (1 : Nat) ≤ (2 : Nat) ∧ (∃ (b1 : Nat), Value.pointer (some { block := b, off := (0 : Nat) }) = Value.pointer (some { block := b1, off := (0 : Nat) }) ∧ w.heap.size ≤ b1 ∧ w'2.heap[b1]? = some (Obj.cells (arrC g x2).toArray (157 : TypeId))) ∧ Ext w w'2 → bcase (decide ((↑(g / (16 : Nat) ^ x2) : Int) ≥ (16 : Int))) (InR IntKind.i64 ((65 : Int) - (↑x2 : Int) - (1 : Int)) ∧ ∃ (k : Nat), IntKind.u64.wrap (↑(BitVec.ofInt IntKind.u64.bits (↑(g / (16 : Nat) ^ x2) : Int) &&& BitVec.ofInt IntKind.u64.bits ((16 : Int) - (1 : Int))).toNat : Int) = (↑k : Int) ∧ k < (ByteArray.mk #[(48 : UInt8), (49 : UInt8), (50 : UInt8), (51 : UInt8), (52 : UInt8), (53 : UInt8), (54 : UInt8), (55 : UInt8), (56 : UInt8), (57 : UInt8), (97 : UInt8), (98 : UInt8), (99 : UInt8), (100 : UInt8), (101 : UInt8), (102 : UInt8), (103 : UInt8), (104 : UInt8), (105 : UInt8), (106 : UInt8), (107 : UInt8), (108 : UInt8), (109 : UInt8), (110 : UInt8), (111 : UInt8), (112 : UInt8), (113 : UInt8), (114 : UInt8), (115 : UInt8), (116 : UInt8), (117 : UInt8), (118 : UInt8), (119 : UInt8), (120 : UInt8), (121 : UInt8), (122 : UInt8)]).size ∧ ∃ (k1 : Nat), (65 : Int) - (↑x2 : Int) - (1 : Int) = (↑k1 : Int) ∧ k1 < (65 : Nat) ∧ true = true ∧ (∃ (old : Value), w'2.cell? { block := b, off := (0 : Nat) + k1 } = some old) ∧ w'2.frozen? { block := b, off := (0 : Nat) + k1 } = false ∧ ∀ (w11 : World), Stored w'2 { block := b, off := (0 : Nat) + k1 } (Value.int IntKind.u8 (↑([(48 : UInt8), (49 : UInt8), (50 : UInt8), (51 : UInt8), (52 : UInt8), (53 : UInt8), (54 : UInt8), (55 : UInt8), (56 : UInt8), (57 : UInt8), (97 : UInt8), (98 : UInt8), (99 : UInt8), (100 : UInt8), (101 : UInt8), (102 : UInt8), (103 : UInt8), (104 : UInt8), (105 : UInt8), (106 : UInt8), (107 : UInt8), (108 : UInt8), (109 : UInt8), (110 : UInt8), (111 : UInt8), (112 : UInt8), (113 : UInt8), (114 : UInt8), (115 : UInt8), (116 : UInt8), (117 : UInt8), (118 : UInt8), (119 : UInt8), (120 : UInt8), (121 : UInt8), (122 : UInt8)].getD k (0 : UInt8)).toNat : Int)) w11 → ∃ (y : Nat), Value.int IntKind.i64 ((65 : Int) - (↑x2 : Int) - (1 : Int)) = Value.int IntKind.i64 ((65 : Int) - (↑y : Int)) ∧ Value.int IntKind.u64 ((↑(g / (16 : Nat) ^ x2) : Int).fdiv ((2 : Int) ^ min (Int.toNat (4 : Int)) IntKind.u64.bits)) = Value.int IntKind.u64 (↑(g / (16 : Nat) ^ y) : Int) ∧ (y + (1 : Nat) ≤ (2 : Nat) ∧ (∃ (b1 : Nat), Value.pointer (some { block := b, off := (0 : Nat) }) = Value.pointer (some { block := b1, off := (0 : Nat) }) ∧ w.heap.size ≤ b1 ∧ w11.heap[b1]? = some (Obj.cells (arrC g y).toArray (157 : TypeId))) ∧ Ext w w11) ∧ (2 : Nat) - y < (2 : Nat) - x2) (∃ (c : Unit), Value.int IntKind.i64 ((65 : Int) - (↑x2 : Int)) = Value.int IntKind.i64 (64 : Int) ∧
 Value.int IntKind.u64 (↑(g / (16 : Nat) ^ x2) : Int) = Value.int IntKind.u64 (↑(g / (16 : Nat) ^ ((2 : Nat) - (1 : Nat))) : Int) ∧ (∃ (b1 : Nat), ∃ (j : Nat), Value.pointer (some { block := b, off := (0 : Nat) }) = Value.pointer (some { block := b1, off := (0 : Nat) }) ∧ w.heap.size ≤ b1 ∧ j + (1 : Nat) = (2 : Nat) ∧ w'2.heap[b1]? = some (Obj.cells (arrC g j).toArray (157 : TypeId))) ∧ Ext w w'2)) ∧ ∀ (u : Nat → Value) (c : Unit) (w'2 : World), (∃ (b1 : Nat), ∃ (j : Nat), Value.pointer (some { block := b, off := (0 : Nat) }) = Value.pointer (some { block := b1, off := (0 : Nat) }) ∧ w.heap.size ≤ b1 ∧ j + (1 : Nat) = (2 : Nat) ∧ w'2.heap[b1]? = some (Obj.cells (arrC g j).toArray (157 : TypeId))) ∧ Ext w w'2 → InR IntKind.i64 ((64 : Int) - (1 : Int)) ∧ ∃ (k : Nat), (↑(g / (16 : Nat) ^ ((2 : Nat) - (1 : Nat))) : Int) = (↑k : Int) ∧ k < (ByteArray.mk #[(48 : UInt8), (49 : UInt8), (50 : UInt8), (51 : UInt8), (52 : UInt8), (53 : UInt8), (54 : UInt8), (55 : UInt8), (56 : UInt8), (57 : UInt8), (97 : UInt8), (98 : UInt8), (99 : UInt8), (100 : UInt8), (101 : UInt8), (102 : UInt8), (103 : UInt8), (104 : UInt8), (105 : UInt8), (106 : UInt8), (107 : UInt8), (108 : UInt8), (109 : UInt8), (110 : UInt8), (111 : UInt8), (112 : UInt8), (113 : UInt8), (114 : UInt8), (115 : UInt8), (116 : UInt8), (117 : UInt8), (118 : UInt8), (119 : UInt8), (120 : UInt8), (121 : UInt8), (122 : UInt8)]).size ∧ ∃ (k1 : Nat), (63 : Int) = (↑k1 : Int) ∧ k1 < (65 : Nat) ∧ true = true ∧ (∃ (old : Value), w'2.cell? { block := b, off := (0 : Nat) + k1 } = some old) ∧ w'2.frozen? { block := b, off := (0 : Nat) + k1 } = false ∧ ∀ (w11 : World), Stored w'2 { block := b, off := (0 : Nat) + k1 } (Value.int IntKind.u8 (↑([(48 : UInt8), (49 : UInt8), (50 : UInt8), (51 : UInt8), (52 : UInt8), (53 : UInt8), (54 : UInt8), (55 : UInt8), (56 : UInt8), (57 : UInt8), (97 : UInt8), (98 : UInt8), (99 : UInt8), (100 : UInt8), (101 : UInt8), (102 : UInt8), (103 : UInt8), (104 : UInt8), (105 : UInt8), (106 : UInt8), (107 : UInt8), (108 : UInt8), (109 : UInt8), (110 : UInt8), (111 : UInt8), (112 : UInt8), (113 : UInt8), (114 : UInt8), (115 : UInt8), (116 : UInt8), (117 : UInt8), (118 : UInt8), (119 : UInt8), (120 : UInt8), (121 : UInt8), (122 : UInt8)].getD k (0 : UInt8)).toNat : Int)) w11 → ∃ (str : ByteArray), BytesIn w11 (some { block := b, off := (63 : Nat) }) ((65 : Nat) - ((64 : Int) - (1 : Int)).toNat) str ∧ ∃ (x2 : Unit × ByteArray), Value.tuple #[Value.slice none (0 : Nat) (0 : Nat), Value.string str] = Value.tuple #[Value.slice none (0 : Nat) (0 : Nat), Value.string x2.snd] ∧ x2.snd = strL (numS g (2 : Nat)) ∧ Ext w w11) :
    ((sBitD 2)).Ok Tryd.prog 155 :=
  ok_of_vc (sBitD 2) (annBitD 2 64) spBit (fun _ _ => rfl) (fun _ _ => rfl) hsp Tryd.func155 rfl (n := 5) (fun _ => rfl) (by kernel_rfl) (vcast (by kernel_rfl) h)

set_option maxRecDepth 1000000 in
theorem bit3_vc (hsp : SpecsOk Tryd.prog spBit) (h : ∀ (g : Nat) (w : World), DB w ∧ (16 : Nat) ^ ((3 : Nat) - (1 : Nat)) ≤ g ∧ g < (16 : Nat) ^ (3 : Nat) → ∀ (b : Nat) (w1 : World), New w (Obj.cells #[Value.int IntKind.u8 (0 : Int), Value.int IntKind.u8 (0 : Int), Value.int IntKind.u8 (0 : Int), Value.int IntKind.u8 (0 : Int), Value.int IntKind.u8 (0 : Int), Value.int IntKind.u8 (0 : Int), Value.int IntKind.u8 (0 : Int), Value.int IntKind.u8 (0 : Int), Value.int IntKind.u8 (0 : Int), Value.int IntKind.u8 (0 : Int), Value.int IntKind.u8 (0 : Int), Value.int IntKind.u8 (0 : Int), Value.int IntKind.u8 (0 : Int), Value.int IntKind.u8 (0 : Int), Value.int IntKind.u8 (0 : Int), Value.int IntKind.u8 (0 : Int), Value.int IntKind.u8 (0 : Int), Value.int IntKind.u8 (0 : Int), Value.int IntKind.u8 (0 : Int), Value.int IntKind.u8 (0 : Int), Value.int IntKind.u8 (0 : Int), Value.int IntKind.u8 (0 : Int), Value.int IntKind.u8 (0 : Int), Value.int IntKind.u8 (0 : Int), Value.int IntKind.u8 (0 : Int), Value.int IntKind.u8 (0 : Int), Value.int IntKind.u8 (0 : Int), Value.int IntKind.u8 (0 : Int), Value.int IntKind.u8 (0 : Int), Value.int IntKind.u8 (0 : Int), Value.int IntKind.u8 (0 : Int), Value.int IntKind.u8 (0 : Int), Value.int IntKind.u8 (0 : Int), Value.int IntKind.u8 (0 : Int), Value.int IntKind.u8 (0 : Int), Value.int IntKind.u8 (0 : Int), Value.int IntKind.u8 (0 : Int), Value.int IntKind.u8 (0 : Int), Value.int IntKind.u8 (0 : Int), Value.int IntKind.u8 (0 : Int), Value.int IntKind.u8 (0 : Int), Value.int IntKind.u8 (0 : Int), Value.int IntKind.u8 (0 : Int), Value.int IntKind.u8 (0 : Int), Value.int IntKind.u8 (0 : Int), Value.int IntKind.u8 (0 : Int), Value.int IntKind.u8 (0 : Int), Value.int IntKind.u8 (0 : Int), Value.int IntKind.u8 (0 : Int), Value.int IntKind.u8 (0 : Int), Value.int IntKind.u8 (0 : Int), Value.int IntKind.u8 (0 : Int), Value.int IntKind.u8 (0 : Int), Value.int IntKind.u8 (0 : Int), Value.int IntKind.u8 (0 : Int), Value.int IntKind.u8 (0 : Int), Value.int IntKind.u8 (0 : Int), Value.int IntKind.u8 (0 : Int), Value.int IntKind.u8 (0 : Int), Value.int IntKind.u8 (0 : Int), Value.int IntKind.u8 (0 : Int), Value.int IntKind.u8 (0 : Int), Value.int IntKind.u8 (0 : Int), Value.int IntKind.u8 (0 : Int), Value.int IntKind.u8 (0 : Int)] (157 : Nat)) b w1 → ∃ (g1 : Unit), #[Value.int IntKind.i64 (16 : Int)] = #[Value.int IntKind.i64 (16 : Int)] ∧ True ∧ ∀ (x : Unit) (w' : World), w' = w1 → InR IntKind.u64 (16 : Int) ∧ ∃ (g2 : Unit), #[Value.int IntKind.u64 (16 : Int)] = #[Value.int IntKind.u64 (16 : Int)] ∧ DB w' ∧ ∀ (x1 : Unit) (w'1 : World), w'1 = w' → InR IntKind.u64 (4 : Int) ∧ InR IntKind.u64 (16 : Int) ∧ InR IntKind.u64 (16 : Int) ∧ InR IntKind.u64 ((16 : Int) - (1 : Int)) ∧ ((∃ (x2 : Nat), Value.int IntKind.i64 (65 : Int) = Value.int IntKind.i64 ((65 : Int) - (↑x2 : Int)) ∧ Value.int IntKind.u64 (↑g : Int) = Value.int IntKind.u64 (↑(g / (16 : Nat) ^ x2) : Int) ∧ x2 + (1 : Nat) ≤ (3 : Nat) ∧ (∃ (b1 : Nat),
 Value.pointer (some { block := b, off := (0 : Nat) }) = Value.pointer (some { block := b1, off := (0 : Nat) }) ∧ w.heap.size ≤ b1 ∧ w'1.heap[b1]? = some (Obj.cells (arrC g x2).toArray (157 : TypeId))) ∧ Ext w w'1) ∧ ∀ (u : Nat → Value) (x2 : Nat) (w'2 : World), x2 + (1 : Nat) ≤ (3 : Nat) ∧ (∃ (b1 : Nat), Value.pointer (some { block := b, off := (0 : Nat) }) = Value.pointer (some { block := b1, off := (0 : Nat) }) ∧ w.heap.size ≤ b1 ∧ w'2.heap[b1]? = some (Obj.cells (arrC g x2).toArray (157 : TypeId))) ∧ Ext w w'2 → bcase (decide ((↑(g / (16 : Nat) ^ x2) : Int) ≥ (16 : Int))) (InR IntKind.i64 ((65 : Int) - (↑x2 : Int) - (1 : Int)) ∧ ∃ (k : Nat), IntKind.u64.wrap (↑(BitVec.ofInt IntKind.u64.bits (↑(g / (16 : Nat) ^ x2) : Int) &&& BitVec.ofInt IntKind.u64.bits ((16 : Int) - (1 : Int))).toNat : Int) = (↑k : Int) ∧ k < (ByteArray.mk #[(48 : UInt8), (49 : UInt8), (50 : UInt8), (51 : UInt8), (52 : UInt8), (53 : UInt8), (54 : UInt8), (55 : UInt8), (56 : UInt8), (57 : UInt8), (97 : UInt8), (98 : UInt8), (99 : UInt8), (100 : UInt8), (101 : UInt8), (102 : UInt8), (103 : UInt8), (104 : UInt8), (105 : UInt8), (106 : UInt8), (107 : UInt8), (108 : UInt8), (109 : UInt8), (110 : UInt8), (111 : UInt8), (112 : UInt8), (113 : UInt8), (114 : UInt8), (115 : UInt8), (116 : UInt8), (117 : UInt8), (118 : UInt8), (119 : UInt8), (120 : UInt8), (121 : UInt8), (122 : UInt8)]).size ∧ ∃ (k1 : Nat), (65 : Int) - (↑x2 : Int) - (1 : Int) = (↑k1 : Int) ∧ k1 < (65 : Nat) ∧ true = true ∧ (∃ (old : Value), w'2.cell? { block := b, off := (0 : Nat) + k1 } = some old) ∧ w'2.frozen? { block := b, off := (0 : Nat) + k1 } = false ∧ ∀ (w11 : World), Stored w'2 { block := b, off := (0 : Nat) + k1 } (Value.int IntKind.u8 (↑([(48 : UInt8), (49 : UInt8), (50 : UInt8), (51 : UInt8), (52 : UInt8), (53 : UInt8), (54 : UInt8), (55 : UInt8), (56 : UInt8), (57 : UInt8), (97 : UInt8), (98 : UInt8), (99 : UInt8), (100 : UInt8), (101 : UInt8), (102 : UInt8), (103 : UInt8), (104 : UInt8), (105 : UInt8), (106 : UInt8), (107 : UInt8), (108 : UInt8), (109 : UInt8), (110 : UInt8), (111 : UInt8), (112 : UInt8), (113 : UInt8), (114 : UInt8), (115 : UInt8), (116 : UInt8), (117 : UInt8), (118 : UInt8), (119 : UInt8), (120 : UInt8), (121 : UInt8), (122 : UInt8)].getD k (0 : UInt8)).toNat : Int)) w11 → ∃ (y : Nat), Value.int IntKind.i64 ((65 : Int) - (↑x2 : Int) - (1 : Int)) = Value.int IntKind.i64 ((65 : Int) - (↑y : Int)) ∧ Value.int IntKind.u64 ((↑(g / (16 : Nat) ^ x2) : Int).fdiv ((2 : Int) ^ min (Int.toNat (4 : Int)) IntKind.u64.bits)) = Value.int IntKind.u64 (↑(g / (16 : Nat) ^ y) : Int) ∧ (y + (1 : Nat) ≤ (3 : Nat) ∧ (∃ (b1 : Nat), Value.pointer (some { block := b, off := (0 : Nat) }) = Value.pointer (some { block := b1, off := (0 : Nat) }) ∧ w.heap.size ≤ b1 ∧ w11.heap[b1]? = some (Obj.cells (arrC g y).toArray (157 : TypeId))) ∧ Ext w w11) ∧ (3 : Nat) - y < (3 : Nat) - x2) (∃ (c : Unit), Value.int IntKind.i64 ((65 : Int) - (↑x2 : Int)) = Value.int IntKind.i64 (63 : Int) ∧
 Value.int IntKind.u64 (↑(g / (16 : Nat) ^ x2) : Int) = Value.int IntKind.u64 (↑(g / (16 : Nat) ^ ((3 : Nat) - (1 : Nat))) : Int) ∧ (∃ (b1 : Nat), ∃ (j : Nat), Value.pointer (some { block := b, off := (0 : Nat) }) = Value.pointer (some { block := b1, off := (0 : Nat) }) ∧ w.heap.size ≤ b1 ∧ j + (1 : Nat) = (3 : Nat) ∧ w'2.heap[b1]? = some (Obj.cells (arrC g j).toArray (157 : TypeId))) ∧ Ext w w'2)) ∧ ∀ (u : Nat → Value) (c : Unit) (w'2 : World), (∃ (b1 : Nat), ∃ (j : Nat), Value.pointer (some { block := b, off := (0 : Nat) }) = Value.pointer (some { block := b1, off := (0 : Nat) }) ∧ w.heap.size ≤ b1 ∧ j + (1 : Nat) = (3 : Nat) ∧ w'2.heap[b1]? = some (Obj.cells (arrC g j).toArray (157 : TypeId))) ∧ Ext w w'2 → InR IntKind.i64 ((63 : Int) - (1 : Int)) ∧ ∃ (k : Nat), (↑(g / (16 : Nat) ^ ((3 : Nat) - (1 : Nat))) : Int) = (↑k : Int) ∧ k < (ByteArray.mk #[(48 : UInt8), (49 : UInt8), (50 : UInt8), (51 : UInt8), (52 : UInt8), (53 : UInt8), (54 : UInt8), (55 : UInt8), (56 : UInt8), (57 : UInt8), (97 : UInt8), (98 : UInt8), (99 : UInt8), (100 : UInt8), (101 : UInt8), (102 : UInt8), (103 : UInt8), (104 : UInt8), (105 : UInt8), (106 : UInt8), (107 : UInt8), (108 : UInt8), (109 : UInt8), (110 : UInt8), (111 : UInt8), (112 : UInt8), (113 : UInt8), (114 : UInt8), (115 : UInt8), (116 : UInt8), (117 : UInt8), (118 : UInt8), (119 : UInt8), (120 : UInt8), (121 : UInt8), (122 : UInt8)]).size ∧ ∃ (k1 : Nat), (62 : Int) = (↑k1 : Int) ∧ k1 < (65 : Nat) ∧ true = true ∧ (∃ (old : Value), w'2.cell? { block := b, off := (0 : Nat) + k1 } = some old) ∧ w'2.frozen? { block := b, off := (0 : Nat) + k1 } = false ∧ ∀ (w11 : World), Stored w'2 { block := b, off := (0 : Nat) + k1 } (Value.int IntKind.u8 (↑([(48 : UInt8), (49 : UInt8), (50 : UInt8), (51 : UInt8), (52 : UInt8), (53 : UInt8), (54 : UInt8), (55 : UInt8), (56 : UInt8), (57 : UInt8), (97 : UInt8), (98 : UInt8), (99 : UInt8), (100 : UInt8), (101 : UInt8), (102 : UInt8), (103 : UInt8), (104 : UInt8), (105 : UInt8), (106 : UInt8), (107 : UInt8), (108 : UInt8), (109 : UInt8), (110 : UInt8), (111 : UInt8), (112 : UInt8), (113 : UInt8), (114 : UInt8), (115 : UInt8), (116 : UInt8), (117 : UInt8), (118 : UInt8), (119 : UInt8), (120 : UInt8), (121 : UInt8), (122 : UInt8)].getD k (0 : UInt8)).toNat : Int)) w11 → ∃ (str : ByteArray), BytesIn w11 (some { block := b, off := (62 : Nat) }) ((65 : Nat) - ((63 : Int) - (1 : Int)).toNat) str ∧ ∃ (x2 : Unit × ByteArray), Value.tuple #[Value.slice none (0 : Nat) (0 : Nat), Value.string str] = Value.tuple #[Value.slice none (0 : Nat) (0 : Nat), Value.string x2.snd] ∧ x2.snd = strL (numS g (3 : Nat)) ∧ Ext w w11) :
    ((sBitD 3)).Ok Tryd.prog 155 :=
  ok_of_vc (sBitD 3) (annBitD 3 63) spBit (fun _ _ => rfl) (fun _ _ => rfl) hsp Tryd.func155 rfl (n := 5) (fun _ => rfl) (by kernel_rfl) (vcast (by kernel_rfl) h)

set_option maxRecDepth 1000000 in
theorem bit4_vc (hsp : SpecsOk Tryd.prog spBit) (h : ∀ (g : Nat) (w : World), DB w ∧ (16 : Nat) ^ ((4 : Nat) - (1 : Nat)) ≤ g ∧ g < (16 : Nat) ^ (4 : Nat) → ∀ (b : Nat) (w1 : World), New w (Obj.cells #[Value.int IntKind.u8 (0 : Int), Value.int IntKind.u8 (0 : Int), Value.int IntKind.u8 (0 : Int), Value.int IntKind.u8 (0 : Int), Value.int IntKind.u8 (0 : Int), Value.int IntKind.u8 (0 : Int), Value.int IntKind.u8 (0 : Int), Value.int IntKind.u8 (0 : Int), Value.int IntKind.u8 (0 : Int), Value.int IntKind.u8 (0 : Int), Value.int IntKind.u8 (0 : Int), Value.int IntKind.u8 (0 : Int), Value.int IntKind.u8 (0 : Int), Value.int IntKind.u8 (0 : Int), Value.int IntKind.u8 (0 : Int), Value.int IntKind.u8 (0 : Int), Value.int IntKind.u8 (0 : Int), Value.int IntKind.u8 (0 : Int), Value.int IntKind.u8 (0 : Int), Value.int IntKind.u8 (0 : Int), Value.int IntKind.u8 (0 : Int), Value.int IntKind.u8 (0 : Int), Value.int IntKind.u8 (0 : Int), Value.int IntKind.u8 (0 : Int), Value.int IntKind.u8 (0 : Int), Value.int IntKind.u8 (0 : Int), Value.int IntKind.u8 (0 : Int), Value.int IntKind.u8 (0 : Int), Value.int IntKind.u8 (0 : Int), Value.int IntKind.u8 (0 : Int), Value.int IntKind.u8 (0 : Int), Value.int IntKind.u8 (0 : Int), Value.int IntKind.u8 (0 : Int), Value.int IntKind.u8 (0 : Int), Value.int IntKind.u8 (0 : Int), Value.int IntKind.u8 (0 : Int), Value.int IntKind.u8 (0 : Int), Value.int IntKind.u8 (0 : Int), Value.int IntKind.u8 (0 : Int), Value.int IntKind.u8 (0 : Int), Value.int IntKind.u8 (0 : Int), Value.int IntKind.u8 (0 : Int), Value.int IntKind.u8 (0 : Int), Value.int IntKind.u8 (0 : Int), Value.int IntKind.u8 (0 : Int), Value.int IntKind.u8 (0 : Int), Value.int IntKind.u8 (0 : Int), Value.int IntKind.u8 (0 : Int), Value.int IntKind.u8 (0 : Int), Value.int IntKind.u8 (0 : Int), Value.int IntKind.u8 (0 : Int), Value.int IntKind.u8 (0 : Int), Value.int IntKind.u8 (0 : Int), Value.int IntKind.u8 (0 : Int), Value.int IntKind.u8 (0 : Int), Value.int IntKind.u8 (0 : Int), Value.int IntKind.u8 (0 : Int), Value.int IntKind.u8 (0 : Int), Value.int IntKind.u8 (0 : Int), Value.int IntKind.u8 (0 : Int), Value.int IntKind.u8 (0 : Int), Value.int IntKind.u8 (0 : Int), Value.int IntKind.u8 (0 : Int), Value.int IntKind.u8 (0 : Int), Value.int IntKind.u8 (0 : Int)] (157 : Nat)) b w1 → ∃ (g1 : Unit), #[Value.int IntKind.i64 (16 : Int)] = #[Value.int IntKind.i64 (16 : Int)] ∧ True ∧ ∀ (x : Unit) (w' : World), w' = w1 → InR IntKind.u64 (16 : Int) ∧ ∃ (g2 : Unit), #[Value.int IntKind.u64 (16 : Int)] = #[Value.int IntKind.u64 (16 : Int)] ∧ DB w' ∧ ∀ (x1 : Unit) (w'1 : World), w'1 = w' → InR IntKind.u64 (4 : Int) ∧ InR IntKind.u64 (16 : Int) ∧ InR IntKind.u64 (16 : Int) ∧ InR IntKind.u64 ((16 : Int) - (1 : Int)) ∧ ((∃ (x2 : Nat), Value.int IntKind.i64 (65 : Int) = Value.int IntKind.i64 ((65 : Int) - (↑x2 : Int)) ∧ Value.int IntKind.u64 (↑g : Int) = Value.int IntKind.u64 (↑(g / (16 : Nat) ^ x2) : Int) ∧ x2 + (1 : Nat) ≤ (4 : Nat) ∧ (∃ (b1 : Nat),
 Value.pointer (some { block := b, off := (0 : Nat) }) = Value.pointer (some { block := b1, off := (0 : Nat) }) ∧ w.heap.size ≤ b1 ∧ w'1.heap[b1]? = some (Obj.cells (arrC g x2).toArray (157 : TypeId))) ∧ Ext w w'1) ∧ ∀ (u : Nat → Value) (x2 : Nat) (w'2 : World), x2 + (1 : Nat) ≤ (4 : Nat) ∧ (∃ (b1 : Nat), Value.pointer (some { block := b, off := (0 : Nat) }) = Value.pointer (some { block := b1, off := (0 : Nat) }) ∧ w.heap.size ≤ b1 ∧ w'2.heap[b1]? = some (Obj.cells (arrC g x2).toArray (157 : TypeId))) ∧ Ext w w'2 → bcase (decide ((↑(g / (16 : Nat) ^ x2) : Int) ≥ (16 : Int))) (InR IntKind.i64 ((65 : Int) - (↑x2 : Int) - (1 : Int)) ∧ ∃ (k : Nat), IntKind.u64.wrap (↑(BitVec.ofInt IntKind.u64.bits (↑(g / (16 : Nat) ^ x2) : Int) &&& BitVec.ofInt IntKind.u64.bits ((16 : Int) - (1 : Int))).toNat : Int) = (↑k : Int) ∧ k < (ByteArray.mk #[(48 : UInt8), (49 : UInt8), (50 : UInt8), (51 : UInt8), (52 : UInt8), (53 : UInt8), (54 : UInt8), (55 : UInt8), (56 : UInt8), (57 : UInt8), (97 : UInt8), (98 : UInt8), (99 : UInt8), (100 : UInt8), (101 : UInt8), (102 : UInt8), (103 : UInt8), (104 : UInt8), (105 : UInt8), (106 : UInt8), (107 : UInt8), (108 : UInt8), (109 : UInt8), (110 : UInt8), (111 : UInt8), (112 : UInt8), (113 : UInt8), (114 : UInt8), (115 : UInt8), (116 : UInt8), (117 : UInt8), (118 : UInt8), (119 : UInt8), (120 : UInt8), (121 : UInt8), (122 : UInt8)]).size ∧ ∃ (k1 : Nat), (65 : Int) - (↑x2 : Int) - (1 : Int) = (↑k1 : Int) ∧ k1 < (65 : Nat) ∧ true = true ∧ (∃ (old : Value), w'2.cell? { block := b, off := (0 : Nat) + k1 } = some old) ∧ w'2.frozen? { block := b, off := (0 : Nat) + k1 } = false ∧ ∀ (w11 : World), Stored w'2 { block := b, off := (0 : Nat) + k1 } (Value.int IntKind.u8 (↑([(48 : UInt8), (49 : UInt8), (50 : UInt8), (51 : UInt8), (52 : UInt8), (53 : UInt8), (54 : UInt8), (55 : UInt8), (56 : UInt8), (57 : UInt8), (97 : UInt8), (98 : UInt8), (99 : UInt8), (100 : UInt8), (101 : UInt8), (102 : UInt8), (103 : UInt8), (104 : UInt8), (105 : UInt8), (106 : UInt8), (107 : UInt8), (108 : UInt8), (109 : UInt8), (110 : UInt8), (111 : UInt8), (112 : UInt8), (113 : UInt8), (114 : UInt8), (115 : UInt8), (116 : UInt8), (117 : UInt8), (118 : UInt8), (119 : UInt8), (120 : UInt8), (121 : UInt8), (122 : UInt8)].getD k (0 : UInt8)).toNat : Int)) w11 → ∃ (y : Nat), Value.int IntKind.i64 ((65 : Int) - (↑x2 : Int) - (1 : Int)) = Value.int IntKind.i64 ((65 : Int) - (↑y : Int)) ∧ Value.int IntKind.u64 ((↑(g / (16 : Nat) ^ x2) : Int).fdiv ((2 : Int) ^ min (Int.toNat (4 : Int)) IntKind.u64.bits)) = Value.int IntKind.u64 (↑(g / (16 : Nat) ^ y) : Int) ∧ (y + (1 : Nat) ≤ (4 : Nat) ∧ (∃ (b1 : Nat), Value.pointer (some { block := b, off := (0 : Nat) }) = Value.pointer (some { block := b1, off := (0 : Nat) }) ∧ w.heap.size ≤ b1 ∧ w11.heap[b1]? = some (Obj.cells (arrC g y).toArray (157 : TypeId))) ∧ Ext w w11) ∧ (4 : Nat) - y < (4 : Nat) - x2) (∃ (c : Unit), Value.int IntKind.i64 ((65 : Int) - (↑x2 : Int)) = Value.int IntKind.i64 (62 : Int) ∧
 Value.int IntKind.u64 (↑(g / (16 : Nat) ^ x2) : Int) = Value.int IntKind.u64 (↑(g / (16 : Nat) ^ ((4 : Nat) - (1 : Nat))) : Int) ∧ (∃ (b1 : Nat), ∃ (j : Nat), Value.pointer (some { block := b, off := (0 : Nat) }) = Value.pointer (some { block := b1, off := (0 : Nat) }) ∧ w.heap.size ≤ b1 ∧ j + (1 : Nat) = (4 : Nat) ∧ w'2.heap[b1]? = some (Obj.cells (arrC g j).toArray (157 : TypeId))) ∧ Ext w w'2)) ∧ ∀ (u : Nat → Value) (c : Unit) (w'2 : World), (∃ (b1 : Nat), ∃ (j : Nat), Value.pointer (some { block := b, off := (0 : Nat) }) = Value.pointer (some { block := b1, off := (0 : Nat) }) ∧ w.heap.size ≤ b1 ∧ j + (1 : Nat) = (4 : Nat) ∧ w'2.heap[b1]? = some (Obj.cells (arrC g j).toArray (157 : TypeId))) ∧ Ext w w'2 → InR IntKind.i64 ((62 : Int) - (1 : Int)) ∧ ∃ (k : Nat), (↑(g / (16 : Nat) ^ ((4 : Nat) - (1 : Nat))) : Int) = (↑k : Int) ∧ k < (ByteArray.mk #[(48 : UInt8), (49 : UInt8), (50 : UInt8), (51 : UInt8), (52 : UInt8), (53 : UInt8), (54 : UInt8), (55 : UInt8), (56 : UInt8), (57 : UInt8), (97 : UInt8), (98 : UInt8), (99 : UInt8), (100 : UInt8), (101 : UInt8), (102 : UInt8), (103 : UInt8), (104 : UInt8), (105 : UInt8), (106 : UInt8), (107 : UInt8), (108 : UInt8), (109 : UInt8), (110 : UInt8), (111 : UInt8), (112 : UInt8), (113 : UInt8), (114 : UInt8), (115 : UInt8), (116 : UInt8), (117 : UInt8), (118 : UInt8), (119 : UInt8), (120 : UInt8), (121 : UInt8), (122 : UInt8)]).size ∧ ∃ (k1 : Nat), (61 : Int) = (↑k1 : Int) ∧ k1 < (65 : Nat) ∧ true = true ∧ (∃ (old : Value), w'2.cell? { block := b, off := (0 : Nat) + k1 } = some old) ∧ w'2.frozen? { block := b, off := (0 : Nat) + k1 } = false ∧ ∀ (w11 : World), Stored w'2 { block := b, off := (0 : Nat) + k1 } (Value.int IntKind.u8 (↑([(48 : UInt8), (49 : UInt8), (50 : UInt8), (51 : UInt8), (52 : UInt8), (53 : UInt8), (54 : UInt8), (55 : UInt8), (56 : UInt8), (57 : UInt8), (97 : UInt8), (98 : UInt8), (99 : UInt8), (100 : UInt8), (101 : UInt8), (102 : UInt8), (103 : UInt8), (104 : UInt8), (105 : UInt8), (106 : UInt8), (107 : UInt8), (108 : UInt8), (109 : UInt8), (110 : UInt8), (111 : UInt8), (112 : UInt8), (113 : UInt8), (114 : UInt8), (115 : UInt8), (116 : UInt8), (117 : UInt8), (118 : UInt8), (119 : UInt8), (120 : UInt8), (121 : UInt8), (122 : UInt8)].getD k (0 : UInt8)).toNat : Int)) w11 → ∃ (str : ByteArray), BytesIn w11 (some { block := b, off := (61 : Nat) }) ((65 : Nat) - ((62 : Int) - (1 : Int)).toNat) str ∧ ∃ (x2 : Unit × ByteArray), Value.tuple #[Value.slice none (0 : Nat) (0 : Nat), Value.string str] = Value.tuple #[Value.slice none (0 : Nat) (0 : Nat), Value.string x2.snd] ∧ x2.snd = strL (numS g (4 : Nat)) ∧ Ext w w11) :
    ((sBitD 4)).Ok Tryd.prog 155 :=
  ok_of_vc (sBitD 4) (annBitD 4 62) spBit (fun _ _ => rfl) (fun _ _ => rfl) hsp Tryd.func155 rfl (n := 5) (fun _ => rfl) (by kernel_rfl) (vcast (by kernel_rfl) h)

set_option maxRecDepth 1000000 in
theorem bit5_vc (hsp : SpecsOk Tryd.prog spBit) (h : ∀ (g : Nat) (w : World), DB w ∧ (16 : Nat) ^ ((5 : Nat) - (1 : Nat)) ≤ g ∧ g < (16 : Nat) ^ (5 : Nat) → ∀ (b : Nat) (w1 : World), New w (Obj.cells #[Value.int IntKind.u8 (0 : Int), Value.int IntKind.u8 (0 : Int), Value.int IntKind.u8 (0 : Int), Value.int IntKind.u8 (0 : Int), Value.int IntKind.u8 (0 : Int), Value.int IntKind.u8 (0 : Int), Value.int IntKind.u8 (0 : Int), Value.int IntKind.u8 (0 : Int), Value.int IntKind.u8 (0 : Int), Value.int IntKind.u8 (0 : Int), Value.int IntKind.u8 (0 : Int), Value.int IntKind.u8 (0 : Int), Value.int IntKind.u8 (0 : Int), Value.int IntKind.u8 (0 : Int), Value.int IntKind.u8 (0 : Int), Value.int IntKind.u8 (0 : Int), Value.int IntKind.u8 (0 : Int), Value.int IntKind.u8 (0 : Int), Value.int IntKind.u8 (0 : Int), Value.int IntKind.u8 (0 : Int), Value.int IntKind.u8 (0 : Int), Value.int IntKind.u8 (0 : Int), Value.int IntKind.u8 (0 : Int), Value.int IntKind.u8 (0 : Int), Value.int IntKind.u8 (0 : Int), Value.int IntKind.u8 (0 : Int), Value.int IntKind.u8 (0 : Int), Value.int IntKind.u8 (0 : Int), Value.int IntKind.u8 (0 : Int), Value.int IntKind.u8 (0 : Int), Value.int IntKind.u8 (0 : Int), Value.int IntKind.u8 (0 : Int), Value.int IntKind.u8 (0 : Int), Value.int IntKind.u8 (0 : Int), Value.int IntKind.u8 (0 : Int), Value.int IntKind.u8 (0 : Int), Value.int IntKind.u8 (0 : Int), Value.int IntKind.u8 (0 : Int), Value.int IntKind.u8 (0 : Int), Value.int IntKind.u8 (0 : Int), Value.int IntKind.u8 (0 : Int), Value.int IntKind.u8 (0 : Int), Value.int IntKind.u8 (0 : Int), Value.int IntKind.u8 (0 : Int), Value.int IntKind.u8 (0 : Int), Value.int IntKind.u8 (0 : Int), Value.int IntKind.u8 (0 : Int), Value.int IntKind.u8 (0 : Int), Value.int IntKind.u8 (0 : Int), Value.int IntKind.u8 (0 : Int), Value.int IntKind.u8 (0 : Int), Value.int IntKind.u8 (0 : Int), Value.int IntKind.u8 (0 : Int), Value.int IntKind.u8 (0 : Int), Value.int IntKind.u8 (0 : Int), Value.int IntKind.u8 (0 : Int), Value.int IntKind.u8 (0 : Int), Value.int IntKind.u8 (0 : Int), Value.int IntKind.u8 (0 : Int), Value.int IntKind.u8 (0 : Int), Value.int IntKind.u8 (0 : Int), Value.int IntKind.u8 (0 : Int), Value.int IntKind.u8 (0 : Int), Value.int IntKind.u8 (0 : Int), Value.int IntKind.u8 (0 : Int)] (157 : Nat)) b w1 → ∃ (g1 : Unit), #[Value.int IntKind.i64 (16 : Int)] = #[Value.int IntKind.i64 (16 : Int)] ∧ True ∧ ∀ (x : Unit) (w' : World), w' = w1 → InR IntKind.u64 (16 : Int) ∧ ∃ (g2 : Unit), #[Value.int IntKind.u64 (16 : Int)] = #[Value.int IntKind.u64 (16 : Int)] ∧ DB w' ∧ ∀ (x1 : Unit) (w'1 : World), w'1 = w' → InR IntKind.u64 (4 : Int) ∧ InR IntKind.u64 (16 : Int) ∧ InR IntKind.u64 (16 : Int) ∧ InR IntKind.u64 ((16 : Int) - (1 : Int)) ∧ ((∃ (x2 : Nat), Value.int IntKind.i64 (65 : Int) = Value.int IntKind.i64 ((65 : Int) - (↑x2 : Int)) ∧ Value.int IntKind.u64 (↑g : Int) = Value.int IntKind.u64 (↑(g / (16 : Nat) ^ x2) : Int) ∧ x2 + (1 : Nat) ≤ (5 : Nat) ∧ (∃ (b1 : Nat),
 Value.pointer (some { block := b, off := (0 : Nat) }) = Value.pointer (some { block := b1, off := (0 : Nat) }) ∧ w.heap.size ≤ b1 ∧ w'1.heap[b1]? = some (Obj.cells (arrC g x2).toArray (157 : TypeId))) ∧ Ext w w'1) ∧ ∀ (u : Nat → Value) (x2 : Nat) (w'2 : World), x2 + (1 : Nat) ≤ (5 : Nat) ∧ (∃ (b1 : Nat), Value.pointer (some { block := b, off := (0 : Nat) }) = Value.pointer (some { block := b1, off := (0 : Nat) }) ∧ w.heap.size ≤ b1 ∧ w'2.heap[b1]? = some (Obj.cells (arrC g x2).toArray (157 : TypeId))) ∧ Ext w w'2 → bcase (decide ((↑(g / (16 : Nat) ^ x2) : Int) ≥ (16 : Int))) (InR IntKind.i64 ((65 : Int) - (↑x2 : Int) - (1 : Int)) ∧ ∃ (k : Nat), IntKind.u64.wrap (↑(BitVec.ofInt IntKind.u64.bits (↑(g / (16 : Nat) ^ x2) : Int) &&& BitVec.ofInt IntKind.u64.bits ((16 : Int) - (1 : Int))).toNat : Int) = (↑k : Int) ∧ k < (ByteArray.mk #[(48 : UInt8), (49 : UInt8), (50 : UInt8), (51 : UInt8), (52 : UInt8), (53 : UInt8), (54 : UInt8), (55 : UInt8), (56 : UInt8), (57 : UInt8), (97 : UInt8), (98 : UInt8), (99 : UInt8), (100 : UInt8), (101 : UInt8), (102 : UInt8), (103 : UInt8), (104 : UInt8), (105 : UInt8), (106 : UInt8), (107 : UInt8), (108 : UInt8), (109 : UInt8), (110 : UInt8), (111 : UInt8), (112 : UInt8), (113 : UInt8), (114 : UInt8), (115 : UInt8), (116 : UInt8), (117 : UInt8), (118 : UInt8), (119 : UInt8), (120 : UInt8), (121 : UInt8), (122 : UInt8)]).size ∧ ∃ (k1 : Nat), (65 : Int) - (↑x2 : Int) - (1 : Int) = (↑k1 : Int) ∧ k1 < (65 : Nat) ∧ true = true ∧ (∃ (old : Value), w'2.cell? { block := b, off := (0 : Nat) + k1 } = some old) ∧ w'2.frozen? { block := b, off := (0 : Nat) + k1 } = false ∧ ∀ (w11 : World), Stored w'2 { block := b, off := (0 : Nat) + k1 } (Value.int IntKind.u8 (↑([(48 : UInt8), (49 : UInt8), (50 : UInt8), (51 : UInt8), (52 : UInt8), (53 : UInt8), (54 : UInt8), (55 : UInt8), (56 : UInt8), (57 : UInt8), (97 : UInt8), (98 : UInt8), (99 : UInt8), (100 : UInt8), (101 : UInt8), (102 : UInt8), (103 : UInt8), (104 : UInt8), (105 : UInt8), (106 : UInt8), (107 : UInt8), (108 : UInt8), (109 : UInt8), (110 : UInt8), (111 : UInt8), (112 : UInt8), (113 : UInt8), (114 : UInt8), (115 : UInt8), (116 : UInt8), (117 : UInt8), (118 : UInt8), (119 : UInt8), (120 : UInt8), (121 : UInt8), (122 : UInt8)].getD k (0 : UInt8)).toNat : Int)) w11 → ∃ (y : Nat), Value.int IntKind.i64 ((65 : Int) - (↑x2 : Int) - (1 : Int)) = Value.int IntKind.i64 ((65 : Int) - (↑y : Int)) ∧ Value.int IntKind.u64 ((↑(g / (16 : Nat) ^ x2) : Int).fdiv ((2 : Int) ^ min (Int.toNat (4 : Int)) IntKind.u64.bits)) = Value.int IntKind.u64 (↑(g / (16 : Nat) ^ y) : Int) ∧ (y + (1 : Nat) ≤ (5 : Nat) ∧ (∃ (b1 : Nat), Value.pointer (some { block := b, off := (0 : Nat) }) = Value.pointer (some { block := b1, off := (0 : Nat) }) ∧ w.heap.size ≤ b1 ∧ w11.heap[b1]? = some (Obj.cells (arrC g y).toArray (157 : TypeId))) ∧ Ext w w11) ∧ (5 : Nat) - y < (5 : Nat) - x2) (∃ (c : Unit), Value.int IntKind.i64 ((65 : Int) - (↑x2 : Int)) = Value.int IntKind.i64 (61 : Int) ∧
 Value.int IntKind.u64 (↑(g / (16 : Nat) ^ x2) : Int) = Value.int IntKind.u64 (↑(g / (16 : Nat) ^ ((5 : Nat) - (1 : Nat))) : Int) ∧ (∃ (b1 : Nat), ∃ (j : Nat), Value.pointer (some { block := b, off := (0 : Nat) }) = Value.pointer (some { block := b1, off := (0 : Nat) }) ∧ w.heap.size ≤ b1 ∧ j + (1 : Nat) = (5 : Nat) ∧ w'2.heap[b1]? = some (Obj.cells (arrC g j).toArray (157 : TypeId))) ∧ Ext w w'2)) ∧ ∀ (u : Nat → Value) (c : Unit) (w'2 : World), (∃ (b1 : Nat), ∃ (j : Nat), Value.pointer (some { block := b, off := (0 : Nat) }) = Value.pointer (some { block := b1, off := (0 : Nat) }) ∧ w.heap.size ≤ b1 ∧ j + (1 : Nat) = (5 : Nat) ∧ w'2.heap[b1]? = some (Obj.cells (arrC g j).toArray (157 : TypeId))) ∧ Ext w w'2 → InR IntKind.i64 ((61 : Int) - (1 : Int)) ∧ ∃ (k : Nat), (↑(g / (16 : Nat) ^ ((5 : Nat) - (1 : Nat))) : Int) = (↑k : Int) ∧ k < (ByteArray.mk #[(48 : UInt8), (49 : UInt8), (50 : UInt8), (51 : UInt8), (52 : UInt8), (53 : UInt8), (54 : UInt8), (55 : UInt8), (56 : UInt8), (57 : UInt8), (97 : UInt8), (98 : UInt8), (99 : UInt8), (100 : UInt8), (101 : UInt8), (102 : UInt8), (103 : UInt8), (104 : UInt8), (105 : UInt8), (106 : UInt8), (107 : UInt8), (108 : UInt8), (109 : UInt8), (110 : UInt8), (111 : UInt8), (112 : UInt8), (113 : UInt8), (114 : UInt8), (115 : UInt8), (116 : UInt8), (117 : UInt8), (118 : UInt8), (119 : UInt8), (120 : UInt8), (121 : UInt8), (122 : UInt8)]).size ∧ ∃ (k1 : Nat), (60 : Int) = (↑k1 : Int) ∧ k1 < (65 : Nat) ∧ true = true ∧ (∃ (old : Value), w'2.cell? { block := b, off := (0 : Nat) + k1 } = some old) ∧ w'2.frozen? { block := b, off := (0 : Nat) + k1 } = false ∧ ∀ (w11 : World), Stored w'2 { block := b, off := (0 : Nat) + k1 } (Value.int IntKind.u8 (↑([(48 : UInt8), (49 : UInt8), (50 : UInt8), (51 : UInt8), (52 : UInt8), (53 : UInt8), (54 : UInt8), (55 : UInt8), (56 : UInt8), (57 : UInt8), (97 : UInt8), (98 : UInt8), (99 : UInt8), (100 : UInt8), (101 : UInt8), (102 : UInt8), (103 : UInt8), (104 : UInt8), (105 : UInt8), (106 : UInt8), (107 : UInt8), (108 : UInt8), (109 : UInt8), (110 : UInt8), (111 : UInt8), (112 : UInt8), (113 : UInt8), (114 : UInt8), (115 : UInt8), (116 : UInt8), (117 : UInt8), (118 : UInt8), (119 : UInt8), (120 : UInt8), (121 : UInt8), (122 : UInt8)].getD k (0 : UInt8)).toNat : Int)) w11 → ∃ (str : ByteArray), BytesIn w11 (some { block := b, off := (60 : Nat) }) ((65 : Nat) - ((61 : Int) - (1 : Int)).toNat) str ∧ ∃ (x2 : Unit × ByteArray), Value.tuple #[Value.slice none (0 : Nat) (0 : Nat), Value.string str] = Value.tuple #[Value.slice none (0 : Nat) (0 : Nat), Value.string x2.snd] ∧ x2.snd = strL (numS g (5 : Nat)) ∧ Ext w w11) :
    ((sBitD 5)).Ok Tryd.prog 155 :=
  ok_of_vc (sBitD 5) (annBitD 5 61) spBit (fun _ _ => rfl) (fun _ _ => rfl) hsp Tryd.func155 rfl (n := 5) (fun _ => rfl) (by kernel_rfl) (vcast (by kernel_rfl) h)

set_option maxRecDepth 1000000 in
theorem bit6_vc (hsp : SpecsOk Tryd.prog spBit) (h : ∀ (g : Nat) (w : World), DB w ∧ (16 : Nat) ^ ((6 : Nat) - (1 : Nat)) ≤ g ∧ g < (16 : Nat) ^ (6 : Nat) → ∀ (b : Nat) (w1 : World), New w (Obj.cells #[Value.int IntKind.u8 (0 : Int), Value.int IntKind.u8 (0 : Int), Value.int IntKind.u8 (0 : Int), Value.int IntKind.u8 (0 : Int), Value.int IntKind.u8 (0 : Int), Value.int IntKind.u8 (0 : Int), Value.int IntKind.u8 (0 : Int), Value.int IntKind.u8 (0 : Int), Value.int IntKind.u8 (0 : Int), Value.int IntKind.u8 (0 : Int), Value.int IntKind.u8 (0 : Int), Value.int IntKind.u8 (0 : Int), Value.int IntKind.u8 (0 : Int), Value.int IntKind.u8 (0 : Int), Value.int IntKind.u8 (0 : Int), Value.int IntKind.u8 (0 : Int), Value.int IntKind.u8 (0 : Int), Value.int IntKind.u8 (0 : Int), Value.int IntKind.u8 (0 : Int), Value.int IntKind.u8 (0 : Int), Value.int IntKind.u8 (0 : Int), Value.int IntKind.u8 (0 : Int), Value.int IntKind.u8 (0 : Int), Value.int IntKind.u8 (0 : Int), Value.int IntKind.u8 (0 : Int), Value.int IntKind.u8 (0 : Int), Value.int IntKind.u8 (0 : Int), Value.int IntKind.u8 (0 : Int), Value.int IntKind.u8 (0 : Int), Value.int IntKind.u8 (0 : Int), Value.int IntKind.u8 (0 : Int), Value.int IntKind.u8 (0 : Int), Value.int IntKind.u8 (0 : Int), Value.int IntKind.u8 (0 : Int), Value.int IntKind.u8 (0 : Int), Value.int IntKind.u8 (0 : Int), Value.int IntKind.u8 (0 : Int), Value.int IntKind.u8 (0 : Int), Value.int IntKind.u8 (0 : Int), Value.int IntKind.u8 (0 : Int), Value.int IntKind.u8 (0 : Int), Value.int IntKind.u8 (0 : Int), Value.int IntKind.u8 (0 : Int), Value.int IntKind.u8 (0 : Int), Value.int IntKind.u8 (0 : Int), Value.int IntKind.u8 (0 : Int), Value.int IntKind.u8 (0 : Int), Value.int IntKind.u8 (0 : Int), Value.int IntKind.u8 (0 : Int), Value.int IntKind.u8 (0 : Int), Value.int IntKind.u8 (0 : Int), Value.int IntKind.u8 (0 : Int), Value.int IntKind.u8 (0 : Int), Value.int IntKind.u8 (0 : Int), Value.int IntKind.u8 (0 : Int), Value.int IntKind.u8 (0 : Int), Value.int IntKind.u8 (0 : Int), Value.int IntKind.u8 (0 : Int), Value.int IntKind.u8 (0 : Int), Value.int IntKind.u8 (0 : Int), Value.int IntKind.u8 (0 : Int), Value.int IntKind.u8 (0 : Int), Value.int IntKind.u8 (0 : Int), Value.int IntKind.u8 (0 : Int), Value.int IntKind.u8 (0 : Int)] (157 : Nat)) b w1 → ∃ (g1 : Unit), #[Value.int IntKind.i64 (16 : Int)] = #[Value.int IntKind.i64 (16 : Int)] ∧ True ∧ ∀ (x : Unit) (w' : World), w' = w1 → InR IntKind.u64 (16 : Int) ∧ ∃ (g2 : Unit), #[Value.int IntKind.u64 (16 : Int)] = #[Value.int IntKind.u64 (16 : Int)] ∧ DB w' ∧ ∀ (x1 : Unit) (w'1 : World), w'1 = w' → InR IntKind.u64 (4 : Int) ∧ InR IntKind.u64 (16 : Int) ∧ InR IntKind.u64 (16 : Int) ∧ InR IntKind.u64 ((16 : Int) - (1 : Int)) ∧ ((∃ (x2 : Nat), Value.int IntKind.i64 (65 : Int) = Value.int IntKind.i64 ((65 : Int) - (↑x2 : Int)) ∧ Value.int IntKind.u64 (↑g : Int) = Value.int IntKind.u64 (↑(g / (16 : Nat) ^ x2) : Int) ∧ x2 + (1 : Nat) ≤ (6 : Nat) ∧ (∃ (b1 : Nat),
 Value.pointer (some { block := b, off := (0 : Nat) }) = Value.pointer (some { block := b1, off := (0 : Nat) }) ∧ w.heap.size ≤ b1 ∧ w'1.heap[b1]? = some (Obj.cells (arrC g x2).toArray (157 : TypeId))) ∧ Ext w w'1) ∧ ∀ (u : Nat → Value) (x2 : Nat) (w'2 : World), x2 + (1 : Nat) ≤ (6 : Nat) ∧ (∃ (b1 : Nat), Value.pointer (some { block := b, off := (0 : Nat) }) = Value.pointer (some { block := b1, off := (0 : Nat) }) ∧ w.heap.size ≤ b1 ∧ w'2.heap[b1]? = some (Obj.cells (arrC g x2).toArray (157 : TypeId))) ∧ Ext w w'2 → bcase (decide ((↑(g / (16 : Nat) ^ x2) : Int) ≥ (16 : Int))) (InR IntKind.i64 ((65 : Int) - (↑x2 : Int) - (1 : Int)) ∧ ∃ (k : Nat), IntKind.u64.wrap (↑(BitVec.ofInt IntKind.u64.bits (↑(g / (16 : Nat) ^ x2) : Int) &&& BitVec.ofInt IntKind.u64.bits ((16 : Int) - (1 : Int))).toNat : Int) = (↑k : Int) ∧ k < (ByteArray.mk #[(48 : UInt8), (49 : UInt8), (50 : UInt8), (51 : UInt8), (52 : UInt8), (53 : UInt8), (54 : UInt8), (55 : UInt8), (56 : UInt8), (57 : UInt8), (97 : UInt8), (98 : UInt8), (99 : UInt8), (100 : UInt8), (101 : UInt8), (102 : UInt8), (103 : UInt8), (104 : UInt8), (105 : UInt8), (106 : UInt8), (107 : UInt8), (108 : UInt8), (109 : UInt8), (110 : UInt8), (111 : UInt8), (112 : UInt8), (113 : UInt8), (114 : UInt8), (115 : UInt8), (116 : UInt8), (117 : UInt8), (118 : UInt8), (119 : UInt8), (120 : UInt8), (121 : UInt8), (122 : UInt8)]).size ∧ ∃ (k1 : Nat), (65 : Int) - (↑x2 : Int) - (1 : Int) = (↑k1 : Int) ∧ k1 < (65 : Nat) ∧ true = true ∧ (∃ (old : Value), w'2.cell? { block := b, off := (0 : Nat) + k1 } = some old) ∧ w'2.frozen? { block := b, off := (0 : Nat) + k1 } = false ∧ ∀ (w11 : World), Stored w'2 { block := b, off := (0 : Nat) + k1 } (Value.int IntKind.u8 (↑([(48 : UInt8), (49 : UInt8), (50 : UInt8), (51 : UInt8), (52 : UInt8), (53 : UInt8), (54 : UInt8), (55 : UInt8), (56 : UInt8), (57 : UInt8), (97 : UInt8), (98 : UInt8), (99 : UInt8), (100 : UInt8), (101 : UInt8), (102 : UInt8), (103 : UInt8), (104 : UInt8), (105 : UInt8), (106 : UInt8), (107 : UInt8), (108 : UInt8), (109 : UInt8), (110 : UInt8), (111 : UInt8), (112 : UInt8), (113 : UInt8), (114 : UInt8), (115 : UInt8), (116 : UInt8), (117 : UInt8), (118 : UInt8), (119 : UInt8), (120 : UInt8), (121 : UInt8), (122 : UInt8)].getD k (0 : UInt8)).toNat : Int)) w11 → ∃ (y : Nat), Value.int IntKind.i64 ((65 : Int) - (↑x2 : Int) - (1 : Int)) = Value.int IntKind.i64 ((65 : Int) - (↑y : Int)) ∧ Value.int IntKind.u64 ((↑(g / (16 : Nat) ^ x2) : Int).fdiv ((2 : Int) ^ min (Int.toNat (4 : Int)) IntKind.u64.bits)) = Value.int IntKind.u64 (↑(g / (16 : Nat) ^ y) : Int) ∧ (y + (1 : Nat) ≤ (6 : Nat) ∧ (∃ (b1 : Nat), Value.pointer (some { block := b, off := (0 : Nat) }) = Value.pointer (some { block := b1, off := (0 : Nat) }) ∧ w.heap.size ≤ b1 ∧ w11.heap[b1]? = some (Obj.cells (arrC g y).toArray (157 : TypeId))) ∧ Ext w w11) ∧ (6 : Nat) - y < (6 : Nat) - x2) (∃ (c : Unit), Value.int IntKind.i64 ((65 : Int) - (↑x2 : Int)) = Value.int IntKind.i64 (60 : Int) ∧
 Value.int IntKind.u64 (↑(g / (16 : Nat) ^ x2) : Int) = Value.int IntKind.u64 (↑(g / (16 : Nat) ^ ((6 : Nat) - (1 : Nat))) : Int) ∧ (∃ (b1 : Nat), ∃ (j : Nat), Value.pointer (some { block := b, off := (0 : Nat) }) = Value.pointer (some { block := b1, off := (0 : Nat) }) ∧ w.heap.size ≤ b1 ∧ j + (1 : Nat) = (6 : Nat) ∧ w'2.heap[b1]? = some (Obj.cells (arrC g j).toArray (157 : TypeId))) ∧ Ext w w'2)) ∧ ∀ (u : Nat → Value) (c : Unit) (w'2 : World), (∃ (b1 : Nat), ∃ (j : Nat), Value.pointer (some { block := b, off := (0 : Nat) }) = Value.pointer (some { block := b1, off := (0 : Nat) }) ∧ w.heap.size ≤ b1 ∧ j + (1 : Nat) = (6 : Nat) ∧ w'2.heap[b1]? = some (Obj.cells (arrC g j).toArray (157 : TypeId))) ∧ Ext w w'2 → InR IntKind.i64 ((60 : Int) - (1 : Int)) ∧ ∃ (k : Nat), (↑(g / (16 : Nat) ^ ((6 : Nat) - (1 : Nat))) : Int) = (↑k : Int) ∧ k < (ByteArray.mk #[(48 : UInt8), (49 : UInt8), (50 : UInt8), (51 : UInt8), (52 : UInt8), (53 : UInt8), (54 : UInt8), (55 : UInt8), (56 : UInt8), (57 : UInt8), (97 : UInt8), (98 : UInt8), (99 : UInt8), (100 : UInt8), (101 : UInt8), (102 : UInt8), (103 : UInt8), (104 : UInt8), (105 : UInt8), (106 : UInt8), (107 : UInt8), (108 : UInt8), (109 : UInt8), (110 : UInt8), (111 : UInt8), (112 : UInt8), (113 : UInt8), (114 : UInt8), (115 : UInt8), (116 : UInt8), (117 : UInt8), (118 : UInt8), (119 : UInt8), (120 : UInt8), (121 : UInt8), (122 : UInt8)]).size ∧ ∃ (k1 : Nat), (59 : Int) = (↑k1 : Int) ∧ k1 < (65 : Nat) ∧ true = true ∧ (∃ (old : Value), w'2.cell? { block := b, off := (0 : Nat) + k1 } = some old) ∧ w'2.frozen? { block := b, off := (0 : Nat) + k1 } = false ∧ ∀ (w11 : World), Stored w'2 { block := b, off := (0 : Nat) + k1 } (Value.int IntKind.u8 (↑([(48 : UInt8), (49 : UInt8), (50 : UInt8), (51 : UInt8), (52 : UInt8), (53 : UInt8), (54 : UInt8), (55 : UInt8), (56 : UInt8), (57 : UInt8), (97 : UInt8), (98 : UInt8), (99 : UInt8), (100 : UInt8), (101 : UInt8), (102 : UInt8), (103 : UInt8), (104 : UInt8), (105 : UInt8), (106 : UInt8), (107 : UInt8), (108 : UInt8), (109 : UInt8), (110 : UInt8), (111 : UInt8), (112 : UInt8), (113 : UInt8), (114 : UInt8), (115 : UInt8), (116 : UInt8), (117 : UInt8), (118 : UInt8), (119 : UInt8), (120 : UInt8), (121 : UInt8), (122 : UInt8)].getD k (0 : UInt8)).toNat : Int)) w11 → ∃ (str : ByteArray), BytesIn w11 (some { block := b, off := (59 : Nat) }) ((65 : Nat) - ((60 : Int) - (1 : Int)).toNat) str ∧ ∃ (x2 : Unit × ByteArray), Value.tuple #[Value.slice none (0 : Nat) (0 : Nat), Value.string str] = Value.tuple #[Value.slice none (0 : Nat) (0 : Nat), Value.string x2.snd] ∧ x2.snd = strL (numS g (6 : Nat)) ∧ Ext w w11) :
    ((sBitD 6)).Ok Tryd.prog 155 :=
  ok_of_vc (sBitD 6) (annBitD 6 60) spBit (fun _ _ => rfl) (fun _ _ => rfl) hsp Tryd.func155 rfl (n := 5) (fun _ => rfl) (by kernel_rfl) (vcast (by kernel_rfl) h)

set_option maxRecDepth 1000000 in
theorem fmtI_vc (hsp : SpecsOk Tryd.prog spFmtI) (h : ∀ (g : Nat) (w : World), DB w ∧ (16 : Nat) ≤ g ∧ g < (16777216 : Nat) → InR IntKind.u64 (↑g : Int) ∧ ∃ (g1 : Nat), #[Value.slice none (0 : Nat) (0 : Nat), Value.int IntKind.u64 (↑g : Int), Value.int IntKind.i64 (16 : Int), Value.bool false, Value.bool false] = #[Value.slice none (0 : Nat) (0 : Nat), Value.int IntKind.u64 (↑g1 : Int), Value.int IntKind.i64 (16 : Int), Value.bool false, Value.bool false] ∧ (DB w ∧ (16 : Nat) ≤ g1 ∧ g1 < (16777216 : Nat)) ∧ ∀ (x : Unit × ByteArray) (w' : World), x.snd = strL (numS g1 (digN g1)) ∧ Ext w w' → ∃ (x1 : ByteArray), Value.string x.snd = Value.string x1 ∧ x1 = strL (numS g (digN g)) ∧ Ext w w') :
    (sFmtI).Ok Tryd.prog 149 :=
  ok_of_vc sFmtI (annOf spFmtI) spFmtI (fun _ _ => rfl) (fun _ _ => rfl) hsp Tryd.func149 rfl (n := 2) (fun _ => rfl) (by kernel_rfl) (vcast (by kernel_rfl) h)

set_option maxRecDepth 1000000 in
theorem fmt_vc (hsp : SpecsOk Tryd.prog spFmt) (h : ∀ (g : Nat) (w : World), DB w ∧ (16 : Nat) ≤ g ∧ g < (16777216 : Nat) → ∃ (g1 : Nat), #[Value.int IntKind.i64 (↑g : Int), Value.int IntKind.i64 (16 : Int)] = #[Value.int IntKind.i64 (↑g1 : Int), Value.int IntKind.i64 (16 : Int)] ∧ (DB w ∧ (16 : Nat) ≤ g1 ∧ g1 < (16777216 : Nat)) ∧ ∀ (x : ByteArray) (w' : World), x = strL (numS g1 (digN g1)) ∧ Ext w w' → ∃ (x1 : ByteArray), Value.string x = Value.string x1 ∧ x1 = strL (numS g (digN g)) ∧ Ext w w') :
    (sFmtI).Ok Tryd.prog 136 :=
  ok_of_vc sFmtI (annOf spFmt) spFmt (fun _ _ => rfl) (fun _ _ => rfl) hsp Tryd.func136 rfl (n := 2) (fun _ => rfl) (by kernel_rfl) (vcast (by kernel_rfl) h)

set_option maxRecDepth 1000000 in
theorem named_vc (hsp : SpecsOk Tryd.prog spNamed) (h : ∀ (g : Nat) (w : World), DB w ∧ (16 : Nat) ≤ g ∧ g ≤ (1114111 : Nat) → InR IntKind.i64 (↑g : Int) ∧ ∃ (g1 : Nat), #[Value.int IntKind.i64 (↑g : Int), Value.int IntKind.i64 (16 : Int)] = #[Value.int IntKind.i64 (↑g1 : Int), Value.int IntKind.i64 (16 : Int)] ∧ (DB w ∧ (16 : Nat) ≤ g1 ∧ g1 < (16777216 : Nat)) ∧ ∀ (x : ByteArray) (w' : World), x = strL (numS g1 (digN g1)) ∧ Ext w w' → (∃ (x1 : Nat), Value.string x = Value.string (strL (numS g x1)) ∧ digN g ≤ x1 ∧ x1 ≤ numJ g ∧ w' = w') ∧ ∀ (u : Nat → Value) (x1 : Nat) (w'1 : World), digN g ≤ x1 ∧ x1 ≤ numJ g ∧ w'1 = w' → bcase (decide ((↑(strL (numS g x1)).size : Int) < (4 : Int))) ((ByteArray.mk #[(48 : UInt8)]).size + (strL (numS g x1)).size ≤ (9223372036854775807 : Nat) ∧ ∃ (y : Nat), Value.string ((ByteArray.mk #[(48 : UInt8)]) ++ strL (numS g x1)) = Value.string (strL (numS g y)) ∧ (digN g ≤ y ∧ y ≤ numJ g ∧ w'1 = w') ∧ (4 : Nat) - y < (4 : Nat) - x1) ((ByteArray.mk #[(60 : UInt8)]).size + (strL (numS g x1)).size ≤ (9223372036854775807 : Nat) ∧ ((ByteArray.mk #[(60 : UInt8)]) ++ strL (numS g x1)).size + (ByteArray.mk #[(62 : UInt8)]).size ≤ (9223372036854775807 : Nat) ∧ ∃ (x2 : ByteArray), Value.string ((ByteArray.mk #[(60 : UInt8)]) ++ strL (numS g x1) ++ (ByteArray.mk #[(62 : UInt8)])) = Value.string x2 ∧ x2 = nameS g ∧ Ext w w'1)) :
    (sNamed).Ok Tryd.prog 113 :=
  ok_of_vc sNamed annNamed spNamed (fun _ _ => rfl) (fun _ _ => rfl) hsp Tryd.func113 rfl (n := 1) (fun _ => rfl) (by kernel_rfl) (vcast (by kernel_rfl) h)

set_option maxRecDepth 1000000 in
theorem numX_vc (hsp : SpecsOk Tryd.prog []) (h : ∀ (g : Nat) (w : World), (16 : Nat) ≤ g ∧ g ≤ (1114111 : Nat) → InR IntKind.i64 (↑g : Int) ∧ (∃ (x : GNm), Value.int IntKind.i64 (↑g : Int) = Value.int IntKind.i64 (↑(g / (16 : Nat) ^ x.j) : Int) ∧ Value.slice none (0 : Nat) (0 : Nat) = Value.slice x.a x.j x.c ∧ x.j ≤ numJ g ∧ Made w w (5 : TypeId) (1 : Nat) x.a x.j (u8L (numS g x.j)) x.c) ∧ ∀ (u : Nat → Value) (x : GNm) (w' : World), x.j ≤ numJ g ∧ Made w w' (5 : TypeId) (1 : Nat) x.a x.j (u8L (numS g x.j)) x.c → bcase (decide ((↑(g / (16 : Nat) ^ x.j) : Int) > (0 : Int)) || decide ((↑x.j : Int) < (4 : Int))) ((0 : Int) ≤ (↑(g / (16 : Nat) ^ x.j) : Int) ∧ (0 : Int) < (16 : Int) ∧ ∃ (k : Nat), (↑(g / (16 : Nat) ^ x.j) : Int) % (16 : Int) = (↑k : Int) ∧ k < (ByteArray.mk #[(48 : UInt8), (49 : UInt8), (50 : UInt8), (51 : UInt8), (52 : UInt8), (53 : UInt8), (54 : UInt8), (55 : UInt8), (56 : UInt8), (57 : UInt8), (97 : UInt8), (98 : UInt8), (99 : UInt8), (100 : UInt8), (101 : UInt8), (102 : UInt8)]).size ∧ ∀ (b : Nat) (w1 : World), New w' (Obj.cells #[Value.int IntKind.u8 (↑([(48 : UInt8), (49 : UInt8), (50 : UInt8), (51 : UInt8), (52 : UInt8), (53 : UInt8), (54 : UInt8), (55 : UInt8), (56 : UInt8), (57 : UInt8), (97 : UInt8), (98 : UInt8), (99 : UInt8), (100 : UInt8), (101 : UInt8), (102 : UInt8)].getD k (0 : UInt8)).toNat : Int)] (5 : Nat)) b w1 → ∃ (a' : Option Addr), ∃ (c' : Nat), ∃ (w'1 : World), AppRun Tryd.prog #[(64 : Nat), (64 : Nat)] (64 : Nat) (Value.slice (some { block := b, off := (0 : Nat) }) (1 : Nat) (1 : Nat)) (Value.slice x.a x.j x.c) w1 a' ((1 : Nat) + x.j) c' w'1 ∧ KO w1 w'1 ∧ (0 : Int) ≤ (↑(g / (16 : Nat) ^ x.j) : Int) ∧ (0 : Int) < (16 : Int) ∧ InR IntKind.i64 ((↑(g / (16 : Nat) ^ x.j) : Int) / (16 : Int)) ∧ ∃ (y : GNm), Value.int IntKind.i64 ((↑(g / (16 : Nat) ^ x.j) : Int) / (16 : Int)) = Value.int IntKind.i64 (↑(g / (16 : Nat) ^ y.j) : Int) ∧ Value.slice a' ((1 : Nat) + x.j) c' = Value.slice y.a y.j y.c ∧ (y.j ≤ numJ g ∧ Made w w'1 (5 : TypeId) (1 : Nat) y.a y.j (u8L (numS g y.j)) y.c) ∧ (10 : Nat) - y.j < (10 : Nat) - x.j) (∃ (str : ByteArray), BytesIn w' x.a x.j str ∧ ∃ (x1 : ByteArray), Value.string str = Value.string x1 ∧ x1 = strL (numS g (numJ g)) ∧ Ext w w')) :
    (sNumX).Ok Tryd.prog 119 :=
  ok_of_vc sNumX annNumX [] (fun _ _ => rfl) (fun _ _ => rfl) hsp Tryd.func119 rfl (n := 1) (fun _ => rfl) (by kernel_rfl) (vcast (by kernel_rfl) h)

set_option maxRecDepth 1000000 in
theorem blanks_vc (hsp : SpecsOk Tryd.prog []) (h : ∀ (g : Nat) (w : World), g ≤ (16 : Nat) → (∃ (x : GNm), Value.int IntKind.i64 (0 : Int) = Value.int IntKind.i64 (↑x.j : Int) ∧ Value.slice none (0 : Nat) (0 : Nat) = Value.slice x.a x.j x.c ∧ x.j ≤ g ∧ Made w w (5 : TypeId) (1 : Nat) x.a x.j (u8L (List.replicate x.j (32 : UInt8))) x.c) ∧ ∀ (u : Nat → Value) (x : GNm) (w' : World), x.j ≤ g ∧ Made w w' (5 : TypeId) (1 : Nat) x.a x.j (u8L (List.replicate x.j (32 : UInt8))) x.c → bcase (decide ((↑x.j : Int) < (↑g : Int))) (∀ (b : Nat) (w1 : World), New w' (Obj.cells #[Value.int IntKind.u8 (32 : Int)] (5 : Nat)) b w1 → ∃ (a' : Option Addr), ∃ (c' : Nat), ∃ (w'1 : World), AppRun Tryd.prog #[(64 : Nat), (64 : Nat)] (64 : Nat) (Value.slice x.a x.j x.c) (Value.slice (some { block := b, off := (0 : Nat) }) (1 : Nat) (1 : Nat)) w1 a' (x.j + (1 : Nat)) c' w'1 ∧ KO w1 w'1 ∧ InR IntKind.i64 ((↑x.j : Int) + (1 : Int)) ∧ ∃ (y : GNm), Value.int IntKind.i64 ((↑x.j : Int) + (1 : Int)) = Value.int IntKind.i64 (↑y.j : Int) ∧ Value.slice a' (x.j + (1 : Nat)) c' = Value.slice y.a y.j y.c ∧ (y.j ≤ g ∧ Made w w'1 (5 : TypeId) (1 : Nat) y.a y.j (u8L (List.replicate y.j (32 : UInt8))) y.c) ∧ g - y.j < g - x.j) (∃ (str : ByteArray), BytesIn w' x.a x.j str ∧ ∃ (x1 : ByteArray), Value.string str = Value.string x1 ∧ x1 = blankS g ∧ Ext w w')) :
    (sBlanks).Ok Tryd.prog 117 :=
  ok_of_vc sBlanks annBlanks [] (fun _ _ => rfl) (fun _ _ => rfl) hsp Tryd.func117 rfl (n := 1) (fun _ => rfl) (by kernel_rfl) (vcast (by kernel_rfl) h)

end Go.Proofs.YthpjkgoahneldaaDoor
end

section
/-
  Verification conditions, printed by a program out of the specifications beside this text: each theorem says that the condition suffices. (Lean's kernel compares the printed condition with what 'wpE' computes.)
-/
set_option linter.unusedVariables false
namespace Go.Proofs.YthpjkgoahneldaaDoor
open Go Go.RowKit Vc Ut



end Go.Proofs.YthpjkgoahneldaaDoor
end

section
/-
  Chapter 1: whole texts: the document's lists and the program's say the same.
-/
namespace Go.Proofs.YthpjkgoahneldaaDoor
open Go Go.RowKit Vc Ut

theorem oneV_len (s : ByteArray) (n : Nat) : (oneV s n).length = 4 := rfl
theorem oneV_one (s : ByteArray) (n : Nat) : ∀ u ∈ oneV s n, u.oneCell' = true := by
  intro u hu
  simp only [oneV, List.mem_cons, List.not_mem_nil, or_false] at hu
  rcases hu with rfl | rfl | rfl | rfl <;> rfl
theorem ones_len (s : ByteArray) (l : List Nat) : (l.flatMap (oneV s)).length = l.length * 4 := flat_len' (oneV_len s) l


theorem one_cell {s : ByteArray} {l : List Nat} {k j n : Nat} {v : Value} (hk : l[k]? = some n) (hj : (oneV s n)[j]? = some v) : (l.flatMap (oneV s))[k * 4 + j]? = some v := by
  rw [flat_at (oneV_len s) hk (by have := (List.getElem?_eq_some_iff.1 hj).1; simpa [oneV] using this)]; exact hj
theorem all_at {s : ByteArray} {k : Nat} (h : k < cnt s) : (allN s)[k]? = some k := by simp [allN, List.getElem?_range, h]

theorem back_at {s : ByteArray} {k : Nat} (h : k < cnt s) : (backN s)[k]? = some (cnt s - 1 - k) := by
  simp [backN, List.getElem?_map, List.getElem?_range, h]
theorem back_len (s : ByteArray) : (backN s).length = cnt s := by simp [backN]

theorem badT_succ (s : ByteArray) (n : Nat) : badT s (n + 1) = badT s n ++ (if isBad s n then [(pos s n : Int)] else []) := by
  unfold badT
  rw [List.range_succ, List.filter_append, List.map_append]
  congr 1
  by_cases h : isBad s n = true <;> simp [h]
theorem badT_len (s : ByteArray) (n : Nat) : (badT s n).length ≤ n := by
  unfold badT; rw [List.length_map]; have := List.length_filter_le (isBad s) (List.range n); simpa using this

theorem grown_heap {w w1 : World} {a : Option Addr} {b : Nat} {o : Obj} (h : w.grownBy w1 (blk a)) (hb : w.heap[b]? = some o) (hne : blk a ≠ some b) : w1.heap[b]? = some o :=
  (h.block b (Array.getElem?_eq_some_iff.1 hb).1 (fun e => hne e.symm)).trans hb
theorem row_apart {w : World} {e : TypeId} {s n c b : Nat} {ad : Option Addr} {vs : List Value} {t : ByteArray} {i : Nat} (h : Row w e s ad n vs c) (hb : w.heap[b]? = some (.stringIter t i)) : blk ad ≠ some b := by
  rcases h.2 with ⟨rfl, _⟩ | ⟨g, cur, rfl, h1, _⟩
  · simp [blk]
  · intro hh
    simp only [blk, Option.map_some, Option.some.injEq] at hh
    subst hh; rw [hb] at h1; cases h1


theorem newRunes_made {w w1 : World} {s : ByteArray} {e c b : Nat} (h : NewRunes w s e c b w1) : Made w w1 e 1 (some ⟨b, 0, none⟩) (runesV s).length ((runes s).map (Value.int .i32)) c := by
  obtain ⟨h1, h2, rfl, rfl⟩ := h
  have hext : Ext w (w.drew.alloc (.cells (runesV s ++ List.replicate (c - (runesV s).length) (Value.int .i32 0)).toArray e)) := ((Below.refl w.heap.size w).drew).alloc (Nat.le_refl _) _
  refine ⟨⟨by rw [runesV_eq, Nat.mul_one], .inr ⟨w.heap.size, (runesV s ++ List.replicate (c - (runesV s).length) (Value.int .i32 0)).toArray, rfl, ?_, h1, h2, ?_, ?_⟩⟩, ?_, hext⟩
  · show (w.heap.push _)[w.heap.size]? = _
    simp
  · simp; omega
  · rw [Nat.mul_one, List.take_left' rfl, runesV_eq]
  · intro g hg; simp [blk] at hg; omega

theorem runesV_len (s : ByteArray) : (runesV s).length = cnt s := by rw [runesV_eq, List.length_map, runes_len]


theorem runesIn_of {w : World} {ad : Option Addr} {xs : List Int} (h : CellsAt w ad (xs.map (Value.int .i32))) : RunesIn w ad xs.length xs := by
  refine ⟨rfl, ?_⟩
  rcases h with h | ⟨b, o, rfl, h⟩
  · left; simpa using h
  · right
    refine ⟨b, o, rfl, fun j hj => h j _ ?_⟩
    simp [List.getD, hj]
theorem bytesIn_of {w : World} {ad : Option Addr} {n : Nat} {s : ByteArray} (hn : n = s.size) (h : CellsAt w ad (s.data.toList.map fun b => Value.int .u8 (b.toNat : Int))) : BytesIn w ad n s := by
  refine ⟨hn.symm, ?_⟩
  rcases h with h | ⟨b, o, rfl, h⟩
  · left; have := size_list s; rw [List.map_eq_nil_iff] at h; rw [h] at this; simp at this; omega
  · right
    refine ⟨b, o, rfl, fun j hj => h j _ ?_⟩
    have hl := size_list s
    rw [List.getElem?_map, List.getD_eq_getElem?_getD, List.getElem?_eq_getElem (by omega)]; rfl

theorem bytes_list (xs : List Int) : (runesBytes xs).data.toList.map (fun b => Value.int .u8 (b.toNat : Int)) = (xs.flatMap encL).map (Value.int .u8) := by
  apply List.ext_getElem?
  intro j
  have hsz := runesBytes_size xs
  have hl := size_list (runesBytes xs)
  rw [List.getElem?_map, List.getElem?_map]
  by_cases h : j < (xs.flatMap encL).length
  · have e := runesBytes_bt xs j h
    have hnn := flat_encL_nonneg xs _ (List.getElem_mem h)
    rw [List.getD_eq_getElem?_getD, List.getD_eq_getElem?_getD, List.getElem?_eq_getElem h, List.getElem?_eq_getElem (by omega)] at e
    rw [List.getElem?_eq_getElem h, List.getElem?_eq_getElem (by omega)]
    simp only [Option.map_some, Option.getD_some] at e ⊢
    congr 2; omega
  · rw [List.getElem?_eq_none (by omega), List.getElem?_eq_none (by omega)]; rfl

end Go.Proofs.YthpjkgoahneldaaDoor
end

section
/-
  Chapter 6: a number's hexadecimal digits.
-/
namespace Go.Proofs.YthpjkgoahneldaaDoor
open Go Go.RowKit Vc Ut Tb Cl

theorem DB.ext {w w' : World} (h : DB w) (e : Ext w w') : DB w' := e.cell h
theorem inr_u64 {n : Int} (h1 : 0 ≤ n) (h2 : n ≤ 18446744073709551615) : InR .u64 n := ⟨h1, h2⟩
theorem tz64_ok : (sTz .u64).Ok Tryd.prog 162 := by
  refine tz64_vc trivial ?_
  rintro _ w hD
  exact ⟨⟨by decide +kernel, by decide +kernel⟩, 15, rfl, by decide, 4, hD, inr_i64 (by decide) (by decide), (), rfl, rfl⟩
theorem tz_ok : (sTz .u64).Ok Tryd.prog 160 := by
  refine tz_vc ⟨tz64_ok, trivial⟩ ?_
  rintro _ w hD
  exact ⟨(), rfl, hD, fun _ w' h => ⟨(), rfl, h⟩⟩
theorem pow_ok : sPow.Ok Tryd.prog 159 := by
  refine pow_vc trivial ?_
  rintro _ w _
  exact ⟨inr_i64 (by decide) (by decide), (), rfl, rfl⟩

theorem digs16 : ∀ k, k < 16 → [(48 : UInt8), 49, 50, 51, 52, 53, 54, 55, 56, 57, 97, 98, 99, 100, 101, 102].getD k 0 = hexB k := by decide
theorem digs36 : ∀ k, k < 16 → [(48 : UInt8), 49, 50, 51, 52, 53, 54, 55, 56, 57, 97, 98, 99, 100, 101, 102, 103, 104, 105, 106, 107, 108, 109, 110, 111, 112, 113, 114, 115, 116, 117, 118, 119, 120, 121, 122].getD k 0 = hexB k := by decide
theorem and15 {m : Nat} (h : m < 18446744073709551616) : IntKind.u64.wrap (((BitVec.ofInt IntKind.u64.bits (m : Int) &&& BitVec.ofInt IntKind.u64.bits ((16 : Int) - 1)).toNat : Nat) : Int) = ((m % 16 : Nat) : Int) := by
  have h1 : (BitVec.ofInt IntKind.u64.bits (m : Int) &&& BitVec.ofInt IntKind.u64.bits ((16 : Int) - 1)).toNat = m % 16 := by
    rw [BitVec.toNat_and, BitVec.toNat_ofInt, BitVec.toNat_ofInt]
    show ((m : Int) % (2 ^ 64 : Nat)).toNat &&& 15 = m % 16
    rw [show ((m : Int) % ((2 ^ 64 : Nat) : Int)).toNat = m from by omega]
    exact Nat.and_two_pow_sub_one_eq_mod m 4
  rw [h1]
  exact (inr_u64 (by omega) (by omega)).wrap
theorem shr4 (m : Nat) : ((m : Nat) : Int).fdiv ((2 : Int) ^ min (Int.toNat (4 : Int)) IntKind.u64.bits) = ((m / 16 : Nat) : Int) := by
  show (m : Int).fdiv 16 = _
  rw [Int.fdiv_eq_ediv_of_nonneg _ (by decide)]
  rfl
theorem div_pow (u j : Nat) : u / 16 ^ j / 16 = u / 16 ^ (j + 1) := by rw [Nat.div_div_eq_div_mul, Nat.pow_succ]
theorem step_dig {u j d : Nat} (h2 : u < 16 ^ d) (hj : j + 1 ≤ d) (h : 16 ≤ u / 16 ^ j) : j + 2 ≤ d := by
  rcases Nat.lt_or_ge (j + 1) d with h1 | h1
  · exact h1
  · have e : d = j + 1 := by omega
    subst e
    rw [Nat.pow_succ] at h2
    have := Nat.div_lt_of_lt_mul h2
    omega
theorem last_dig {u j d : Nat} (h1 : 16 ^ (d - 1) ≤ u) (hj : j + 1 ≤ d) (h : u / 16 ^ j < 16) : j + 1 = d := by
  rcases Nat.lt_or_ge (j + 1) d with h2 | h2
  · exfalso
    have h3 : 16 ^ (j + 1) ≤ 16 ^ (d - 1) := Nat.pow_le_pow_right (by decide) (by omega)
    have h4 : 16 ≤ u / 16 ^ j := (Nat.le_div_iff_mul_le (Nat.pow_pos (by decide))).2 (by rw [Nat.mul_comm, ← Nat.pow_succ]; exact Nat.le_trans h3 h1)
    omega
  · omega
theorem num_len (x : Nat) : ∀ j, (numS x j).length = j
  | 0 => rfl
  | j + 1 => by simp only [numS, List.length_cons, num_len x j]
theorem strL_size (l : List UInt8) : (strL l).size = l.length := by simp [strL, ByteArray.size]
theorem u8L_len (l : List UInt8) : (u8L l).length = l.length := by simp [u8L]
theorem arr_len {u j : Nat} (h : j ≤ 65) : (arrC u j).length = 65 := by
  unfold arrC
  rw [List.length_append, List.length_replicate, u8L_len, num_len]; omega
theorem arr_set {u j : Nat} (h : j < 65) : (arrC u j).toArray.setIfInBounds (64 - j) (.int .u8 ((hexB (u / 16 ^ j % 16)).toNat : Nat)) = (arrC u (j + 1)).toArray := by
  have e : arrC u j = List.replicate (64 - j) (.int .u8 0) ++ ([.int .u8 0] ++ u8L (numS u j)) := by
    unfold arrC
    rw [show 65 - j = (64 - j) + 1 from by omega, List.replicate_succ', List.append_assoc]
  rw [e, List.setIfInBounds_toArray, List.set_append_right _ _ (by rw [List.length_replicate]; exact Nat.le_refl _), List.length_replicate, Nat.sub_self]
  unfold arrC
  rw [show 65 - (j + 1) = 64 - j from by omega]
  rfl
theorem arr_bytes {w : World} {b u d : Nat} (hd : d ≤ 65) (h : w.heap[b]? = some (.cells (arrC u d).toArray 157)) : BytesIn w (some ⟨b, 65 - d, none⟩) d (strL (numS u d)) := by
  refine bytesIn_of (by rw [strL_size, num_len]) (.inr ⟨b, 65 - d, rfl, fun t v hv => ?_⟩)
  have hv : (u8L (numS u d))[t]? = some v := hv
  rw [cell_of_heap h, List.getElem?_toArray]
  unfold arrC
  rw [List.getElem?_append_right (by rw [List.length_replicate]; omega), List.length_replicate, Nat.add_sub_cancel_left]
  exact hv

theorem bit2_ok : (sBitD 2).Ok Tryd.prog 155 := by
  refine bit2_vc ⟨pow_ok, tz_ok, trivial⟩ ?_
  rintro (u : Nat) w ⟨hD, h1, h2⟩ b w1 hn1
  have z1 := hn1.size
  have h16 : u < 16777216 := Nat.lt_of_lt_of_le h2 (by decide)
  refine ⟨(), rfl, trivial, ?_⟩
  rintro _ w2 hw2
  replace hw2 := hw2.symm
  subst hw2
  refine ⟨inr_u64 (by decide) (by decide), (), rfl, hD.ext hn1.ext, ?_⟩
  rintro _ w3 hw3
  replace hw3 := hw3.symm
  subst hw3
  refine ⟨inr_u64 (by decide) (by decide), inr_u64 (by decide) (by decide), inr_u64 (by decide) (by decide), inr_u64 (by decide) (by decide), ⟨⟨0, rfl, by simp, by omega, ⟨b, rfl, by omega, hn1.heap⟩, hn1.ext⟩, ?_⟩, ?_⟩
  · rintro _ j w4 ⟨hj, ⟨b', hb', hge, hh⟩, e4⟩
    cases hb'
    have hle : u / 16 ^ j ≤ u := Nat.div_le_self _ _
    refine bcase_mk (fun h => ?_) (fun h => ?_)
    · have h := of_decide_eq_true h
      have hj2 := step_dig h2 hj (by omega)
      have hm : u / 16 ^ j % 16 < 16 := Nat.mod_lt _ (by decide)
      have ho : ((64 - j : Nat) : Int) = (65 : Int) - (j : Int) - 1 := by omega
      refine ⟨inr_i64 (by omega) (by omega), u / 16 ^ j % 16, and15 (by omega), by show _ < 36; omega, 64 - j, ho.symm, by omega, rfl, ⟨_, by rw [cell_of_heap hh, Array.getElem?_eq_getElem (by rw [List.size_toArray, arr_len (by omega)]; omega)]⟩, frozen_of_heap hh _, fun w5 hs5 => ?_⟩
      have hh5 := hs5.heap hh
      rw [digs36 _ hm, Nat.zero_add, arr_set (by omega)] at hh5
      exact ⟨j + 1, by congr 1; omega, by rw [shr4, div_pow], ⟨by omega, ⟨b, rfl, hge, hh5⟩, e4.stored hs5 (by show _ ≤ b; omega)⟩, by omega⟩
    · have h := of_decide_eq_false h
      have hjd := last_dig h1 hj (by omega)
      have hj : j = 2 - 1 := by omega
      subst hj
      exact ⟨(), rfl, rfl, ⟨b, _, rfl, hge, rfl, hh⟩, e4⟩
  · rintro _ _ w4 ⟨⟨b', j, hb', hge, hjd, hh⟩, e4⟩
    cases hb'
    have hj : j = 2 - 1 := by omega
    subst hj
    have hm : u / 16 ^ (2 - 1) < 16 := Nat.div_lt_of_lt_mul h2
    refine ⟨inr_i64 (by decide) (by decide), _, rfl, by show _ < 36; omega, 64 - 1, rfl, by decide, rfl, ⟨_, by rw [cell_of_heap hh, Array.getElem?_eq_getElem (by rw [List.size_toArray, arr_len (by decide)]; decide)]⟩, frozen_of_heap hh _, fun w5 hs5 => ?_⟩
    have hh5 := hs5.heap hh
    rw [digs36 _ hm] at hh5
    have hs := arr_set (u := u) (j := 2 - 1) (by decide)
    rw [Nat.mod_eq_of_lt hm] at hs
    have hh6 : w5.heap[b]? = some (.cells (arrC u 2).toArray 157) := hh5.trans (congrArg (fun c => some (Obj.cells c 157)) hs)
    exact ⟨strL (numS u 2), arr_bytes (by decide) hh6, ((), strL (numS u 2)), rfl, rfl, e4.stored hs5 (by show _ ≤ b; omega)⟩

theorem bit3_ok : (sBitD 3).Ok Tryd.prog 155 := by
  refine bit3_vc ⟨pow_ok, tz_ok, trivial⟩ ?_
  rintro (u : Nat) w ⟨hD, h1, h2⟩ b w1 hn1
  have z1 := hn1.size
  have h16 : u < 16777216 := Nat.lt_of_lt_of_le h2 (by decide)
  refine ⟨(), rfl, trivial, ?_⟩
  rintro _ w2 hw2
  replace hw2 := hw2.symm
  subst hw2
  refine ⟨inr_u64 (by decide) (by decide), (), rfl, hD.ext hn1.ext, ?_⟩
  rintro _ w3 hw3
  replace hw3 := hw3.symm
  subst hw3
  refine ⟨inr_u64 (by decide) (by decide), inr_u64 (by decide) (by decide), inr_u64 (by decide) (by decide), inr_u64 (by decide) (by decide), ⟨⟨0, rfl, by simp, by omega, ⟨b, rfl, by omega, hn1.heap⟩, hn1.ext⟩, ?_⟩, ?_⟩
  · rintro _ j w4 ⟨hj, ⟨b', hb', hge, hh⟩, e4⟩
    cases hb'
    have hle : u / 16 ^ j ≤ u := Nat.div_le_self _ _
    refine bcase_mk (fun h => ?_) (fun h => ?_)
    · have h := of_decide_eq_true h
      have hj2 := step_dig h2 hj (by omega)
      have hm : u / 16 ^ j % 16 < 16 := Nat.mod_lt _ (by decide)
      have ho : ((64 - j : Nat) : Int) = (65 : Int) - (j : Int) - 1 := by omega
      refine ⟨inr_i64 (by omega) (by omega), u / 16 ^ j % 16, and15 (by omega), by show _ < 36; omega, 64 - j, ho.symm, by omega, rfl, ⟨_, by rw [cell_of_heap hh, Array.getElem?_eq_getElem (by rw [List.size_toArray, arr_len (by omega)]; omega)]⟩, frozen_of_heap hh _, fun w5 hs5 => ?_⟩
      have hh5 := hs5.heap hh
      rw [digs36 _ hm, Nat.zero_add, arr_set (by omega)] at hh5
      exact ⟨j + 1, by congr 1; omega, by rw [shr4, div_pow], ⟨by omega, ⟨b, rfl, hge, hh5⟩, e4.stored hs5 (by show _ ≤ b; omega)⟩, by omega⟩
    · have h := of_decide_eq_false h
      have hjd := last_dig h1 hj (by omega)
      have hj : j = 3 - 1 := by omega
      subst hj
      exact ⟨(), rfl, rfl, ⟨b, _, rfl, hge, rfl, hh⟩, e4⟩
  · rintro _ _ w4 ⟨⟨b', j, hb', hge, hjd, hh⟩, e4⟩
    cases hb'
    have hj : j = 3 - 1 := by omega
    subst hj
    have hm : u / 16 ^ (3 - 1) < 16 := Nat.div_lt_of_lt_mul h2
    refine ⟨inr_i64 (by decide) (by decide), _, rfl, by show _ < 36; omega, 63 - 1, rfl, by decide, rfl, ⟨_, by rw [cell_of_heap hh, Array.getElem?_eq_getElem (by rw [List.size_toArray, arr_len (by decide)]; decide)]⟩, frozen_of_heap hh _, fun w5 hs5 => ?_⟩
    have hh5 := hs5.heap hh
    rw [digs36 _ hm] at hh5
    have hs := arr_set (u := u) (j := 3 - 1) (by decide)
    rw [Nat.mod_eq_of_lt hm] at hs
    have hh6 : w5.heap[b]? = some (.cells (arrC u 3).toArray 157) := hh5.trans (congrArg (fun c => some (Obj.cells c 157)) hs)
    exact ⟨strL (numS u 3), arr_bytes (by decide) hh6, ((), strL (numS u 3)), rfl, rfl, e4.stored hs5 (by show _ ≤ b; omega)⟩

theorem bit4_ok : (sBitD 4).Ok Tryd.prog 155 := by
  refine bit4_vc ⟨pow_ok, tz_ok, trivial⟩ ?_
  rintro (u : Nat) w ⟨hD, h1, h2⟩ b w1 hn1
  have z1 := hn1.size
  have h16 : u < 16777216 := Nat.lt_of_lt_of_le h2 (by decide)
  refine ⟨(), rfl, trivial, ?_⟩
  rintro _ w2 hw2
  replace hw2 := hw2.symm
  subst hw2
  refine ⟨inr_u64 (by decide) (by decide), (), rfl, hD.ext hn1.ext, ?_⟩
  rintro _ w3 hw3
  replace hw3 := hw3.symm
  subst hw3
  refine ⟨inr_u64 (by decide) (by decide), inr_u64 (by decide) (by decide), inr_u64 (by decide) (by decide), inr_u64 (by decide) (by decide), ⟨⟨0, rfl, by simp, by omega, ⟨b, rfl, by omega, hn1.heap⟩, hn1.ext⟩, ?_⟩, ?_⟩
  · rintro _ j w4 ⟨hj, ⟨b', hb', hge, hh⟩, e4⟩
    cases hb'
    have hle : u / 16 ^ j ≤ u := Nat.div_le_self _ _
    refine bcase_mk (fun h => ?_) (fun h => ?_)
    · have h := of_decide_eq_true h
      have hj2 := step_dig h2 hj (by omega)
      have hm : u / 16 ^ j % 16 < 16 := Nat.mod_lt _ (by decide)
      have ho : ((64 - j : Nat) : Int) = (65 : Int) - (j : Int) - 1 := by omega
      refine ⟨inr_i64 (by omega) (by omega), u / 16 ^ j % 16, and15 (by omega), by show _ < 36; omega, 64 - j, ho.symm, by omega, rfl, ⟨_, by rw [cell_of_heap hh, Array.getElem?_eq_getElem (by rw [List.size_toArray, arr_len (by omega)]; omega)]⟩, frozen_of_heap hh _, fun w5 hs5 => ?_⟩
      have hh5 := hs5.heap hh
      rw [digs36 _ hm, Nat.zero_add, arr_set (by omega)] at hh5
      exact ⟨j + 1, by congr 1; omega, by rw [shr4, div_pow], ⟨by omega, ⟨b, rfl, hge, hh5⟩, e4.stored hs5 (by show _ ≤ b; omega)⟩, by omega⟩
    · have h := of_decide_eq_false h
      have hjd := last_dig h1 hj (by omega)
      have hj : j = 4 - 1 := by omega
      subst hj
      exact ⟨(), rfl, rfl, ⟨b, _, rfl, hge, rfl, hh⟩, e4⟩
  · rintro _ _ w4 ⟨⟨b', j, hb', hge, hjd, hh⟩, e4⟩
    cases hb'
    have hj : j = 4 - 1 := by omega
    subst hj
    have hm : u / 16 ^ (4 - 1) < 16 := Nat.div_lt_of_lt_mul h2
    refine ⟨inr_i64 (by decide) (by decide), _, rfl, by show _ < 36; omega, 62 - 1, rfl, by decide, rfl, ⟨_, by rw [cell_of_heap hh, Array.getElem?_eq_getElem (by rw [List.size_toArray, arr_len (by decide)]; decide)]⟩, frozen_of_heap hh _, fun w5 hs5 => ?_⟩
    have hh5 := hs5.heap hh
    rw [digs36 _ hm] at hh5
    have hs := arr_set (u := u) (j := 4 - 1) (by decide)
    rw [Nat.mod_eq_of_lt hm] at hs
    have hh6 : w5.heap[b]? = some (.cells (arrC u 4).toArray 157) := hh5.trans (congrArg (fun c => some (Obj.cells c 157)) hs)
    exact ⟨strL (numS u 4), arr_bytes (by decide) hh6, ((), strL (numS u 4)), rfl, rfl, e4.stored hs5 (by show _ ≤ b; omega)⟩

theorem bit5_ok : (sBitD 5).Ok Tryd.prog 155 := by
  refine bit5_vc ⟨pow_ok, tz_ok, trivial⟩ ?_
  rintro (u : Nat) w ⟨hD, h1, h2⟩ b w1 hn1
  have z1 := hn1.size
  have h16 : u < 16777216 := Nat.lt_of_lt_of_le h2 (by decide)
  refine ⟨(), rfl, trivial, ?_⟩
  rintro _ w2 hw2
  replace hw2 := hw2.symm
  subst hw2
  refine ⟨inr_u64 (by decide) (by decide), (), rfl, hD.ext hn1.ext, ?_⟩
  rintro _ w3 hw3
  replace hw3 := hw3.symm
  subst hw3
  refine ⟨inr_u64 (by decide) (by decide), inr_u64 (by decide) (by decide), inr_u64 (by decide) (by decide), inr_u64 (by decide) (by decide), ⟨⟨0, rfl, by simp, by omega, ⟨b, rfl, by omega, hn1.heap⟩, hn1.ext⟩, ?_⟩, ?_⟩
  · rintro _ j w4 ⟨hj, ⟨b', hb', hge, hh⟩, e4⟩
    cases hb'
    have hle : u / 16 ^ j ≤ u := Nat.div_le_self _ _
    refine bcase_mk (fun h => ?_) (fun h => ?_)
    · have h := of_decide_eq_true h
      have hj2 := step_dig h2 hj (by omega)
      have hm : u / 16 ^ j % 16 < 16 := Nat.mod_lt _ (by decide)
      have ho : ((64 - j : Nat) : Int) = (65 : Int) - (j : Int) - 1 := by omega
      refine ⟨inr_i64 (by omega) (by omega), u / 16 ^ j % 16, and15 (by omega), by show _ < 36; omega, 64 - j, ho.symm, by omega, rfl, ⟨_, by rw [cell_of_heap hh, Array.getElem?_eq_getElem (by rw [List.size_toArray, arr_len (by omega)]; omega)]⟩, frozen_of_heap hh _, fun w5 hs5 => ?_⟩
      have hh5 := hs5.heap hh
      rw [digs36 _ hm, Nat.zero_add, arr_set (by omega)] at hh5
      exact ⟨j + 1, by congr 1; omega, by rw [shr4, div_pow], ⟨by omega, ⟨b, rfl, hge, hh5⟩, e4.stored hs5 (by show _ ≤ b; omega)⟩, by omega⟩
    · have h := of_decide_eq_false h
      have hjd := last_dig h1 hj (by omega)
      have hj : j = 5 - 1 := by omega
      subst hj
      exact ⟨(), rfl, rfl, ⟨b, _, rfl, hge, rfl, hh⟩, e4⟩
  · rintro _ _ w4 ⟨⟨b', j, hb', hge, hjd, hh⟩, e4⟩
    cases hb'
    have hj : j = 5 - 1 := by omega
    subst hj
    have hm : u / 16 ^ (5 - 1) < 16 := Nat.div_lt_of_lt_mul h2
    refine ⟨inr_i64 (by decide) (by decide), _, rfl, by show _ < 36; omega, 61 - 1, rfl, by decide, rfl, ⟨_, by rw [cell_of_heap hh, Array.getElem?_eq_getElem (by rw [List.size_toArray, arr_len (by decide)]; decide)]⟩, frozen_of_heap hh _, fun w5 hs5 => ?_⟩
    have hh5 := hs5.heap hh
    rw [digs36 _ hm] at hh5
    have hs := arr_set (u := u) (j := 5 - 1) (by decide)
    rw [Nat.mod_eq_of_lt hm] at hs
    have hh6 : w5.heap[b]? = some (.cells (arrC u 5).toArray 157) := hh5.trans (congrArg (fun c => some (Obj.cells c 157)) hs)
    exact ⟨strL (numS u 5), arr_bytes (by decide) hh6, ((), strL (numS u 5)), rfl, rfl, e4.stored hs5 (by show _ ≤ b; omega)⟩

theorem bit6_ok : (sBitD 6).Ok Tryd.prog 155 := by
  refine bit6_vc ⟨pow_ok, tz_ok, trivial⟩ ?_
  rintro (u : Nat) w ⟨hD, h1, h2⟩ b w1 hn1
  have z1 := hn1.size
  have h16 : u < 16777216 := Nat.lt_of_lt_of_le h2 (by decide)
  refine ⟨(), rfl, trivial, ?_⟩
  rintro _ w2 hw2
  replace hw2 := hw2.symm
  subst hw2
  refine ⟨inr_u64 (by decide) (by decide), (), rfl, hD.ext hn1.ext, ?_⟩
  rintro _ w3 hw3
  replace hw3 := hw3.symm
  subst hw3
  refine ⟨inr_u64 (by decide) (by decide), inr_u64 (by decide) (by decide), inr_u64 (by decide) (by decide), inr_u64 (by decide) (by decide), ⟨⟨0, rfl, by simp, by omega, ⟨b, rfl, by omega, hn1.heap⟩, hn1.ext⟩, ?_⟩, ?_⟩
  · rintro _ j w4 ⟨hj, ⟨b', hb', hge, hh⟩, e4⟩
    cases hb'
    have hle : u / 16 ^ j ≤ u := Nat.div_le_self _ _
    refine bcase_mk (fun h => ?_) (fun h => ?_)
    · have h := of_decide_eq_true h
      have hj2 := step_dig h2 hj (by omega)
      have hm : u / 16 ^ j % 16 < 16 := Nat.mod_lt _ (by decide)
      have ho : ((64 - j : Nat) : Int) = (65 : Int) - (j : Int) - 1 := by omega
      refine ⟨inr_i64 (by omega) (by omega), u / 16 ^ j % 16, and15 (by omega), by show _ < 36; omega, 64 - j, ho.symm, by omega, rfl, ⟨_, by rw [cell_of_heap hh, Array.getElem?_eq_getElem (by rw [List.size_toArray, arr_len (by omega)]; omega)]⟩, frozen_of_heap hh _, fun w5 hs5 => ?_⟩
      have hh5 := hs5.heap hh
      rw [digs36 _ hm, Nat.zero_add, arr_set (by omega)] at hh5
      exact ⟨j + 1, by congr 1; omega, by rw [shr4, div_pow], ⟨by omega, ⟨b, rfl, hge, hh5⟩, e4.stored hs5 (by show _ ≤ b; omega)⟩, by omega⟩
    · have h := of_decide_eq_false h
      have hjd := last_dig h1 hj (by omega)
      have hj : j = 6 - 1 := by omega
      subst hj
      exact ⟨(), rfl, rfl, ⟨b, _, rfl, hge, rfl, hh⟩, e4⟩
  · rintro _ _ w4 ⟨⟨b', j, hb', hge, hjd, hh⟩, e4⟩
    cases hb'
    have hj : j = 6 - 1 := by omega
    subst hj
    have hm : u / 16 ^ (6 - 1) < 16 := Nat.div_lt_of_lt_mul h2
    refine ⟨inr_i64 (by decide) (by decide), _, rfl, by show _ < 36; omega, 60 - 1, rfl, by decide, rfl, ⟨_, by rw [cell_of_heap hh, Array.getElem?_eq_getElem (by rw [List.size_toArray, arr_len (by decide)]; decide)]⟩, frozen_of_heap hh _, fun w5 hs5 => ?_⟩
    have hh5 := hs5.heap hh
    rw [digs36 _ hm] at hh5
    have hs := arr_set (u := u) (j := 6 - 1) (by decide)
    rw [Nat.mod_eq_of_lt hm] at hs
    have hh6 : w5.heap[b]? = some (.cells (arrC u 6).toArray 157) := hh5.trans (congrArg (fun c => some (Obj.cells c 157)) hs)
    exact ⟨strL (numS u 6), arr_bytes (by decide) hh6, ((), strL (numS u 6)), rfl, rfl, e4.stored hs5 (by show _ ≤ b; omega)⟩

theorem dig_cases (u : Nat) : digN u = 2 ∧ u < 256 ∨ digN u = 3 ∧ 256 ≤ u ∧ u < 4096 ∨ digN u = 4 ∧ 4096 ≤ u ∧ u < 65536 ∨ digN u = 5 ∧ 65536 ≤ u ∧ u < 1048576 ∨ digN u = 6 ∧ 1048576 ≤ u := by
  unfold digN
  split
  · omega
  · split
    · omega
    · split
      · omega
      · split <;> omega
theorem bits_ok : sBits.Ok Tryd.prog 155 := by
  rintro (u : Nat) w ⟨hD, h1, h2⟩
  rcases dig_cases u with ⟨e, h3⟩ | ⟨e, h3, h4⟩ | ⟨e, h3, h4⟩ | ⟨e, h3, h4⟩ | ⟨e, h3⟩
  · exact (bit2_ok u w ⟨hD, h1, h3⟩).mono fun e' w' ⟨x, he, ⟨hx, hxt⟩, hko⟩ => ⟨x, he, ⟨by rw [hx, e], hxt⟩, hko⟩
  · exact (bit3_ok u w ⟨hD, h3, h4⟩).mono fun e' w' ⟨x, he, ⟨hx, hxt⟩, hko⟩ => ⟨x, he, ⟨by rw [hx, e], hxt⟩, hko⟩
  · exact (bit4_ok u w ⟨hD, h3, h4⟩).mono fun e' w' ⟨x, he, ⟨hx, hxt⟩, hko⟩ => ⟨x, he, ⟨by rw [hx, e], hxt⟩, hko⟩
  · exact (bit5_ok u w ⟨hD, h3, h4⟩).mono fun e' w' ⟨x, he, ⟨hx, hxt⟩, hko⟩ => ⟨x, he, ⟨by rw [hx, e], hxt⟩, hko⟩
  · exact (bit6_ok u w ⟨hD, h3, h2⟩).mono fun e' w' ⟨x, he, ⟨hx, hxt⟩, hko⟩ => ⟨x, he, ⟨by rw [hx, e], hxt⟩, hko⟩
theorem fmtI_ok : sFmtI.Ok Tryd.prog 149 := by
  refine fmtI_vc ⟨bits_ok, trivial⟩ ?_
  rintro (u : Nat) w ⟨hD, h1, h2⟩
  refine ⟨inr_u64 (by omega) (by omega), u, rfl, ⟨hD, h1, h2⟩, ?_⟩
  rintro ⟨_, x⟩ w1 ⟨hx, e1⟩
  exact ⟨x, rfl, hx, e1⟩
theorem fmt_ok : sFmtI.Ok Tryd.prog 136 := by
  refine fmt_vc ⟨fmtI_ok, trivial⟩ ?_
  rintro (u : Nat) w h
  refine ⟨u, rfl, h, ?_⟩
  rintro x w1 ⟨hx, e1⟩
  exact ⟨x, rfl, hx, e1⟩

theorem num_j (u : Nat) : digN u ≤ numJ u ∧ 4 ≤ numJ u ∧ numJ u ≤ 6 ∧ (numJ u = 4 ∨ numJ u = digN u) := by
  unfold numJ
  rcases dig_cases u with ⟨e, h3⟩ | ⟨e, h3, h4⟩ | ⟨e, h3, h4⟩ | ⟨e, h3, h4⟩ | ⟨e, h3⟩ <;> rw [e] <;> decide
theorem dig_zero {u j : Nat} (h : u < 16777216) (hj : digN u ≤ j) : u / 16 ^ j = 0 := by
  refine Nat.div_eq_of_lt (Nat.lt_of_lt_of_le ?_ (Nat.pow_le_pow_right (by decide) hj))
  rcases dig_cases u with ⟨e, h3⟩ | ⟨e, h3, h4⟩ | ⟨e, h3, h4⟩ | ⟨e, h3, h4⟩ | ⟨e, h3⟩ <;> rw [e]
  · exact h3
  · exact h4
  · exact h4
  · exact h4
  · exact h
theorem dig_pos {u j : Nat} (h : 16 ≤ u) (hj : j < digN u) : 0 < u / 16 ^ j := by
  refine Nat.div_pos (Nat.le_trans (Nat.pow_le_pow_right (by decide) (show j ≤ digN u - 1 by omega)) ?_) (Nat.pow_pos (by decide))
  rcases dig_cases u with ⟨e, h3⟩ | ⟨e, h3, h4⟩ | ⟨e, h3, h4⟩ | ⟨e, h3, h4⟩ | ⟨e, h3⟩ <;> rw [e]
  · exact h
  · exact h3
  · exact h3
  · exact h3
  · exact h3
theorem strL_app (l m : List UInt8) : strL l ++ strL m = strL (l ++ m) := by
  apply ByteArray.ext
  simp [strL, ByteArray.data_append]
theorem named_ok : sNamed.Ok Tryd.prog 113 := by
  refine named_vc ⟨fmt_ok, trivial⟩ ?_
  rintro (u : Nat) w ⟨hD, h1, h2⟩
  have hj := num_j u
  refine ⟨inr_i64 (by omega) (by omega), u, rfl, ⟨hD, h1, by omega⟩, ?_⟩
  rintro x w1 ⟨rfl, e1⟩
  refine ⟨⟨digN u, rfl, Nat.le_refl _, hj.1, rfl⟩, ?_⟩
  rintro _ j w2 ⟨hj1, hj2, hw⟩
  replace hw := hw.symm
  subst hw
  have hz : (strL (numS u j)).size = j := by rw [strL_size, num_len]
  have s48 : (ByteArray.mk #[48]).size = 1 := rfl
  have s60 : (ByteArray.mk #[60]).size = 1 := rfl
  have s62 : (ByteArray.mk #[62]).size = 1 := rfl
  refine bcase_mk (fun h => ?_) (fun h => ?_)
  · have h := of_decide_eq_true h
    rw [hz] at h
    refine ⟨by rw [hz, s48]; omega, j + 1, ?_, ⟨by omega, by omega, rfl⟩, by omega⟩
    congr 1
    show strL [48] ++ strL (numS u j) = _
    rw [strL_app]
    simp only [numS]
    rw [dig_zero (by omega) hj1]
    rfl
  · have h := of_decide_eq_false h
    rw [hz] at h
    have e : j = numJ u := by omega
    subst e
    refine ⟨by rw [hz, s60]; omega, by rw [ByteArray.size_append, hz, s60, s62]; omega, _, rfl, rfl, e1⟩

theorem numX_ok : sNumX.Ok Tryd.prog 119 := by
  refine numX_vc trivial ?_
  rintro (u : Nat) w ⟨h1, h2⟩
  have hj := num_j u
  refine ⟨inr_i64 (by omega) (by omega), ⟨⟨0, none, 0⟩, by simp, rfl, Nat.zero_le _, Made.nil _ _ _⟩, ?_⟩
  rintro _ ⟨j, a, c⟩ w1 ⟨hj2, hm⟩
  dsimp only at hj2 hm ⊢
  have hle : u / 16 ^ j ≤ u := Nat.div_le_self _ _
  refine bcase_mk (fun h => ?_) (fun h => ?_)
  · have hjl : j < numJ u := by
      simp only [Bool.or_eq_true, decide_eq_true_eq] at h
      rcases h with h | h
      · rcases Nat.lt_or_ge j (digN u) with h3 | h3
        · omega
        · have := dig_zero (u := u) (j := j) (by omega) h3; omega
      · omega
    have hmod : u / 16 ^ j % 16 < 16 := Nat.mod_lt _ (by decide)
    have hq0 : (0 : Int) ≤ ((u / 16 ^ j : Nat) : Int) := Int.natCast_nonneg _
    have hqi : InR .i64 (((u / 16 ^ j : Nat) : Int) / 16) := by
      generalize u / 16 ^ j = q at hle
      exact inr_i64 (by omega) (by omega)
    refine ⟨hq0, by decide, u / 16 ^ j % 16, rfl, by show _ < 16; omega, fun b w2 hn2 => ?_⟩
    rw [digs16 _ hmod] at hn2
    have hb := Made.box (w0 := w) (s := 1) (n := 1) hn2 hm.ext rfl (by decide)
    obtain ⟨a', c', w3, hrun, hko, hm3, _⟩ := hb.pushS (P := Tryd.prog) (ty := 64) (sa := a) (cx := c) elem8 (by decide) (m := j) (news := u8L (numS u j)) (by rw [u8L_len, num_len, Nat.mul_one]) (hm.row.cells.ext hn2.ext) (by
      intro v hv
      obtain ⟨x, _, rfl⟩ := List.mem_map.1 hv
      rfl) (by unfold maxLen; omega) (.inr (by omega))
    refine ⟨a', c', w3, hrun, hko, hq0, by decide, hqi, ⟨j + 1, a', c'⟩, ?_, by dsimp only; rw [Nat.add_comm], ⟨hjl, ?_⟩, by dsimp only; omega⟩
    · dsimp only; rw [← div_pow]; rfl
    · rw [Nat.add_comm 1 j] at hm3
      exact hm3
  · simp only [Bool.or_eq_false_iff, decide_eq_false_iff_not] at h
    have hjd : digN u ≤ j := by
      rcases Nat.lt_or_ge j (digN u) with h3 | h3
      · have := dig_pos h1 h3; omega
      · exact h3
    have e : j = numJ u := by omega
    subst e
    exact ⟨_, bytesIn_of (s := strL (numS u (numJ u))) (by rw [strL_size, num_len]) hm.row.cells, _, rfl, rfl, hm.ext⟩

theorem blanks_ok : sBlanks.Ok Tryd.prog 117 := by
  refine blanks_vc trivial ?_
  rintro (n : Nat) w hn
  refine ⟨⟨⟨0, none, 0⟩, rfl, rfl, Nat.zero_le _, Made.nil _ _ _⟩, ?_⟩
  rintro _ ⟨j, a, c⟩ w1 ⟨hj, hm⟩
  dsimp only at hj hm ⊢
  refine bcase_mk (fun h => ?_) (fun h => ?_)
  · have hl : j < n := by have := of_decide_eq_true h; omega
    intro b w2 hn2
    obtain ⟨a', c', w3, hrun, hko, hm3, _⟩ := hm.pushN (P := Tryd.prog) (ty := 64) elem8 (by decide) (m := 1) (news := [.int .u8 32]) hn2 rfl (by simp [Value.oneCell']) (by unfold maxLen; omega) (.inr (by omega))
    refine ⟨a', c', w3, hrun, hko, inr_i64 (by omega) (by omega), ⟨j + 1, a', c'⟩, by simp, rfl, ⟨hl, ?_⟩, by dsimp only; omega⟩
    dsimp only
    have e : u8L (List.replicate (j + 1) 32) = u8L (List.replicate j 32) ++ [.int .u8 32] := by
      unfold u8L; rw [List.replicate_succ', List.map_append]; rfl
    rw [e]; exact hm3
  · have e : j = n := by have := of_decide_eq_false h; omega
    subst e
    exact ⟨blankS j, bytesIn_of (by show j = (strL (List.replicate j 32)).size; rw [strL_size, List.length_replicate]) hm.row.cells, _, rfl, rfl, hm.ext⟩

end Go.Proofs.YthpjkgoahneldaaDoor
end

section
/-
  Runes as a text and back: what is laid is decoded again; a valid text is laid again as it was.
-/
namespace Go.Proofs.YthpjkgoahneldaaDoor.Ut
open Go Vc

def okC (c : Nat) : Prop := c < 55296 ∨ 57344 ≤ c ∧ c ≤ 1114111
theorem encC_ok (r : Int) : okC (encC r) := by unfold okC encC; split <;> omega
theorem encC_same {r : Int} (h : 0 ≤ r) (hr : okC r.toNat) : (encC r : Int) = r := by
  unfold okC at hr; unfold encC; rw [if_pos (by omega)]; omega

theorem dec_enc {s : ByteArray} {i c : Nat} (hc : okC c) (hb : ∀ j, j < (encN c).length → bt s (i + j) = (encN c).getD j 0) (hl : i + (encN c).length ≤ s.size) : Utf8.decode s i = (c, (encN c).length) := by
  unfold okC at hc
  rw [dc_eq]
  have hb0 := hb 0; have hb1 := hb 1; have hb2 := hb 2; have hb3 := hb 3
  rw [Nat.add_zero] at hb0
  clear hb
  unfold Lib.decodeN
  by_cases h1 : c < 128
  · have e : encN c = [c] := by unfold encN; rw [if_pos h1]
    rw [e] at hb0 ⊢
    have b0 := hb0 (by simp)
    simp only [List.getD_cons_zero] at b0
    rw [b0, if_pos h1]; rfl
  by_cases h2 : c < 2048
  · have e : encN c = [192 + c / 64, 128 + c % 64] := by unfold encN; rw [if_neg h1, if_pos h2]
    rw [e] at hb0 hb1 hl ⊢
    have b0 := hb0 (by simp); have b1 := hb1 (by simp)
    simp only [List.getD_cons_zero, List.getD_cons_succ, List.length_cons, List.length_nil] at b0 b1 hl
    rw [b0, b1, if_neg (by omega), if_pos ⟨by omega, by omega, by omega⟩, if_pos (by omega)]
    refine Prod.ext ?_ rfl
    dsimp only
    clear hb0 hb1 hb2 hb3 hl e
    omega
  by_cases h3 : c < 65536
  · have e : encN c = [224 + c / 4096, 128 + c / 64 % 64, 128 + c % 64] := by unfold encN; rw [if_neg h1, if_neg h2, if_pos h3]
    rw [e] at hb0 hb1 hb2 hl ⊢
    have b0 := hb0 (by simp); have b1 := hb1 (by simp); have b2 := hb2 (by simp)
    simp only [List.getD_cons_zero, List.getD_cons_succ, List.length_cons, List.length_nil] at b0 b1 b2 hl
    rw [b0, b1, b2, if_neg (by omega), if_neg (by omega), if_pos ⟨by omega, ⟨by omega, by omega⟩, by omega, by omega⟩, if_pos (by omega)]
    refine Prod.ext ?_ rfl
    dsimp only
    clear hb0 hb1 hb2 hb3 hl e
    omega
  · have e : encN c = [240 + c / 262144, 128 + c / 4096 % 64, 128 + c / 64 % 64, 128 + c % 64] := by unfold encN; rw [if_neg h1, if_neg h2, if_neg h3]
    rw [e] at hb0 hb1 hb2 hb3 hl ⊢
    have b0 := hb0 (by simp); have b1 := hb1 (by simp); have b2 := hb2 (by simp); have b3 := hb3 (by simp)
    simp only [List.getD_cons_zero, List.getD_cons_succ, List.length_cons, List.length_nil] at b0 b1 b2 b3 hl
    rw [b0, b1, b2, b3, if_neg (by omega), if_neg (by omega), if_neg (by omega), if_pos ⟨by omega, ⟨by omega, by omega⟩, ⟨by omega, by omega⟩, by omega, by omega⟩]
    have k2 : c / 64 / 64 = c / 4096 := by omega
    have k3 : c / 4096 / 64 = c / 262144 := by omega
    clear hb0 hb1 hb2 hb3 hl e b0 b1 b2 b3
    have k : (240 + c / 262144) % 8 * 262144 + (128 + c / 4096 % 64) % 64 * 4096 + (128 + c / 64 % 64) % 64 * 64 + (128 + c % 64) % 64 = c := by omega
    rw [k, if_pos (by omega)]; rfl

/-- A number that was decoded is one that is laid. -/
theorem dcR_ok (s : ByteArray) (i : Nat) : okC (dcR s i).toNat := by
  unfold okC dcR
  rw [dc_eq]
  have h0 := bt_lt s i; have h1 := bt_lt s (i + 1); have h2 := bt_lt s (i + 2)
  unfold Lib.decodeN
  repeat' split
  all_goals simp only [Int.toNat_natCast]
  all_goals omega

def encF (xs : List Int) : List Nat := xs.flatMap fun r => encN (encC r)
theorem encF_bt (xs : List Int) (j : Nat) : bt (runesBytes xs) j = (encF xs).getD j 0 := by
  by_cases h : j < (xs.flatMap encL).length
  · have := runesBytes_bt xs j h
    unfold bt
    rw [this, flat_encL]
    rw [flat_encL, List.length_map] at h
    simp only [encF, List.getD_eq_getElem?_getD, List.getElem?_map, List.getElem?_eq_getElem h, Option.map_some, Option.getD_some, Int.toNat_natCast]
  · rw [bt_out (by rw [runesBytes_size]; omega)]
    rw [flat_encL, List.length_map] at h
    simp only [encF, List.getD_eq_getElem?_getD, List.getElem?_eq_none (Nat.le_of_not_lt h)]; rfl
theorem encF_size (xs : List Int) : (runesBytes xs).size = (encF xs).length := by
  rw [runesBytes_size, flat_encL, List.length_map]; rfl
theorem encF_take {xs : List Int} {n : Nat} (h : n < xs.length) : ∃ r, encF xs = encF (xs.take n) ++ (encN (encC (xs.getD n 0)) ++ r) ∧ encF (xs.take (n + 1)) = encF (xs.take n) ++ encN (encC (xs.getD n 0)) := by
  have e1 : xs.take (n + 1) = xs.take n ++ [xs.getD n 0] := by
    rw [List.take_add_one, List.getD_eq_getElem?_getD, List.getElem?_eq_getElem h]; rfl
  have e2 : encF (xs.take (n + 1)) = encF (xs.take n) ++ encN (encC (xs.getD n 0)) := by rw [e1]; unfold encF; rw [List.flatMap_append]; simp
  refine ⟨encF (xs.drop (n + 1)), ?_, e2⟩
  rw [← List.append_assoc, ← e2]
  unfold encF
  rw [← List.flatMap_append, List.take_append_drop]

theorem text_pos (xs : List Int) : ∀ n, n ≤ xs.length → pos (runesBytes xs) n = (encF (xs.take n)).length ∧ (n < xs.length → Utf8.decode (runesBytes xs) (pos (runesBytes xs) n) = (encC (xs.getD n 0), (encN (encC (xs.getD n 0))).length) ∧ pos (runesBytes xs) n < (runesBytes xs).size) := by
  have step : ∀ n, n < xs.length → pos (runesBytes xs) n = (encF (xs.take n)).length → Utf8.decode (runesBytes xs) (pos (runesBytes xs) n) = (encC (xs.getD n 0), (encN (encC (xs.getD n 0))).length) ∧ pos (runesBytes xs) n < (runesBytes xs).size := by
    intro n hn hp
    obtain ⟨r, hr, _⟩ := encF_take hn
    have hlen := encN_len (encC (xs.getD n 0))
    have hsz : (encF xs).length = (encF (xs.take n)).length + ((encN (encC (xs.getD n 0))).length + r.length) := by rw [hr, List.length_append, List.length_append]
    refine ⟨dec_enc (encC_ok _) (fun j hj => ?_) ?_, ?_⟩
    · rw [encF_bt, hp, hr, List.getD_eq_getElem?_getD, List.getElem?_append_right (by omega), Nat.add_sub_cancel_left, List.getElem?_append_left hj, ← List.getD_eq_getElem?_getD]
    · rw [encF_size, hp]; omega
    · rw [encF_size, hp]; omega
  intro n
  induction n with
  | zero => intro _; exact ⟨by simp [pos, encF], fun h => step 0 h (by simp [pos, encF])⟩
  | succ n ih =>
    intro hn
    obtain ⟨h1, h2⟩ := ih (by omega)
    obtain ⟨h3, h4⟩ := h2 (by omega)
    obtain ⟨r, _, hr⟩ := encF_take (show n < xs.length by omega)
    have h5 : pos (runesBytes xs) (n + 1) = (encF (xs.take (n + 1))).length := by
      rw [pos_succ h4]
      unfold dcN
      rw [h3, h1, hr, List.length_append]
    exact ⟨h5, fun h => step (n + 1) h h5⟩
theorem text_cnt (xs : List Int) : cnt (runesBytes xs) = xs.length := by
  have h1 := (text_pos xs xs.length (Nat.le_refl _)).1
  rw [List.take_length, ← encF_size] at h1
  have h2 : ¬ xs.length < cnt (runesBytes xs) := fun h => by have := cnt_lt.1 h; omega
  by_cases h3 : cnt (runesBytes xs) < xs.length
  · have := ((text_pos xs _ (by omega)).2 h3).2
    rw [pos_cnt] at this; omega
  · omega
theorem text_dc {xs : List Int} {n : Nat} (h : n < xs.length) : dcR (runesBytes xs) (pos (runesBytes xs) n) = (encC (xs.getD n 0) : Int) ∧ dcN (runesBytes xs) (pos (runesBytes xs) n) = (encN (encC (xs.getD n 0))).length := by
  have := ((text_pos xs n (by omega)).2 h).1
  unfold dcR dcN; rw [this]; exact ⟨rfl, rfl⟩
theorem text_runes (xs : List Int) : runes (runesBytes xs) = xs.map fun r => (encC r : Int) := by
  apply List.ext_getElem?
  intro n
  by_cases h : n < xs.length
  · have := text_dc h
    simp only [runes, List.getElem?_map, List.getElem?_range (show n < cnt (runesBytes xs) by rw [text_cnt]; exact h), List.getElem?_eq_getElem h, Option.map_some]
    rw [this.1, List.getD_eq_getElem?_getD, List.getElem?_eq_getElem h]; rfl
  · rw [List.getElem?_eq_none (by rw [runes_len, text_cnt]; omega), List.getElem?_eq_none (by rw [List.length_map]; omega)]
theorem encN_one {c : Nat} (h : (encN c).length = 1) : c < 128 := by
  unfold encN at h
  by_cases h1 : c < 128
  · exact h1
  · rw [if_neg h1] at h
    repeat' split at h
    all_goals simp at h
theorem text_valid (xs : List Int) : validB (runesBytes xs) = true := by
  unfold validB
  rw [List.all_eq_true]
  intro n hn
  rw [List.mem_range, text_cnt] at hn
  have := text_dc hn
  unfold isBad
  rw [this.1, this.2]
  simp only [Bool.not_eq_true', decide_eq_false_iff_not]
  rintro ⟨h1, h2⟩
  have := encN_one h1; omega

/-- The bytes of a number that is no bad byte. -/
theorem enc_dec {s : ByteArray} {i : Nat} (hi : i < s.size) (hb : ¬ (dcN s i = 1 ∧ dcR s i = 65533)) : (encN (dcR s i).toNat).length = dcN s i ∧ ∀ j, j < dcN s i → bt s (i + j) = (encN (dcR s i).toNat).getD j 0 := by
  unfold dcR dcN at *
  rw [dc_eq] at *
  have h0 := bt_lt s i; have h1 := bt_lt s (i + 1); have h2 := bt_lt s (i + 2); have h3 := bt_lt s (i + 3)
  generalize e0 : bt s i = b0 at *
  generalize e1 : bt s (i + 1) = b1 at *
  generalize e2 : bt s (i + 2) = b2 at *
  generalize e3 : bt s (i + 3) = b3 at *
  generalize s.size - i = n at *
  unfold Lib.decodeN at *
  by_cases k1 : b0 < 128
  · rw [if_pos k1] at *
    simp only [Int.toNat_natCast]
    have e : encN b0 = [b0] := by unfold encN; rw [if_pos k1]
    rw [e]
    refine ⟨rfl, fun j hj => ?_⟩
    obtain rfl : j = 0 := by omega
    rw [Nat.add_zero]; exact e0
  rw [if_neg k1] at *
  by_cases k2 : b0 / 32 = 6 ∧ (1 < n ∧ b1 / 64 = 2)
  · rw [if_pos k2] at *
    by_cases k3 : b0 % 32 * 64 + b1 % 64 ≥ 128
    · rw [if_pos k3] at *
      simp only [Int.toNat_natCast]
      have e : encN (b0 % 32 * 64 + b1 % 64) = [b0, b1] := by
        unfold encN; rw [if_neg (by omega), if_pos (by omega)]
        congr 1
        · omega
        · congr 1; omega
      rw [e]
      refine ⟨rfl, fun j hj => ?_⟩
      have : j = 0 ∨ j = 1 := by omega
      rcases this with rfl | rfl
      · rw [Nat.add_zero]; exact e0
      · exact e1
    · rw [if_neg k3] at hb; exact absurd ⟨rfl, rfl⟩ hb
  rw [if_neg k2] at *
  by_cases k4 : b0 / 16 = 14 ∧ (1 < n ∧ b1 / 64 = 2) ∧ (2 < n ∧ b2 / 64 = 2)
  · rw [if_pos k4] at *
    by_cases k5 : b0 % 16 * 4096 + b1 % 64 * 64 + b2 % 64 ≥ 2048 ∧ (b0 % 16 * 4096 + b1 % 64 * 64 + b2 % 64 < 55296 ∨ (57344 ≤ b0 % 16 * 4096 + b1 % 64 * 64 + b2 % 64 ∧ b0 % 16 * 4096 + b1 % 64 * 64 + b2 % 64 ≤ 1114111))
    · rw [if_pos k5] at *
      simp only [Int.toNat_natCast]
      have e : encN (b0 % 16 * 4096 + b1 % 64 * 64 + b2 % 64) = [b0, b1, b2] := by
        unfold encN; rw [if_neg (by omega), if_neg (by omega), if_pos (by omega)]
        congr 1
        · omega
        · congr 1
          · omega
          · congr 1; omega
      rw [e]
      refine ⟨rfl, fun j hj => ?_⟩
      have : j = 0 ∨ j = 1 ∨ j = 2 := by omega
      rcases this with rfl | rfl | rfl
      · rw [Nat.add_zero]; exact e0
      · exact e1
      · exact e2
    · rw [if_neg k5] at hb; exact absurd ⟨rfl, rfl⟩ hb
  rw [if_neg k4] at *
  by_cases k6 : b0 / 8 = 30 ∧ (1 < n ∧ b1 / 64 = 2) ∧ (2 < n ∧ b2 / 64 = 2) ∧ (3 < n ∧ b3 / 64 = 2)
  · rw [if_pos k6] at *
    by_cases k7 : b0 % 8 * 262144 + b1 % 64 * 4096 + b2 % 64 * 64 + b3 % 64 ≥ 65536 ∧ (b0 % 8 * 262144 + b1 % 64 * 4096 + b2 % 64 * 64 + b3 % 64 < 55296 ∨ (57344 ≤ b0 % 8 * 262144 + b1 % 64 * 4096 + b2 % 64 * 64 + b3 % 64 ∧ b0 % 8 * 262144 + b1 % 64 * 4096 + b2 % 64 * 64 + b3 % 64 ≤ 1114111))
    · rw [if_pos k7] at *
      simp only [Int.toNat_natCast]
      have e : encN (b0 % 8 * 262144 + b1 % 64 * 4096 + b2 % 64 * 64 + b3 % 64) = [b0, b1, b2, b3] := by
        unfold encN; rw [if_neg (by omega), if_neg (by omega), if_neg (by omega)]
        congr 1
        · omega
        · congr 1
          · omega
          · congr 1
            · omega
            · congr 1; omega
      rw [e]
      refine ⟨rfl, fun j hj => ?_⟩
      have : j = 0 ∨ j = 1 ∨ j = 2 ∨ j = 3 := by omega
      rcases this with rfl | rfl | rfl | rfl
      · rw [Nat.add_zero]; exact e0
      · exact e1
      · exact e2
      · exact e3
    · rw [if_neg k7] at hb; exact absurd ⟨rfl, rfl⟩ hb
  · rw [if_neg k6] at hb; exact absurd ⟨rfl, rfl⟩ hb

/-- A valid text is laid again as it was. -/
theorem valid_text {s : ByteArray} (h : validB s = true) : runesBytes (runes s) = s := by
  have hv : ∀ n, n < cnt s → isBad s n = false := by
    unfold validB at h
    rw [List.all_eq_true] at h
    intro n hn
    simpa using h n (by simpa using hn)
  have key : ∀ n, n ≤ cnt s → (encF ((runes s).take n)).length = pos s n ∧ ∀ j, j < pos s n → bt s j = (encF ((runes s).take n)).getD j 0 := by
    intro n
    induction n with
    | zero => intro _; exact ⟨by simp [encF, pos], fun j hj => by simp [pos] at hj⟩
    | succ n ih =>
      intro hn
      obtain ⟨h1, h2⟩ := ih (by omega)
      have hp := cnt_lt.1 (show n < cnt s by omega)
      have hnb := hv n (by omega)
      unfold isBad at hnb
      simp only [decide_eq_false_iff_not] at hnb
      obtain ⟨h3, h4⟩ := enc_dec hp hnb
      obtain ⟨r, _, hr⟩ := encF_take (xs := runes s) (show n < (runes s).length by rw [runes_len]; omega)
      have hc : encC ((runes s).getD n 0) = (dcR s (pos s n)).toNat := by
        rw [runes_at (by omega)]
        have := encC_same (dcR_nonneg s (pos s n)) (dcR_ok s (pos s n))
        omega
      rw [hc] at hr
      have h5 : (encF ((runes s).take (n + 1))).length = pos s (n + 1) := by rw [hr, List.length_append, h1, h3, pos_succ hp]
      refine ⟨h5, fun j hj => ?_⟩
      rw [hr, List.getD_eq_getElem?_getD]
      by_cases hjp : j < pos s n
      · rw [List.getElem?_append_left (by omega), ← List.getD_eq_getElem?_getD]; exact h2 j hjp
      · rw [List.getElem?_append_right (by omega), h1, ← List.getD_eq_getElem?_getD]
        rw [pos_succ hp] at hj
        have := h4 (j - pos s n) (by omega)
        rwa [show pos s n + (j - pos s n) = j from by omega] at this
  obtain ⟨h1, h2⟩ := key (cnt s) (Nat.le_refl _)
  rw [pos_cnt, List.take_of_length_le (by rw [runes_len]; exact Nat.le_refl _)] at h1 h2
  apply ByteArray.ext
  apply Array.ext'
  apply List.ext_getElem?
  intro j
  have hs1 := size_list s
  have hs2 := size_list (runesBytes (runes s))
  rw [encF_size] at hs2
  by_cases hj : j < s.size
  · have := (h2 j hj).trans (encF_bt (runes s) j).symm
    unfold bt at this
    rw [List.getD_eq_getElem?_getD, List.getD_eq_getElem?_getD, List.getElem?_eq_getElem (by omega), List.getElem?_eq_getElem (by omega)] at this
    simp only [Option.getD_some] at this
    rw [List.getElem?_eq_getElem (by omega), List.getElem?_eq_getElem (by omega)]
    congr 1
    exact (UInt8.toNat_inj.1 this).symm
  · rw [List.getElem?_eq_none (by omega), List.getElem?_eq_none (by omega)]

end Go.Proofs.YthpjkgoahneldaaDoor.Ut
end

section
/-
  A text cut where a rune begins: its runes are those of the two parts; a cleaned text stays as it is.
-/
namespace Go.Proofs.YthpjkgoahneldaaDoor.Ut
open Go Vc

theorem runes_clean (s : ByteArray) : runes (runesBytes (runes s)) = runes s := by
  rw [text_runes]
  unfold runes
  rw [List.map_map]
  refine List.map_congr_left fun n _ => ?_
  exact encC_same (dcR_nonneg s _) (dcR_ok s _)

theorem runes_ext {xs ys : List Int} (hl : xs.length = ys.length) (h : ∀ i, i < xs.length → xs.getD i 0 = ys.getD i 0) : xs = ys := by
  refine List.ext_getElem hl fun i h1 h2 => ?_
  have := h i h1
  rw [List.getD_eq_getElem?_getD, List.getD_eq_getElem?_getD, List.getElem?_eq_getElem h1, List.getElem?_eq_getElem h2] at this
  exact this

theorem runes_split {s : ByteArray} {k : Nat} (hk : k ≤ cnt s) : runes (s.extract 0 (pos s k)) ++ runes (s.extract (pos s k) s.size) = runes s := by
  have l1 := cnt_take hk
  have l2 := cnt_drop hk
  refine runes_ext (by rw [List.length_append, runes_len, runes_len, runes_len]; omega) fun i hi => ?_
  rw [List.length_append, runes_len, runes_len] at hi
  rw [runes_at (by omega)]
  by_cases h : i < k
  · rw [List.getD_eq_getElem?_getD, List.getElem?_append_left (by rw [runes_len]; omega), ← List.getD_eq_getElem?_getD, runes_at (by omega), pos_take (by omega) hk]
    unfold dcR; rw [dc_take h hk]
  · rw [List.getD_eq_getElem?_getD, List.getElem?_append_right (by rw [runes_len]; omega), ← List.getD_eq_getElem?_getD, runes_len, l1, runes_at (by omega)]
    unfold dcR; rw [dc_drop]
    rw [show k + (i - k) = i by omega]

theorem drop_next {s : ByteArray} {k : Nat} (hk : k < cnt s) : nxN (s.extract (pos s k) s.size) = dcN s (pos s k) ∧ nxR (s.extract (pos s k) s.size) = dcR s (pos s k) := by
  have hp := cnt_lt.1 hk
  have hs := size_ext (s := s) (a := pos s k) (b := s.size) (Nat.le_refl _)
  have hd := decode_drop s (Nat.le_of_lt hp) 0
  rw [Nat.add_zero] at hd
  unfold nxN nxR
  rw [if_neg (by omega), if_neg (by omega)]
  unfold dcN dcR
  rw [hd]; exact ⟨rfl, rfl⟩

end Go.Proofs.YthpjkgoahneldaaDoor.Ut
end
