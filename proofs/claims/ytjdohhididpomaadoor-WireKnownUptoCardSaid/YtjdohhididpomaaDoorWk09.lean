/-
  Texts joined by program: VgSf, VgB, VgA, Gn, WkA, El.
-/
import Derived.Test.YtjdohhididpomaaDoorWk06
import Derived.Test.YtjdohhididpomaaDoorProg
import Derived.KernelRfl
import Derived.Test.YtjdohhididpomaaDoorWk05
import Derived.Test.YtjdohhididpomaaDoorWk03
import Derived.Test.YtjdohhididpomaaDoorSh
set_option linter.unusedVariables false
set_option linter.unusedSimpArgs false

section
set_option linter.unusedVariables false
namespace Go.Proofs.YtjdohhididpomaaDoor
open Go Go.RowKit Vc Ut Tb Cl
set_option maxRecDepth 1000000 in
theorem tz64_vc (hsp : SpecsOk Tryd.prog []) (h : ∀ (g : Unit) (w : World), DB w → InR IntKind.u64 (IntKind.u64.wrap (↑(BitVec.ofInt IntKind.u64.bits (16 : Int) &&& BitVec.ofInt IntKind.u64.bits (IntKind.u64.wrap ((0 : Int) - (16 : Int)))).toNat : Int) * (285870213051353865 : Int)) ∧ ∃ (k : Nat), (15 : Int) = (↑k : Int) ∧ k < 64 ∧ ∃ (n : Int), w.cell? ⟨(5 : Nat), (0 : Nat) + k, none⟩ = some (Value.int .u8 n) ∧ InR .i64 n ∧ ∃ (x : Unit), Value.int .i64 n = Value.int .i64 4 ∧ w = w) :
    ((sTz .u64)).Ok Tryd.prog 97 :=
  ok_of_vc (sTz .u64) (annOf []) [] (fun _ _ => rfl) (fun _ _ => rfl) hsp Tryd.func97 rfl (n := 1) (fun _ => rfl) (by kernel_rfl) (vcast (by kernel_rfl) h)
set_option maxRecDepth 1000000 in
theorem tz_vc (hsp : SpecsOk Tryd.prog spTz) (h : ∀ (g : Unit) (w : World), DB w → ∃ (g1 : Unit), #[Value.int .u64 16] = #[Value.int .u64 16] ∧ DB w ∧ ∀ (x : Unit) (w' : World), w' = w → ∃ (x1 : Unit), Value.int .i64 4 = Value.int .i64 4 ∧ w' = w) :
    ((sTz .u64)).Ok Tryd.prog 93 :=
  ok_of_vc (sTz .u64) (annOf spTz) spTz (fun _ _ => rfl) (fun _ _ => rfl) hsp Tryd.func93 rfl (n := 1) (fun _ => rfl) (by kernel_rfl) (vcast (by kernel_rfl) h)
set_option maxRecDepth 1000000 in
theorem pow_vc (hsp : SpecsOk Tryd.prog []) (h : ∀ (g : Unit) (w : World), True → InR .i64 ((16 : Int) - (1 : Int)) ∧ ∃ (x : Unit), Value.bool true = Value.bool true ∧ w = w) :
    (sPow).Ok Tryd.prog 92 :=
  ok_of_vc sPow (annOf []) [] (fun _ _ => rfl) (fun _ _ => rfl) hsp Tryd.func92 rfl (n := 1) (fun _ => rfl) (by kernel_rfl) (vcast (by kernel_rfl) h)
set_option maxRecDepth 1000000 in
theorem bit2_vc (hsp : SpecsOk Tryd.prog spBit) (h : ∀ (g : Nat) (w : World), DB w ∧ (16 : Nat) ^ ((2 : Nat) - (1 : Nat)) ≤ g ∧ g < 16 ^ (2 : Nat) → ∀ (b : Nat) (w1 : World), New w (Obj.cells #[Value.int .u8 0, Value.int .u8 0, Value.int .u8 0, Value.int .u8 0, Value.int .u8 0, Value.int .u8 0, Value.int .u8 0, Value.int .u8 0, Value.int .u8 0, Value.int .u8 0, Value.int .u8 0, Value.int .u8 0, Value.int .u8 0, Value.int .u8 0, Value.int .u8 0, Value.int .u8 0, Value.int .u8 0, Value.int .u8 0, Value.int .u8 0, Value.int .u8 0, Value.int .u8 0, Value.int .u8 0, Value.int .u8 0, Value.int .u8 0, Value.int .u8 0, Value.int .u8 0, Value.int .u8 0, Value.int .u8 0, Value.int .u8 0, Value.int .u8 0, Value.int .u8 0, Value.int .u8 0, Value.int .u8 0, Value.int .u8 0, Value.int .u8 0, Value.int .u8 0, Value.int .u8 0, Value.int .u8 0, Value.int .u8 0, Value.int .u8 0, Value.int .u8 0, Value.int .u8 0, Value.int .u8 0, Value.int .u8 0, Value.int .u8 0, Value.int .u8 0, Value.int .u8 0, Value.int .u8 0, Value.int .u8 0, Value.int .u8 0, Value.int .u8 0, Value.int .u8 0, Value.int .u8 0, Value.int .u8 0, Value.int .u8 0, Value.int .u8 0, Value.int .u8 0, Value.int .u8 0, Value.int .u8 0, Value.int .u8 0, Value.int .u8 0, Value.int .u8 0, Value.int .u8 0, Value.int .u8 0, Value.int .u8 0] (145 : Nat)) b w1 → ∃ (g1 : Unit), #[Value.int .i64 16] = #[Value.int .i64 16] ∧ True ∧ ∀ (x : Unit) (w' : World), w' = w1 → InR .u64 (16 : Int) ∧ ∃ (g2 : Unit), #[Value.int .u64 16] = #[Value.int .u64 16] ∧ DB w' ∧ ∀ (x1 : Unit) (w'1 : World), w'1 = w' → InR .u64 (4 : Int) ∧ InR .u64 (16 : Int) ∧ InR .u64 (16 : Int) ∧ InR .u64 ((16 : Int) - (1 : Int)) ∧ ((∃ (x2 : Nat), Value.int .i64 65 = Value.int .i64 ((65 : Int) - (↑x2 : Int)) ∧ Value.int .u64 (↑g : Int) = Value.int .u64 (↑(g / (16 : Nat) ^ x2) : Int) ∧ x2 + 1 ≤ 2 ∧ (∃ (b1 : Nat), Value.pointer (some ⟨b, 0, none⟩) = Value.pointer (some ⟨b1, 0, none⟩) ∧ w.heap.size ≤ b1 ∧ w'1.heap[b1]? = some (Obj.cells (arrC g x2).toArray (145 : TypeId))) ∧ Ext w w'1) ∧ ∀ (u : Nat → Value) (x2 : Nat) (w'2 : World), x2 + 1 ≤ 2 ∧ (∃ (b1 : Nat), Value.pointer (some ⟨b, 0, none⟩) = Value.pointer (some ⟨b1, 0, none⟩) ∧ w.heap.size ≤ b1 ∧ w'2.heap[b1]? = some (Obj.cells (arrC g x2).toArray (145 : TypeId))) ∧ Ext w w'2 → bcase (decide ((↑(g / (16 : Nat) ^ x2) : Int) ≥ (16 : Int))) (InR .i64 ((65 : Int) - (↑x2 : Int) - (1 : Int)) ∧ ∃ (k : Nat), IntKind.u64.wrap (↑(BitVec.ofInt IntKind.u64.bits (↑(g / (16 : Nat) ^ x2) : Int) &&& BitVec.ofInt IntKind.u64.bits ((16 : Int) - (1 : Int))).toNat : Int) = (↑k : Int) ∧ k < (ByteArray.mk #[(48 : UInt8), (49 : UInt8), (50 : UInt8), (51 : UInt8), (52 : UInt8), (53 : UInt8), (54 : UInt8), (55 : UInt8), (56 : UInt8), (57 : UInt8), (97 : UInt8), (98 : UInt8), (99 : UInt8), (100 : UInt8), (101 : UInt8), (102 : UInt8), (103 : UInt8), (104 : UInt8), (105 : UInt8), (106 : UInt8), (107 : UInt8), (108 : UInt8), (109 : UInt8), (110 : UInt8),
 (111 : UInt8), (112 : UInt8), (113 : UInt8), (114 : UInt8), (115 : UInt8), (116 : UInt8), (117 : UInt8), (118 : UInt8), (119 : UInt8), (120 : UInt8), (121 : UInt8), (122 : UInt8)]).size ∧ ∃ (k1 : Nat), (65 : Int) - (↑x2 : Int) - (1 : Int) = (↑k1 : Int) ∧ k1 < 65 ∧ true = true ∧ (∃ (old : Value), w'2.cell? ⟨b, (0 : Nat) + k1, none⟩ = some old) ∧ w'2.frozen? ⟨b, (0 : Nat) + k1, none⟩ = false ∧ ∀ (w11 : World), Stored w'2 ⟨b, (0 : Nat) + k1, none⟩ (Value.int IntKind.u8 (↑([(48 : UInt8), (49 : UInt8), (50 : UInt8), (51 : UInt8), (52 : UInt8), (53 : UInt8), (54 : UInt8), (55 : UInt8), (56 : UInt8), (57 : UInt8), (97 : UInt8), (98 : UInt8), (99 : UInt8), (100 : UInt8), (101 : UInt8), (102 : UInt8), (103 : UInt8), (104 : UInt8), (105 : UInt8), (106 : UInt8), (107 : UInt8), (108 : UInt8), (109 : UInt8), (110 : UInt8), (111 : UInt8), (112 : UInt8), (113 : UInt8), (114 : UInt8), (115 : UInt8), (116 : UInt8), (117 : UInt8), (118 : UInt8), (119 : UInt8), (120 : UInt8), (121 : UInt8), (122 : UInt8)].getD k (0 : UInt8)).toNat : Int)) w11 → ∃ (y : Nat), Value.int .i64 ((65 : Int) - (↑x2 : Int) - (1 : Int)) = Value.int .i64 ((65 : Int) - (↑y : Int)) ∧ Value.int .u64 ((↑(g / (16 : Nat) ^ x2) : Int).fdiv ((2 : Int) ^ min (Int.toNat (4 : Int)) IntKind.u64.bits)) = Value.int .u64 (↑(g / (16 : Nat) ^ y) : Int) ∧ (y + 1 ≤ 2 ∧ (∃ (b1 : Nat), Value.pointer (some ⟨b, 0, none⟩) = Value.pointer (some ⟨b1, 0, none⟩) ∧ w.heap.size ≤ b1 ∧ w11.heap[b1]? = some (Obj.cells (arrC g y).toArray (145 : TypeId))) ∧ Ext w w11) ∧ (2 : Nat) - y < 2 - x2) (∃ (c : Unit), Value.int .i64 ((65 : Int) - (↑x2 : Int)) = Value.int .i64 64 ∧ Value.int .u64 (↑(g / (16 : Nat) ^ x2) : Int) = Value.int .u64 (↑(g / (16 : Nat) ^ ((2 : Nat) - (1 : Nat))) : Int) ∧ (∃ (b1 : Nat) (j : Nat), Value.pointer (some ⟨b, 0, none⟩) = Value.pointer (some ⟨b1, 0, none⟩) ∧ w.heap.size ≤ b1 ∧ j + 1 = (2 : Nat) ∧ w'2.heap[b1]? = some (Obj.cells (arrC g j).toArray (145 : TypeId))) ∧ Ext w w'2)) ∧ ∀ (u : Nat → Value) (c : Unit) (w'2 : World), (∃ (b1 : Nat) (j : Nat), Value.pointer (some ⟨b, 0, none⟩) = Value.pointer (some ⟨b1, 0, none⟩) ∧ w.heap.size ≤ b1 ∧ j + 1 = (2 : Nat) ∧ w'2.heap[b1]? = some (Obj.cells (arrC g j).toArray (145 : TypeId))) ∧ Ext w w'2 → InR .i64 ((64 : Int) - (1 : Int)) ∧ ∃ (k : Nat), (↑(g / (16 : Nat) ^ ((2 : Nat) - (1 : Nat))) : Int) = (↑k : Int) ∧ k < (ByteArray.mk #[(48 : UInt8), (49 : UInt8), (50 : UInt8), (51 : UInt8), (52 : UInt8), (53 : UInt8), (54 : UInt8), (55 : UInt8), (56 : UInt8), (57 : UInt8), (97 : UInt8), (98 : UInt8), (99 : UInt8), (100 : UInt8), (101 : UInt8), (102 : UInt8), (103 : UInt8), (104 : UInt8), (105 : UInt8), (106 : UInt8), (107 : UInt8), (108 : UInt8), (109 : UInt8), (110 : UInt8), (111 : UInt8), (112 : UInt8), (113 : UInt8), (114 : UInt8), (115 : UInt8), (116 : UInt8), (117 : UInt8), (118 : UInt8), (119 : UInt8), (120 : UInt8), (121 : UInt8), (122 : UInt8)]).size ∧ ∃ (k1 : Nat), (63 : Int) = (↑k1 : Int) ∧ k1 < 65 ∧ true = true ∧
 (∃ (old : Value), w'2.cell? ⟨b, (0 : Nat) + k1, none⟩ = some old) ∧ w'2.frozen? ⟨b, (0 : Nat) + k1, none⟩ = false ∧ ∀ (w11 : World), Stored w'2 ⟨b, (0 : Nat) + k1, none⟩ (Value.int IntKind.u8 (↑([(48 : UInt8), (49 : UInt8), (50 : UInt8), (51 : UInt8), (52 : UInt8), (53 : UInt8), (54 : UInt8), (55 : UInt8), (56 : UInt8), (57 : UInt8), (97 : UInt8), (98 : UInt8), (99 : UInt8), (100 : UInt8), (101 : UInt8), (102 : UInt8), (103 : UInt8), (104 : UInt8), (105 : UInt8), (106 : UInt8), (107 : UInt8), (108 : UInt8), (109 : UInt8), (110 : UInt8), (111 : UInt8), (112 : UInt8), (113 : UInt8), (114 : UInt8), (115 : UInt8), (116 : UInt8), (117 : UInt8), (118 : UInt8), (119 : UInt8), (120 : UInt8), (121 : UInt8), (122 : UInt8)].getD k (0 : UInt8)).toNat : Int)) w11 → ∃ (str : ByteArray), BytesIn w11 (some ⟨b, 63, none⟩) ((65 : Nat) - ((64 : Int) - (1 : Int)).toNat) str ∧ ∃ (x2 : Unit × ByteArray), Value.tuple #[Value.slice none (0 : Nat) (0 : Nat), Value.string str] = Value.tuple #[Value.slice none (0 : Nat) (0 : Nat), Value.string x2.snd] ∧ x2.snd = strL (numS g (2 : Nat)) ∧ Ext w w11) :
    ((sBitD 2)).Ok Tryd.prog 82 :=
  ok_of_vc (sBitD 2) (annBitD 2 64) spBit (fun _ _ => rfl) (fun _ _ => rfl) hsp Tryd.func82 rfl (n := 5) (fun _ => rfl) (by kernel_rfl) (vcast (by kernel_rfl) h)
set_option maxRecDepth 1000000 in
theorem bit3_vc (hsp : SpecsOk Tryd.prog spBit) (h : ∀ (g : Nat) (w : World), DB w ∧ (16 : Nat) ^ ((3 : Nat) - (1 : Nat)) ≤ g ∧ g < 16 ^ (3 : Nat) → ∀ (b : Nat) (w1 : World), New w (Obj.cells #[Value.int .u8 0, Value.int .u8 0, Value.int .u8 0, Value.int .u8 0, Value.int .u8 0, Value.int .u8 0, Value.int .u8 0, Value.int .u8 0, Value.int .u8 0, Value.int .u8 0, Value.int .u8 0, Value.int .u8 0, Value.int .u8 0, Value.int .u8 0, Value.int .u8 0, Value.int .u8 0, Value.int .u8 0, Value.int .u8 0, Value.int .u8 0, Value.int .u8 0, Value.int .u8 0, Value.int .u8 0, Value.int .u8 0, Value.int .u8 0, Value.int .u8 0, Value.int .u8 0, Value.int .u8 0, Value.int .u8 0, Value.int .u8 0, Value.int .u8 0, Value.int .u8 0, Value.int .u8 0, Value.int .u8 0, Value.int .u8 0, Value.int .u8 0, Value.int .u8 0, Value.int .u8 0, Value.int .u8 0, Value.int .u8 0, Value.int .u8 0, Value.int .u8 0, Value.int .u8 0, Value.int .u8 0, Value.int .u8 0, Value.int .u8 0, Value.int .u8 0, Value.int .u8 0, Value.int .u8 0, Value.int .u8 0, Value.int .u8 0, Value.int .u8 0, Value.int .u8 0, Value.int .u8 0, Value.int .u8 0, Value.int .u8 0, Value.int .u8 0, Value.int .u8 0, Value.int .u8 0, Value.int .u8 0, Value.int .u8 0, Value.int .u8 0, Value.int .u8 0, Value.int .u8 0, Value.int .u8 0, Value.int .u8 0] (145 : Nat)) b w1 → ∃ (g1 : Unit), #[Value.int .i64 16] = #[Value.int .i64 16] ∧ True ∧ ∀ (x : Unit) (w' : World), w' = w1 → InR .u64 (16 : Int) ∧ ∃ (g2 : Unit), #[Value.int .u64 16] = #[Value.int .u64 16] ∧ DB w' ∧ ∀ (x1 : Unit) (w'1 : World), w'1 = w' → InR .u64 (4 : Int) ∧ InR .u64 (16 : Int) ∧ InR .u64 (16 : Int) ∧ InR .u64 ((16 : Int) - (1 : Int)) ∧ ((∃ (x2 : Nat), Value.int .i64 65 = Value.int .i64 ((65 : Int) - (↑x2 : Int)) ∧ Value.int .u64 (↑g : Int) = Value.int .u64 (↑(g / (16 : Nat) ^ x2) : Int) ∧ x2 + 1 ≤ 3 ∧ (∃ (b1 : Nat), Value.pointer (some ⟨b, 0, none⟩) = Value.pointer (some ⟨b1, 0, none⟩) ∧ w.heap.size ≤ b1 ∧ w'1.heap[b1]? = some (Obj.cells (arrC g x2).toArray (145 : TypeId))) ∧ Ext w w'1) ∧ ∀ (u : Nat → Value) (x2 : Nat) (w'2 : World), x2 + 1 ≤ 3 ∧ (∃ (b1 : Nat), Value.pointer (some ⟨b, 0, none⟩) = Value.pointer (some ⟨b1, 0, none⟩) ∧ w.heap.size ≤ b1 ∧ w'2.heap[b1]? = some (Obj.cells (arrC g x2).toArray (145 : TypeId))) ∧ Ext w w'2 → bcase (decide ((↑(g / (16 : Nat) ^ x2) : Int) ≥ (16 : Int))) (InR .i64 ((65 : Int) - (↑x2 : Int) - (1 : Int)) ∧ ∃ (k : Nat), IntKind.u64.wrap (↑(BitVec.ofInt IntKind.u64.bits (↑(g / (16 : Nat) ^ x2) : Int) &&& BitVec.ofInt IntKind.u64.bits ((16 : Int) - (1 : Int))).toNat : Int) = (↑k : Int) ∧ k < (ByteArray.mk #[(48 : UInt8), (49 : UInt8), (50 : UInt8), (51 : UInt8), (52 : UInt8), (53 : UInt8), (54 : UInt8), (55 : UInt8), (56 : UInt8), (57 : UInt8), (97 : UInt8), (98 : UInt8), (99 : UInt8), (100 : UInt8), (101 : UInt8), (102 : UInt8), (103 : UInt8), (104 : UInt8), (105 : UInt8), (106 : UInt8), (107 : UInt8), (108 : UInt8), (109 : UInt8), (110 : UInt8),
 (111 : UInt8), (112 : UInt8), (113 : UInt8), (114 : UInt8), (115 : UInt8), (116 : UInt8), (117 : UInt8), (118 : UInt8), (119 : UInt8), (120 : UInt8), (121 : UInt8), (122 : UInt8)]).size ∧ ∃ (k1 : Nat), (65 : Int) - (↑x2 : Int) - (1 : Int) = (↑k1 : Int) ∧ k1 < 65 ∧ true = true ∧ (∃ (old : Value), w'2.cell? ⟨b, (0 : Nat) + k1, none⟩ = some old) ∧ w'2.frozen? ⟨b, (0 : Nat) + k1, none⟩ = false ∧ ∀ (w11 : World), Stored w'2 ⟨b, (0 : Nat) + k1, none⟩ (Value.int IntKind.u8 (↑([(48 : UInt8), (49 : UInt8), (50 : UInt8), (51 : UInt8), (52 : UInt8), (53 : UInt8), (54 : UInt8), (55 : UInt8), (56 : UInt8), (57 : UInt8), (97 : UInt8), (98 : UInt8), (99 : UInt8), (100 : UInt8), (101 : UInt8), (102 : UInt8), (103 : UInt8), (104 : UInt8), (105 : UInt8), (106 : UInt8), (107 : UInt8), (108 : UInt8), (109 : UInt8), (110 : UInt8), (111 : UInt8), (112 : UInt8), (113 : UInt8), (114 : UInt8), (115 : UInt8), (116 : UInt8), (117 : UInt8), (118 : UInt8), (119 : UInt8), (120 : UInt8), (121 : UInt8), (122 : UInt8)].getD k (0 : UInt8)).toNat : Int)) w11 → ∃ (y : Nat), Value.int .i64 ((65 : Int) - (↑x2 : Int) - (1 : Int)) = Value.int .i64 ((65 : Int) - (↑y : Int)) ∧ Value.int .u64 ((↑(g / (16 : Nat) ^ x2) : Int).fdiv ((2 : Int) ^ min (Int.toNat (4 : Int)) IntKind.u64.bits)) = Value.int .u64 (↑(g / (16 : Nat) ^ y) : Int) ∧ (y + 1 ≤ 3 ∧ (∃ (b1 : Nat), Value.pointer (some ⟨b, 0, none⟩) = Value.pointer (some ⟨b1, 0, none⟩) ∧ w.heap.size ≤ b1 ∧ w11.heap[b1]? = some (Obj.cells (arrC g y).toArray (145 : TypeId))) ∧ Ext w w11) ∧ (3 : Nat) - y < 3 - x2) (∃ (c : Unit), Value.int .i64 ((65 : Int) - (↑x2 : Int)) = Value.int .i64 63 ∧ Value.int .u64 (↑(g / (16 : Nat) ^ x2) : Int) = Value.int .u64 (↑(g / (16 : Nat) ^ ((3 : Nat) - (1 : Nat))) : Int) ∧ (∃ (b1 : Nat) (j : Nat), Value.pointer (some ⟨b, 0, none⟩) = Value.pointer (some ⟨b1, 0, none⟩) ∧ w.heap.size ≤ b1 ∧ j + 1 = (3 : Nat) ∧ w'2.heap[b1]? = some (Obj.cells (arrC g j).toArray (145 : TypeId))) ∧ Ext w w'2)) ∧ ∀ (u : Nat → Value) (c : Unit) (w'2 : World), (∃ (b1 : Nat) (j : Nat), Value.pointer (some ⟨b, 0, none⟩) = Value.pointer (some ⟨b1, 0, none⟩) ∧ w.heap.size ≤ b1 ∧ j + 1 = (3 : Nat) ∧ w'2.heap[b1]? = some (Obj.cells (arrC g j).toArray (145 : TypeId))) ∧ Ext w w'2 → InR .i64 ((63 : Int) - (1 : Int)) ∧ ∃ (k : Nat), (↑(g / (16 : Nat) ^ ((3 : Nat) - (1 : Nat))) : Int) = (↑k : Int) ∧ k < (ByteArray.mk #[(48 : UInt8), (49 : UInt8), (50 : UInt8), (51 : UInt8), (52 : UInt8), (53 : UInt8), (54 : UInt8), (55 : UInt8), (56 : UInt8), (57 : UInt8), (97 : UInt8), (98 : UInt8), (99 : UInt8), (100 : UInt8), (101 : UInt8), (102 : UInt8), (103 : UInt8), (104 : UInt8), (105 : UInt8), (106 : UInt8), (107 : UInt8), (108 : UInt8), (109 : UInt8), (110 : UInt8), (111 : UInt8), (112 : UInt8), (113 : UInt8), (114 : UInt8), (115 : UInt8), (116 : UInt8), (117 : UInt8), (118 : UInt8), (119 : UInt8), (120 : UInt8), (121 : UInt8), (122 : UInt8)]).size ∧ ∃ (k1 : Nat), (62 : Int) = (↑k1 : Int) ∧ k1 < 65 ∧ true = true ∧
 (∃ (old : Value), w'2.cell? ⟨b, (0 : Nat) + k1, none⟩ = some old) ∧ w'2.frozen? ⟨b, (0 : Nat) + k1, none⟩ = false ∧ ∀ (w11 : World), Stored w'2 ⟨b, (0 : Nat) + k1, none⟩ (Value.int IntKind.u8 (↑([(48 : UInt8), (49 : UInt8), (50 : UInt8), (51 : UInt8), (52 : UInt8), (53 : UInt8), (54 : UInt8), (55 : UInt8), (56 : UInt8), (57 : UInt8), (97 : UInt8), (98 : UInt8), (99 : UInt8), (100 : UInt8), (101 : UInt8), (102 : UInt8), (103 : UInt8), (104 : UInt8), (105 : UInt8), (106 : UInt8), (107 : UInt8), (108 : UInt8), (109 : UInt8), (110 : UInt8), (111 : UInt8), (112 : UInt8), (113 : UInt8), (114 : UInt8), (115 : UInt8), (116 : UInt8), (117 : UInt8), (118 : UInt8), (119 : UInt8), (120 : UInt8), (121 : UInt8), (122 : UInt8)].getD k (0 : UInt8)).toNat : Int)) w11 → ∃ (str : ByteArray), BytesIn w11 (some ⟨b, 62, none⟩) ((65 : Nat) - ((63 : Int) - (1 : Int)).toNat) str ∧ ∃ (x2 : Unit × ByteArray), Value.tuple #[Value.slice none (0 : Nat) (0 : Nat), Value.string str] = Value.tuple #[Value.slice none (0 : Nat) (0 : Nat), Value.string x2.snd] ∧ x2.snd = strL (numS g (3 : Nat)) ∧ Ext w w11) :
    ((sBitD 3)).Ok Tryd.prog 82 :=
  ok_of_vc (sBitD 3) (annBitD 3 63) spBit (fun _ _ => rfl) (fun _ _ => rfl) hsp Tryd.func82 rfl (n := 5) (fun _ => rfl) (by kernel_rfl) (vcast (by kernel_rfl) h)
set_option maxRecDepth 1000000 in
theorem bit4_vc (hsp : SpecsOk Tryd.prog spBit) (h : ∀ (g : Nat) (w : World), DB w ∧ (16 : Nat) ^ ((4 : Nat) - (1 : Nat)) ≤ g ∧ g < 16 ^ (4 : Nat) → ∀ (b : Nat) (w1 : World), New w (Obj.cells #[Value.int .u8 0, Value.int .u8 0, Value.int .u8 0, Value.int .u8 0, Value.int .u8 0, Value.int .u8 0, Value.int .u8 0, Value.int .u8 0, Value.int .u8 0, Value.int .u8 0, Value.int .u8 0, Value.int .u8 0, Value.int .u8 0, Value.int .u8 0, Value.int .u8 0, Value.int .u8 0, Value.int .u8 0, Value.int .u8 0, Value.int .u8 0, Value.int .u8 0, Value.int .u8 0, Value.int .u8 0, Value.int .u8 0, Value.int .u8 0, Value.int .u8 0, Value.int .u8 0, Value.int .u8 0, Value.int .u8 0, Value.int .u8 0, Value.int .u8 0, Value.int .u8 0, Value.int .u8 0, Value.int .u8 0, Value.int .u8 0, Value.int .u8 0, Value.int .u8 0, Value.int .u8 0, Value.int .u8 0, Value.int .u8 0, Value.int .u8 0, Value.int .u8 0, Value.int .u8 0, Value.int .u8 0, Value.int .u8 0, Value.int .u8 0, Value.int .u8 0, Value.int .u8 0, Value.int .u8 0, Value.int .u8 0, Value.int .u8 0, Value.int .u8 0, Value.int .u8 0, Value.int .u8 0, Value.int .u8 0, Value.int .u8 0, Value.int .u8 0, Value.int .u8 0, Value.int .u8 0, Value.int .u8 0, Value.int .u8 0, Value.int .u8 0, Value.int .u8 0, Value.int .u8 0, Value.int .u8 0, Value.int .u8 0] (145 : Nat)) b w1 → ∃ (g1 : Unit), #[Value.int .i64 16] = #[Value.int .i64 16] ∧ True ∧ ∀ (x : Unit) (w' : World), w' = w1 → InR .u64 (16 : Int) ∧ ∃ (g2 : Unit), #[Value.int .u64 16] = #[Value.int .u64 16] ∧ DB w' ∧ ∀ (x1 : Unit) (w'1 : World), w'1 = w' → InR .u64 (4 : Int) ∧ InR .u64 (16 : Int) ∧ InR .u64 (16 : Int) ∧ InR .u64 ((16 : Int) - (1 : Int)) ∧ ((∃ (x2 : Nat), Value.int .i64 65 = Value.int .i64 ((65 : Int) - (↑x2 : Int)) ∧ Value.int .u64 (↑g : Int) = Value.int .u64 (↑(g / (16 : Nat) ^ x2) : Int) ∧ x2 + 1 ≤ 4 ∧ (∃ (b1 : Nat), Value.pointer (some ⟨b, 0, none⟩) = Value.pointer (some ⟨b1, 0, none⟩) ∧ w.heap.size ≤ b1 ∧ w'1.heap[b1]? = some (Obj.cells (arrC g x2).toArray (145 : TypeId))) ∧ Ext w w'1) ∧ ∀ (u : Nat → Value) (x2 : Nat) (w'2 : World), x2 + 1 ≤ 4 ∧ (∃ (b1 : Nat), Value.pointer (some ⟨b, 0, none⟩) = Value.pointer (some ⟨b1, 0, none⟩) ∧ w.heap.size ≤ b1 ∧ w'2.heap[b1]? = some (Obj.cells (arrC g x2).toArray (145 : TypeId))) ∧ Ext w w'2 → bcase (decide ((↑(g / (16 : Nat) ^ x2) : Int) ≥ (16 : Int))) (InR .i64 ((65 : Int) - (↑x2 : Int) - (1 : Int)) ∧ ∃ (k : Nat), IntKind.u64.wrap (↑(BitVec.ofInt IntKind.u64.bits (↑(g / (16 : Nat) ^ x2) : Int) &&& BitVec.ofInt IntKind.u64.bits ((16 : Int) - (1 : Int))).toNat : Int) = (↑k : Int) ∧ k < (ByteArray.mk #[(48 : UInt8), (49 : UInt8), (50 : UInt8), (51 : UInt8), (52 : UInt8), (53 : UInt8), (54 : UInt8), (55 : UInt8), (56 : UInt8), (57 : UInt8), (97 : UInt8), (98 : UInt8), (99 : UInt8), (100 : UInt8), (101 : UInt8), (102 : UInt8), (103 : UInt8), (104 : UInt8), (105 : UInt8), (106 : UInt8), (107 : UInt8), (108 : UInt8), (109 : UInt8), (110 : UInt8),
 (111 : UInt8), (112 : UInt8), (113 : UInt8), (114 : UInt8), (115 : UInt8), (116 : UInt8), (117 : UInt8), (118 : UInt8), (119 : UInt8), (120 : UInt8), (121 : UInt8), (122 : UInt8)]).size ∧ ∃ (k1 : Nat), (65 : Int) - (↑x2 : Int) - (1 : Int) = (↑k1 : Int) ∧ k1 < 65 ∧ true = true ∧ (∃ (old : Value), w'2.cell? ⟨b, (0 : Nat) + k1, none⟩ = some old) ∧ w'2.frozen? ⟨b, (0 : Nat) + k1, none⟩ = false ∧ ∀ (w11 : World), Stored w'2 ⟨b, (0 : Nat) + k1, none⟩ (Value.int IntKind.u8 (↑([(48 : UInt8), (49 : UInt8), (50 : UInt8), (51 : UInt8), (52 : UInt8), (53 : UInt8), (54 : UInt8), (55 : UInt8), (56 : UInt8), (57 : UInt8), (97 : UInt8), (98 : UInt8), (99 : UInt8), (100 : UInt8), (101 : UInt8), (102 : UInt8), (103 : UInt8), (104 : UInt8), (105 : UInt8), (106 : UInt8), (107 : UInt8), (108 : UInt8), (109 : UInt8), (110 : UInt8), (111 : UInt8), (112 : UInt8), (113 : UInt8), (114 : UInt8), (115 : UInt8), (116 : UInt8), (117 : UInt8), (118 : UInt8), (119 : UInt8), (120 : UInt8), (121 : UInt8), (122 : UInt8)].getD k (0 : UInt8)).toNat : Int)) w11 → ∃ (y : Nat), Value.int .i64 ((65 : Int) - (↑x2 : Int) - (1 : Int)) = Value.int .i64 ((65 : Int) - (↑y : Int)) ∧ Value.int .u64 ((↑(g / (16 : Nat) ^ x2) : Int).fdiv ((2 : Int) ^ min (Int.toNat (4 : Int)) IntKind.u64.bits)) = Value.int .u64 (↑(g / (16 : Nat) ^ y) : Int) ∧ (y + 1 ≤ 4 ∧ (∃ (b1 : Nat), Value.pointer (some ⟨b, 0, none⟩) = Value.pointer (some ⟨b1, 0, none⟩) ∧ w.heap.size ≤ b1 ∧ w11.heap[b1]? = some (Obj.cells (arrC g y).toArray (145 : TypeId))) ∧ Ext w w11) ∧ (4 : Nat) - y < 4 - x2) (∃ (c : Unit), Value.int .i64 ((65 : Int) - (↑x2 : Int)) = Value.int .i64 62 ∧ Value.int .u64 (↑(g / (16 : Nat) ^ x2) : Int) = Value.int .u64 (↑(g / (16 : Nat) ^ ((4 : Nat) - (1 : Nat))) : Int) ∧ (∃ (b1 : Nat) (j : Nat), Value.pointer (some ⟨b, 0, none⟩) = Value.pointer (some ⟨b1, 0, none⟩) ∧ w.heap.size ≤ b1 ∧ j + 1 = (4 : Nat) ∧ w'2.heap[b1]? = some (Obj.cells (arrC g j).toArray (145 : TypeId))) ∧ Ext w w'2)) ∧ ∀ (u : Nat → Value) (c : Unit) (w'2 : World), (∃ (b1 : Nat) (j : Nat), Value.pointer (some ⟨b, 0, none⟩) = Value.pointer (some ⟨b1, 0, none⟩) ∧ w.heap.size ≤ b1 ∧ j + 1 = (4 : Nat) ∧ w'2.heap[b1]? = some (Obj.cells (arrC g j).toArray (145 : TypeId))) ∧ Ext w w'2 → InR .i64 ((62 : Int) - (1 : Int)) ∧ ∃ (k : Nat), (↑(g / (16 : Nat) ^ ((4 : Nat) - (1 : Nat))) : Int) = (↑k : Int) ∧ k < (ByteArray.mk #[(48 : UInt8), (49 : UInt8), (50 : UInt8), (51 : UInt8), (52 : UInt8), (53 : UInt8), (54 : UInt8), (55 : UInt8), (56 : UInt8), (57 : UInt8), (97 : UInt8), (98 : UInt8), (99 : UInt8), (100 : UInt8), (101 : UInt8), (102 : UInt8), (103 : UInt8), (104 : UInt8), (105 : UInt8), (106 : UInt8), (107 : UInt8), (108 : UInt8), (109 : UInt8), (110 : UInt8), (111 : UInt8), (112 : UInt8), (113 : UInt8), (114 : UInt8), (115 : UInt8), (116 : UInt8), (117 : UInt8), (118 : UInt8), (119 : UInt8), (120 : UInt8), (121 : UInt8), (122 : UInt8)]).size ∧ ∃ (k1 : Nat), (61 : Int) = (↑k1 : Int) ∧ k1 < 65 ∧ true = true ∧
 (∃ (old : Value), w'2.cell? ⟨b, (0 : Nat) + k1, none⟩ = some old) ∧ w'2.frozen? ⟨b, (0 : Nat) + k1, none⟩ = false ∧ ∀ (w11 : World), Stored w'2 ⟨b, (0 : Nat) + k1, none⟩ (Value.int IntKind.u8 (↑([(48 : UInt8), (49 : UInt8), (50 : UInt8), (51 : UInt8), (52 : UInt8), (53 : UInt8), (54 : UInt8), (55 : UInt8), (56 : UInt8), (57 : UInt8), (97 : UInt8), (98 : UInt8), (99 : UInt8), (100 : UInt8), (101 : UInt8), (102 : UInt8), (103 : UInt8), (104 : UInt8), (105 : UInt8), (106 : UInt8), (107 : UInt8), (108 : UInt8), (109 : UInt8), (110 : UInt8), (111 : UInt8), (112 : UInt8), (113 : UInt8), (114 : UInt8), (115 : UInt8), (116 : UInt8), (117 : UInt8), (118 : UInt8), (119 : UInt8), (120 : UInt8), (121 : UInt8), (122 : UInt8)].getD k (0 : UInt8)).toNat : Int)) w11 → ∃ (str : ByteArray), BytesIn w11 (some ⟨b, 61, none⟩) ((65 : Nat) - ((62 : Int) - (1 : Int)).toNat) str ∧ ∃ (x2 : Unit × ByteArray), Value.tuple #[Value.slice none (0 : Nat) (0 : Nat), Value.string str] = Value.tuple #[Value.slice none (0 : Nat) (0 : Nat), Value.string x2.snd] ∧ x2.snd = strL (numS g (4 : Nat)) ∧ Ext w w11) :
    ((sBitD 4)).Ok Tryd.prog 82 :=
  ok_of_vc (sBitD 4) (annBitD 4 62) spBit (fun _ _ => rfl) (fun _ _ => rfl) hsp Tryd.func82 rfl (n := 5) (fun _ => rfl) (by kernel_rfl) (vcast (by kernel_rfl) h)
set_option maxRecDepth 1000000 in
theorem bit5_vc (hsp : SpecsOk Tryd.prog spBit) (h : ∀ (g : Nat) (w : World), DB w ∧ (16 : Nat) ^ ((5 : Nat) - (1 : Nat)) ≤ g ∧ g < 16 ^ (5 : Nat) → ∀ (b : Nat) (w1 : World), New w (Obj.cells #[Value.int .u8 0, Value.int .u8 0, Value.int .u8 0, Value.int .u8 0, Value.int .u8 0, Value.int .u8 0, Value.int .u8 0, Value.int .u8 0, Value.int .u8 0, Value.int .u8 0, Value.int .u8 0, Value.int .u8 0, Value.int .u8 0, Value.int .u8 0, Value.int .u8 0, Value.int .u8 0, Value.int .u8 0, Value.int .u8 0, Value.int .u8 0, Value.int .u8 0, Value.int .u8 0, Value.int .u8 0, Value.int .u8 0, Value.int .u8 0, Value.int .u8 0, Value.int .u8 0, Value.int .u8 0, Value.int .u8 0, Value.int .u8 0, Value.int .u8 0, Value.int .u8 0, Value.int .u8 0, Value.int .u8 0, Value.int .u8 0, Value.int .u8 0, Value.int .u8 0, Value.int .u8 0, Value.int .u8 0, Value.int .u8 0, Value.int .u8 0, Value.int .u8 0, Value.int .u8 0, Value.int .u8 0, Value.int .u8 0, Value.int .u8 0, Value.int .u8 0, Value.int .u8 0, Value.int .u8 0, Value.int .u8 0, Value.int .u8 0, Value.int .u8 0, Value.int .u8 0, Value.int .u8 0, Value.int .u8 0, Value.int .u8 0, Value.int .u8 0, Value.int .u8 0, Value.int .u8 0, Value.int .u8 0, Value.int .u8 0, Value.int .u8 0, Value.int .u8 0, Value.int .u8 0, Value.int .u8 0, Value.int .u8 0] (145 : Nat)) b w1 → ∃ (g1 : Unit), #[Value.int .i64 16] = #[Value.int .i64 16] ∧ True ∧ ∀ (x : Unit) (w' : World), w' = w1 → InR .u64 (16 : Int) ∧ ∃ (g2 : Unit), #[Value.int .u64 16] = #[Value.int .u64 16] ∧ DB w' ∧ ∀ (x1 : Unit) (w'1 : World), w'1 = w' → InR .u64 (4 : Int) ∧ InR .u64 (16 : Int) ∧ InR .u64 (16 : Int) ∧ InR .u64 ((16 : Int) - (1 : Int)) ∧ ((∃ (x2 : Nat), Value.int .i64 65 = Value.int .i64 ((65 : Int) - (↑x2 : Int)) ∧ Value.int .u64 (↑g : Int) = Value.int .u64 (↑(g / (16 : Nat) ^ x2) : Int) ∧ x2 + 1 ≤ 5 ∧ (∃ (b1 : Nat), Value.pointer (some ⟨b, 0, none⟩) = Value.pointer (some ⟨b1, 0, none⟩) ∧ w.heap.size ≤ b1 ∧ w'1.heap[b1]? = some (Obj.cells (arrC g x2).toArray (145 : TypeId))) ∧ Ext w w'1) ∧ ∀ (u : Nat → Value) (x2 : Nat) (w'2 : World), x2 + 1 ≤ 5 ∧ (∃ (b1 : Nat), Value.pointer (some ⟨b, 0, none⟩) = Value.pointer (some ⟨b1, 0, none⟩) ∧ w.heap.size ≤ b1 ∧ w'2.heap[b1]? = some (Obj.cells (arrC g x2).toArray (145 : TypeId))) ∧ Ext w w'2 → bcase (decide ((↑(g / (16 : Nat) ^ x2) : Int) ≥ (16 : Int))) (InR .i64 ((65 : Int) - (↑x2 : Int) - (1 : Int)) ∧ ∃ (k : Nat), IntKind.u64.wrap (↑(BitVec.ofInt IntKind.u64.bits (↑(g / (16 : Nat) ^ x2) : Int) &&& BitVec.ofInt IntKind.u64.bits ((16 : Int) - (1 : Int))).toNat : Int) = (↑k : Int) ∧ k < (ByteArray.mk #[(48 : UInt8), (49 : UInt8), (50 : UInt8), (51 : UInt8), (52 : UInt8), (53 : UInt8), (54 : UInt8), (55 : UInt8), (56 : UInt8), (57 : UInt8), (97 : UInt8), (98 : UInt8), (99 : UInt8), (100 : UInt8), (101 : UInt8), (102 : UInt8), (103 : UInt8), (104 : UInt8), (105 : UInt8), (106 : UInt8), (107 : UInt8), (108 : UInt8), (109 : UInt8), (110 : UInt8),
 (111 : UInt8), (112 : UInt8), (113 : UInt8), (114 : UInt8), (115 : UInt8), (116 : UInt8), (117 : UInt8), (118 : UInt8), (119 : UInt8), (120 : UInt8), (121 : UInt8), (122 : UInt8)]).size ∧ ∃ (k1 : Nat), (65 : Int) - (↑x2 : Int) - (1 : Int) = (↑k1 : Int) ∧ k1 < 65 ∧ true = true ∧ (∃ (old : Value), w'2.cell? ⟨b, (0 : Nat) + k1, none⟩ = some old) ∧ w'2.frozen? ⟨b, (0 : Nat) + k1, none⟩ = false ∧ ∀ (w11 : World), Stored w'2 ⟨b, (0 : Nat) + k1, none⟩ (Value.int IntKind.u8 (↑([(48 : UInt8), (49 : UInt8), (50 : UInt8), (51 : UInt8), (52 : UInt8), (53 : UInt8), (54 : UInt8), (55 : UInt8), (56 : UInt8), (57 : UInt8), (97 : UInt8), (98 : UInt8), (99 : UInt8), (100 : UInt8), (101 : UInt8), (102 : UInt8), (103 : UInt8), (104 : UInt8), (105 : UInt8), (106 : UInt8), (107 : UInt8), (108 : UInt8), (109 : UInt8), (110 : UInt8), (111 : UInt8), (112 : UInt8), (113 : UInt8), (114 : UInt8), (115 : UInt8), (116 : UInt8), (117 : UInt8), (118 : UInt8), (119 : UInt8), (120 : UInt8), (121 : UInt8), (122 : UInt8)].getD k (0 : UInt8)).toNat : Int)) w11 → ∃ (y : Nat), Value.int .i64 ((65 : Int) - (↑x2 : Int) - (1 : Int)) = Value.int .i64 ((65 : Int) - (↑y : Int)) ∧ Value.int .u64 ((↑(g / (16 : Nat) ^ x2) : Int).fdiv ((2 : Int) ^ min (Int.toNat (4 : Int)) IntKind.u64.bits)) = Value.int .u64 (↑(g / (16 : Nat) ^ y) : Int) ∧ (y + 1 ≤ 5 ∧ (∃ (b1 : Nat), Value.pointer (some ⟨b, 0, none⟩) = Value.pointer (some ⟨b1, 0, none⟩) ∧ w.heap.size ≤ b1 ∧ w11.heap[b1]? = some (Obj.cells (arrC g y).toArray (145 : TypeId))) ∧ Ext w w11) ∧ (5 : Nat) - y < 5 - x2) (∃ (c : Unit), Value.int .i64 ((65 : Int) - (↑x2 : Int)) = Value.int .i64 61 ∧ Value.int .u64 (↑(g / (16 : Nat) ^ x2) : Int) = Value.int .u64 (↑(g / (16 : Nat) ^ ((5 : Nat) - (1 : Nat))) : Int) ∧ (∃ (b1 : Nat) (j : Nat), Value.pointer (some ⟨b, 0, none⟩) = Value.pointer (some ⟨b1, 0, none⟩) ∧ w.heap.size ≤ b1 ∧ j + 1 = (5 : Nat) ∧ w'2.heap[b1]? = some (Obj.cells (arrC g j).toArray (145 : TypeId))) ∧ Ext w w'2)) ∧ ∀ (u : Nat → Value) (c : Unit) (w'2 : World), (∃ (b1 : Nat) (j : Nat), Value.pointer (some ⟨b, 0, none⟩) = Value.pointer (some ⟨b1, 0, none⟩) ∧ w.heap.size ≤ b1 ∧ j + 1 = (5 : Nat) ∧ w'2.heap[b1]? = some (Obj.cells (arrC g j).toArray (145 : TypeId))) ∧ Ext w w'2 → InR .i64 ((61 : Int) - (1 : Int)) ∧ ∃ (k : Nat), (↑(g / (16 : Nat) ^ ((5 : Nat) - (1 : Nat))) : Int) = (↑k : Int) ∧ k < (ByteArray.mk #[(48 : UInt8), (49 : UInt8), (50 : UInt8), (51 : UInt8), (52 : UInt8), (53 : UInt8), (54 : UInt8), (55 : UInt8), (56 : UInt8), (57 : UInt8), (97 : UInt8), (98 : UInt8), (99 : UInt8), (100 : UInt8), (101 : UInt8), (102 : UInt8), (103 : UInt8), (104 : UInt8), (105 : UInt8), (106 : UInt8), (107 : UInt8), (108 : UInt8), (109 : UInt8), (110 : UInt8), (111 : UInt8), (112 : UInt8), (113 : UInt8), (114 : UInt8), (115 : UInt8), (116 : UInt8), (117 : UInt8), (118 : UInt8), (119 : UInt8), (120 : UInt8), (121 : UInt8), (122 : UInt8)]).size ∧ ∃ (k1 : Nat), (60 : Int) = (↑k1 : Int) ∧ k1 < 65 ∧ true = true ∧
 (∃ (old : Value), w'2.cell? ⟨b, (0 : Nat) + k1, none⟩ = some old) ∧ w'2.frozen? ⟨b, (0 : Nat) + k1, none⟩ = false ∧ ∀ (w11 : World), Stored w'2 ⟨b, (0 : Nat) + k1, none⟩ (Value.int IntKind.u8 (↑([(48 : UInt8), (49 : UInt8), (50 : UInt8), (51 : UInt8), (52 : UInt8), (53 : UInt8), (54 : UInt8), (55 : UInt8), (56 : UInt8), (57 : UInt8), (97 : UInt8), (98 : UInt8), (99 : UInt8), (100 : UInt8), (101 : UInt8), (102 : UInt8), (103 : UInt8), (104 : UInt8), (105 : UInt8), (106 : UInt8), (107 : UInt8), (108 : UInt8), (109 : UInt8), (110 : UInt8), (111 : UInt8), (112 : UInt8), (113 : UInt8), (114 : UInt8), (115 : UInt8), (116 : UInt8), (117 : UInt8), (118 : UInt8), (119 : UInt8), (120 : UInt8), (121 : UInt8), (122 : UInt8)].getD k (0 : UInt8)).toNat : Int)) w11 → ∃ (str : ByteArray), BytesIn w11 (some ⟨b, 60, none⟩) ((65 : Nat) - ((61 : Int) - (1 : Int)).toNat) str ∧ ∃ (x2 : Unit × ByteArray), Value.tuple #[Value.slice none (0 : Nat) (0 : Nat), Value.string str] = Value.tuple #[Value.slice none (0 : Nat) (0 : Nat), Value.string x2.snd] ∧ x2.snd = strL (numS g (5 : Nat)) ∧ Ext w w11) :
    ((sBitD 5)).Ok Tryd.prog 82 :=
  ok_of_vc (sBitD 5) (annBitD 5 61) spBit (fun _ _ => rfl) (fun _ _ => rfl) hsp Tryd.func82 rfl (n := 5) (fun _ => rfl) (by kernel_rfl) (vcast (by kernel_rfl) h)
set_option maxRecDepth 1000000 in
theorem bit6_vc (hsp : SpecsOk Tryd.prog spBit) (h : ∀ (g : Nat) (w : World), DB w ∧ (16 : Nat) ^ ((6 : Nat) - (1 : Nat)) ≤ g ∧ g < 16 ^ (6 : Nat) → ∀ (b : Nat) (w1 : World), New w (Obj.cells #[Value.int .u8 0, Value.int .u8 0, Value.int .u8 0, Value.int .u8 0, Value.int .u8 0, Value.int .u8 0, Value.int .u8 0, Value.int .u8 0, Value.int .u8 0, Value.int .u8 0, Value.int .u8 0, Value.int .u8 0, Value.int .u8 0, Value.int .u8 0, Value.int .u8 0, Value.int .u8 0, Value.int .u8 0, Value.int .u8 0, Value.int .u8 0, Value.int .u8 0, Value.int .u8 0, Value.int .u8 0, Value.int .u8 0, Value.int .u8 0, Value.int .u8 0, Value.int .u8 0, Value.int .u8 0, Value.int .u8 0, Value.int .u8 0, Value.int .u8 0, Value.int .u8 0, Value.int .u8 0, Value.int .u8 0, Value.int .u8 0, Value.int .u8 0, Value.int .u8 0, Value.int .u8 0, Value.int .u8 0, Value.int .u8 0, Value.int .u8 0, Value.int .u8 0, Value.int .u8 0, Value.int .u8 0, Value.int .u8 0, Value.int .u8 0, Value.int .u8 0, Value.int .u8 0, Value.int .u8 0, Value.int .u8 0, Value.int .u8 0, Value.int .u8 0, Value.int .u8 0, Value.int .u8 0, Value.int .u8 0, Value.int .u8 0, Value.int .u8 0, Value.int .u8 0, Value.int .u8 0, Value.int .u8 0, Value.int .u8 0, Value.int .u8 0, Value.int .u8 0, Value.int .u8 0, Value.int .u8 0, Value.int .u8 0] (145 : Nat)) b w1 → ∃ (g1 : Unit), #[Value.int .i64 16] = #[Value.int .i64 16] ∧ True ∧ ∀ (x : Unit) (w' : World), w' = w1 → InR .u64 (16 : Int) ∧ ∃ (g2 : Unit), #[Value.int .u64 16] = #[Value.int .u64 16] ∧ DB w' ∧ ∀ (x1 : Unit) (w'1 : World), w'1 = w' → InR .u64 (4 : Int) ∧ InR .u64 (16 : Int) ∧ InR .u64 (16 : Int) ∧ InR .u64 ((16 : Int) - (1 : Int)) ∧ ((∃ (x2 : Nat), Value.int .i64 65 = Value.int .i64 ((65 : Int) - (↑x2 : Int)) ∧ Value.int .u64 (↑g : Int) = Value.int .u64 (↑(g / (16 : Nat) ^ x2) : Int) ∧ x2 + 1 ≤ 6 ∧ (∃ (b1 : Nat), Value.pointer (some ⟨b, 0, none⟩) = Value.pointer (some ⟨b1, 0, none⟩) ∧ w.heap.size ≤ b1 ∧ w'1.heap[b1]? = some (Obj.cells (arrC g x2).toArray (145 : TypeId))) ∧ Ext w w'1) ∧ ∀ (u : Nat → Value) (x2 : Nat) (w'2 : World), x2 + 1 ≤ 6 ∧ (∃ (b1 : Nat), Value.pointer (some ⟨b, 0, none⟩) = Value.pointer (some ⟨b1, 0, none⟩) ∧ w.heap.size ≤ b1 ∧ w'2.heap[b1]? = some (Obj.cells (arrC g x2).toArray (145 : TypeId))) ∧ Ext w w'2 → bcase (decide ((↑(g / (16 : Nat) ^ x2) : Int) ≥ (16 : Int))) (InR .i64 ((65 : Int) - (↑x2 : Int) - (1 : Int)) ∧ ∃ (k : Nat), IntKind.u64.wrap (↑(BitVec.ofInt IntKind.u64.bits (↑(g / (16 : Nat) ^ x2) : Int) &&& BitVec.ofInt IntKind.u64.bits ((16 : Int) - (1 : Int))).toNat : Int) = (↑k : Int) ∧ k < (ByteArray.mk #[(48 : UInt8), (49 : UInt8), (50 : UInt8), (51 : UInt8), (52 : UInt8), (53 : UInt8), (54 : UInt8), (55 : UInt8), (56 : UInt8), (57 : UInt8), (97 : UInt8), (98 : UInt8), (99 : UInt8), (100 : UInt8), (101 : UInt8), (102 : UInt8), (103 : UInt8), (104 : UInt8), (105 : UInt8), (106 : UInt8), (107 : UInt8), (108 : UInt8), (109 : UInt8), (110 : UInt8),
 (111 : UInt8), (112 : UInt8), (113 : UInt8), (114 : UInt8), (115 : UInt8), (116 : UInt8), (117 : UInt8), (118 : UInt8), (119 : UInt8), (120 : UInt8), (121 : UInt8), (122 : UInt8)]).size ∧ ∃ (k1 : Nat), (65 : Int) - (↑x2 : Int) - (1 : Int) = (↑k1 : Int) ∧ k1 < 65 ∧ true = true ∧ (∃ (old : Value), w'2.cell? ⟨b, (0 : Nat) + k1, none⟩ = some old) ∧ w'2.frozen? ⟨b, (0 : Nat) + k1, none⟩ = false ∧ ∀ (w11 : World), Stored w'2 ⟨b, (0 : Nat) + k1, none⟩ (Value.int IntKind.u8 (↑([(48 : UInt8), (49 : UInt8), (50 : UInt8), (51 : UInt8), (52 : UInt8), (53 : UInt8), (54 : UInt8), (55 : UInt8), (56 : UInt8), (57 : UInt8), (97 : UInt8), (98 : UInt8), (99 : UInt8), (100 : UInt8), (101 : UInt8), (102 : UInt8), (103 : UInt8), (104 : UInt8), (105 : UInt8), (106 : UInt8), (107 : UInt8), (108 : UInt8), (109 : UInt8), (110 : UInt8), (111 : UInt8), (112 : UInt8), (113 : UInt8), (114 : UInt8), (115 : UInt8), (116 : UInt8), (117 : UInt8), (118 : UInt8), (119 : UInt8), (120 : UInt8), (121 : UInt8), (122 : UInt8)].getD k (0 : UInt8)).toNat : Int)) w11 → ∃ (y : Nat), Value.int .i64 ((65 : Int) - (↑x2 : Int) - (1 : Int)) = Value.int .i64 ((65 : Int) - (↑y : Int)) ∧ Value.int .u64 ((↑(g / (16 : Nat) ^ x2) : Int).fdiv ((2 : Int) ^ min (Int.toNat (4 : Int)) IntKind.u64.bits)) = Value.int .u64 (↑(g / (16 : Nat) ^ y) : Int) ∧ (y + 1 ≤ 6 ∧ (∃ (b1 : Nat), Value.pointer (some ⟨b, 0, none⟩) = Value.pointer (some ⟨b1, 0, none⟩) ∧ w.heap.size ≤ b1 ∧ w11.heap[b1]? = some (Obj.cells (arrC g y).toArray (145 : TypeId))) ∧ Ext w w11) ∧ (6 : Nat) - y < 6 - x2) (∃ (c : Unit), Value.int .i64 ((65 : Int) - (↑x2 : Int)) = Value.int .i64 60 ∧ Value.int .u64 (↑(g / (16 : Nat) ^ x2) : Int) = Value.int .u64 (↑(g / (16 : Nat) ^ ((6 : Nat) - (1 : Nat))) : Int) ∧ (∃ (b1 : Nat) (j : Nat), Value.pointer (some ⟨b, 0, none⟩) = Value.pointer (some ⟨b1, 0, none⟩) ∧ w.heap.size ≤ b1 ∧ j + 1 = (6 : Nat) ∧ w'2.heap[b1]? = some (Obj.cells (arrC g j).toArray (145 : TypeId))) ∧ Ext w w'2)) ∧ ∀ (u : Nat → Value) (c : Unit) (w'2 : World), (∃ (b1 : Nat) (j : Nat), Value.pointer (some ⟨b, 0, none⟩) = Value.pointer (some ⟨b1, 0, none⟩) ∧ w.heap.size ≤ b1 ∧ j + 1 = (6 : Nat) ∧ w'2.heap[b1]? = some (Obj.cells (arrC g j).toArray (145 : TypeId))) ∧ Ext w w'2 → InR .i64 ((60 : Int) - (1 : Int)) ∧ ∃ (k : Nat), (↑(g / (16 : Nat) ^ ((6 : Nat) - (1 : Nat))) : Int) = (↑k : Int) ∧ k < (ByteArray.mk #[(48 : UInt8), (49 : UInt8), (50 : UInt8), (51 : UInt8), (52 : UInt8), (53 : UInt8), (54 : UInt8), (55 : UInt8), (56 : UInt8), (57 : UInt8), (97 : UInt8), (98 : UInt8), (99 : UInt8), (100 : UInt8), (101 : UInt8), (102 : UInt8), (103 : UInt8), (104 : UInt8), (105 : UInt8), (106 : UInt8), (107 : UInt8), (108 : UInt8), (109 : UInt8), (110 : UInt8), (111 : UInt8), (112 : UInt8), (113 : UInt8), (114 : UInt8), (115 : UInt8), (116 : UInt8), (117 : UInt8), (118 : UInt8), (119 : UInt8), (120 : UInt8), (121 : UInt8), (122 : UInt8)]).size ∧ ∃ (k1 : Nat), (59 : Int) = (↑k1 : Int) ∧ k1 < 65 ∧ true = true ∧
 (∃ (old : Value), w'2.cell? ⟨b, (0 : Nat) + k1, none⟩ = some old) ∧ w'2.frozen? ⟨b, (0 : Nat) + k1, none⟩ = false ∧ ∀ (w11 : World), Stored w'2 ⟨b, (0 : Nat) + k1, none⟩ (Value.int IntKind.u8 (↑([(48 : UInt8), (49 : UInt8), (50 : UInt8), (51 : UInt8), (52 : UInt8), (53 : UInt8), (54 : UInt8), (55 : UInt8), (56 : UInt8), (57 : UInt8), (97 : UInt8), (98 : UInt8), (99 : UInt8), (100 : UInt8), (101 : UInt8), (102 : UInt8), (103 : UInt8), (104 : UInt8), (105 : UInt8), (106 : UInt8), (107 : UInt8), (108 : UInt8), (109 : UInt8), (110 : UInt8), (111 : UInt8), (112 : UInt8), (113 : UInt8), (114 : UInt8), (115 : UInt8), (116 : UInt8), (117 : UInt8), (118 : UInt8), (119 : UInt8), (120 : UInt8), (121 : UInt8), (122 : UInt8)].getD k (0 : UInt8)).toNat : Int)) w11 → ∃ (str : ByteArray), BytesIn w11 (some ⟨b, 59, none⟩) ((65 : Nat) - ((60 : Int) - (1 : Int)).toNat) str ∧ ∃ (x2 : Unit × ByteArray), Value.tuple #[Value.slice none (0 : Nat) (0 : Nat), Value.string str] = Value.tuple #[Value.slice none (0 : Nat) (0 : Nat), Value.string x2.snd] ∧ x2.snd = strL (numS g (6 : Nat)) ∧ Ext w w11) :
    ((sBitD 6)).Ok Tryd.prog 82 :=
  ok_of_vc (sBitD 6) (annBitD 6 60) spBit (fun _ _ => rfl) (fun _ _ => rfl) hsp Tryd.func82 rfl (n := 5) (fun _ => rfl) (by kernel_rfl) (vcast (by kernel_rfl) h)
set_option maxRecDepth 1000000 in
theorem fmtI_vc (hsp : SpecsOk Tryd.prog spFmtI) (h : ∀ (g : Nat) (w : World), DB w ∧ (16 : Nat) ≤ g ∧ g < 16777216 → InR .u64 (↑g : Int) ∧ ∃ (g1 : Nat), #[Value.slice none (0 : Nat) (0 : Nat), Value.int .u64 (↑g : Int), Value.int .i64 16, Value.bool false, Value.bool false] = #[Value.slice none (0 : Nat) (0 : Nat), Value.int .u64 (↑g1 : Int), Value.int .i64 16, Value.bool false, Value.bool false] ∧ (DB w ∧ (16 : Nat) ≤ g1 ∧ g1 < 16777216) ∧ ∀ (x : Unit × ByteArray) (w' : World), x.snd = strL (numS g1 (digN g1)) ∧ Ext w w' → ∃ (x1 : ByteArray), Value.string x.snd = Value.string x1 ∧ x1 = strL (numS g (digN g)) ∧ Ext w w') :
    (sFmtI).Ok Tryd.prog 88 :=
  ok_of_vc sFmtI (annOf spFmtI) spFmtI (fun _ _ => rfl) (fun _ _ => rfl) hsp Tryd.func88 rfl (n := 2) (fun _ => rfl) (by kernel_rfl) (vcast (by kernel_rfl) h)
set_option maxRecDepth 1000000 in
theorem fmt_vc (hsp : SpecsOk Tryd.prog spFmt) (h : ∀ (g : Nat) (w : World), DB w ∧ (16 : Nat) ≤ g ∧ g < 16777216 → ∃ (g1 : Nat), #[Value.int .i64 (↑g : Int), Value.int .i64 16] = #[Value.int .i64 (↑g1 : Int), Value.int .i64 16] ∧ (DB w ∧ (16 : Nat) ≤ g1 ∧ g1 < 16777216) ∧ ∀ (x : ByteArray) (w' : World), x = strL (numS g1 (digN g1)) ∧ Ext w w' → ∃ (x1 : ByteArray), Value.string x = Value.string x1 ∧ x1 = strL (numS g (digN g)) ∧ Ext w w') :
    (sFmtI).Ok Tryd.prog 77 :=
  ok_of_vc sFmtI (annOf spFmt) spFmt (fun _ _ => rfl) (fun _ _ => rfl) hsp Tryd.func77 rfl (n := 2) (fun _ => rfl) (by kernel_rfl) (vcast (by kernel_rfl) h)
set_option maxRecDepth 1000000 in
theorem named_vc (hsp : SpecsOk Tryd.prog spNamed) (h : ∀ (g : Nat) (w : World), DB w ∧ (16 : Nat) ≤ g ∧ g ≤ 1114111 → InR .i64 (↑g : Int) ∧ ∃ (g1 : Nat), #[Value.int .i64 (↑g : Int), Value.int .i64 16] = #[Value.int .i64 (↑g1 : Int), Value.int .i64 16] ∧ (DB w ∧ (16 : Nat) ≤ g1 ∧ g1 < 16777216) ∧ ∀ (x : ByteArray) (w' : World), x = strL (numS g1 (digN g1)) ∧ Ext w w' → (∃ (x1 : Nat), Value.string x = Value.string (strL (numS g x1)) ∧ digN g ≤ x1 ∧ x1 ≤ numJ g ∧ w' = w') ∧ ∀ (u : Nat → Value) (x1 : Nat) (w'1 : World), digN g ≤ x1 ∧ x1 ≤ numJ g ∧ w'1 = w' → bcase (decide ((↑(strL (numS g x1)).size : Int) < (4 : Int))) ((ByteArray.mk #[(48 : UInt8)]).size + (strL (numS g x1)).size ≤ 9223372036854775807 ∧ ∃ (y : Nat), Value.string ((ByteArray.mk #[(48 : UInt8)]) ++ strL (numS g x1)) = Value.string (strL (numS g y)) ∧ (digN g ≤ y ∧ y ≤ numJ g ∧ w'1 = w') ∧ (4 : Nat) - y < 4 - x1) ((ByteArray.mk #[(60 : UInt8)]).size + (strL (numS g x1)).size ≤ 9223372036854775807 ∧ ((ByteArray.mk #[(60 : UInt8)]) ++ strL (numS g x1)).size + (ByteArray.mk #[(62 : UInt8)]).size ≤ (9223372036854775807 : Nat) ∧ ∃ (x2 : ByteArray), Value.string ((ByteArray.mk #[(60 : UInt8)]) ++ strL (numS g x1) ++ (ByteArray.mk #[(62 : UInt8)])) = Value.string x2 ∧ x2 = nameS g ∧ Ext w w'1)) :
    (sNamed).Ok Tryd.prog 63 :=
  ok_of_vc sNamed annNamed spNamed (fun _ _ => rfl) (fun _ _ => rfl) hsp Tryd.func63 rfl (n := 1) (fun _ => rfl) (by kernel_rfl) (vcast (by kernel_rfl) h)
end Go.Proofs.YtjdohhididpomaaDoor
end

section
set_option linter.unusedVariables false
namespace Go.Proofs.YtjdohhididpomaaDoor
open Go Go.RowKit Vc Ut
end Go.Proofs.YtjdohhididpomaaDoor
end

section
set_option linter.unusedVariables false
namespace Go.Proofs.YtjdohhididpomaaDoor
open Go Go.RowKit Vc Ut
set_option maxRecDepth 1000000 in
theorem next_vc (hsp : SpecsOk Tryd.prog spNext) (h : ∀ (g : ByteArray) (w : World), U8 w ∧ g.size ≤ 67108864 → ∃ (g1 : ByteArray), #[Value.string g] = #[Value.string g1] ∧ (U8 w ∧ g1.size ≤ 67108864) ∧ ∀ (x : Int × Nat) (w' : World), x.fst = nxR g1 ∧ x.snd = nxN g1 ∧ Ext w w' → ∃ (x1 : Int × Nat), Value.tuple #[Value.int .i32 x.fst, Value.int .i64 (↑x.snd : Int)] = Value.tuple #[Value.int .i32 x1.fst, Value.int .i64 (↑x1.snd : Int)] ∧ x1.fst = nxR g ∧ x1.snd = nxN g ∧ Ext w w') :
    ((sDec nxR nxN)).Ok Tryd.prog 33 :=
  ok_of_vc (sDec nxR nxN) (annOf spNext) spNext (fun _ _ => rfl) (fun _ _ => rfl) hsp Tryd.func33 rfl (n := 1) (fun _ => rfl) (by kernel_rfl) (vcast (by kernel_rfl) h)
end Go.Proofs.YtjdohhididpomaaDoor
end

section
namespace Go.Proofs.YtjdohhididpomaaDoor
open Go Go.RowKit Vc
theorem take_succ0 {xs : List Int} {x : Nat} (h : x < xs.length) : xs.take (x + 1) = xs.take x ++ [xs.getD x 0] := by
  rw [List.take_add_one, List.getD_eq_getElem?_getD, List.getElem?_eq_getElem h]; rfl
theorem getD_take_map {k : IntKind} {xs : List Int} {i : Nat} (h : i < xs.length) : ((xs.take (i + 1)).map (Value.int k)) = ((xs.take i).map (Value.int k)) ++ [.int k (xs.getD i 0)] := by
  rw [take_succ0 h]; simp
theorem take_eq_step {a b : List Int} {x : Nat} (ha : x < a.length) (hb : x < b.length) (h : a.take x = b.take x) (hv : a.getD x 0 = b.getD x 0) : a.take (x + 1) = b.take (x + 1) := by
  rw [take_succ0 ha, take_succ0 hb, h, hv]
theorem at_box {w w1 : World} {k : IntKind} {e : TypeId} {b : Nat} {xs : List Int} {cs : Array Value} (h : New w (.cells cs e) b w1) (hcs : cs = (xs.map (Value.int k)).toArray) (hl : xs.length ≤ 35184372087808) : GSl.at k ⟨some ⟨b, 0, none⟩, xs.length, xs⟩ w1 := by
  subst hcs; exact ⟨CellsAt.new h, hl⟩
theorem GSl.at_ext {k : IntKind} {g : GSl} {w w1 : World} (h : g.at k w) (hx : Ext w w1) : g.at k w1 := ⟨h.1.ext hx, h.2⟩
theorem at_made {w w1 : World} {k : IntKind} {e : TypeId} {a : Option Addr} {n c : Nat} {xs : List Int} (h : Made w w1 e 1 a n (xs.map (Value.int k)) c) (hl : xs.length ≤ 35184372087808) : GSl.at k ⟨a, c, xs⟩ w1 :=
  ⟨h.row.cells, hl⟩
theorem Ext.fr_new {w0 w w' : World} {S : Nat → Prop} (h : Ext w0 w) (hf : Fr S w w') (hS : ∀ q, S q → w0.heap.size ≤ q) : Ext w0 w' :=
  Below.trans h (hf.below h.size (fun q hq hs => by have := hS q hs; omega))
theorem beq_nat (a b : Nat) : ((a : Int) == (b : Int)) = decide (a = b) := decide_eq_decide.2 (by omega)
theorem bne_nat (a b : Nat) : ((a : Int) != (b : Int)) = decide (a ≠ b) := by
  rw [bne, beq_nat, decide_not]
theorem flat_at {α : Type} {f : α → List Value} {s : Nat} (hf : ∀ x, (f x).length = s) : ∀ {l : List α} {k j : Nat} {x : α}, l[k]? = some x → j < s → (l.flatMap f)[k * s + j]? = (f x)[j]?
  | [], k, j, x, h, _ => by simp at h
  | y :: l, 0, j, x, h, hj => by
    simp only [List.getElem?_cons_zero, Option.some.injEq] at h
    subst h
    rw [List.flatMap_cons, Nat.zero_mul, Nat.zero_add, List.getElem?_append_left (by rw [hf]; exact hj)]
  | y :: l, k + 1, j, x, h, hj => by
    simp only [List.getElem?_cons_succ] at h
    rw [List.flatMap_cons, List.getElem?_append_right (by rw [hf, Nat.add_mul]; omega), hf, show (k + 1) * s + j - s = k * s + j from by rw [Nat.add_mul]; omega]
    exact flat_at hf h hj
theorem flat_len' {α : Type} {f : α → List Value} {s : Nat} (hf : ∀ x, (f x).length = s) (l : List α) : (l.flatMap f).length = l.length * s := by
  induction l with
  | nil => simp
  | cons x l ih => rw [List.flatMap_cons, List.length_append, ih, hf, List.length_cons, Nat.add_mul]; omega
end Go.Proofs.YtjdohhididpomaaDoor
namespace Go.Proofs.YtjdohhididpomaaDoor.Vc
open Go Go.RowKit
theorem CellsAt.fld {w : World} {ad : Option Addr} {vs : List Value} {k s j : Nat} {v : Value} {K : Nat → Nat → Prop} (h : CellsAt w ad vs) (hv : vs[k * s + j]? = some v)
    (hk : ∀ b o, w.cell? ⟨b, o + k * s + j, none⟩ = some v → K b o) : ptrE ad K := by
  rcases h with h | ⟨b, o, h1, h2⟩
  · subst h; simp at hv
  · subst h1
    refine hk b o ?_
    rw [Nat.add_assoc]; exact h2 _ _ hv
theorem CellsAt.elem {w : World} {ad : Option Addr} {vs : List Value} {k s : Nat} {K : Nat → Nat → Prop} (h : CellsAt w ad vs) (hs : 0 < s) (hl : k * s + s ≤ vs.length)
    (hk : ∀ b o, (∀ j v, vs[k * s + j]? = some v → w.cell? ⟨b, o + k * s + j, none⟩ = some v) → K b o) : ptrE ad K := by
  rcases h with h | ⟨b, o, h1, h2⟩
  · subst h; simp at hl; omega
  · subst h1
    exact hk b o fun j v hv => by rw [Nat.add_assoc]; exact h2 _ _ hv
theorem Nexted.below {w0 w w1 : World} {r i B : Nat} {s : ByteArray} (h : Nexted w r s i w1) (hb : Below B w0 w) (hr : B ≤ r) : Below B w0 w1 := by
  subst h
  exact ⟨hb.os, hb.tape, hb.output, by simpa using hb.size, fun b hlt => (World.putObj_heap_other (by omega)).trans (hb.block b hlt)⟩
theorem Nexted.heap {w w1 : World} {r i : Nat} {s : ByteArray} {o : Obj} (h : Nexted w r s i w1) (hr : w.heap[r]? = some o) : w1.heap[r]? = some (.stringIter s (i + dcN s i)) := by
  subst h
  have := (Array.getElem?_eq_some_iff.1 hr).1
  simp [World.putObj, this]
theorem Nexted.other {w w1 : World} {r i b : Nat} {s : ByteArray} (h : Nexted w r s i w1) (hb : b ≠ r) : w1.heap[b]? = w.heap[b]? := by
  subst h; exact World.putObj_heap_other hb
theorem Nexted.size {w w1 : World} {r i : Nat} {s : ByteArray} (h : Nexted w r s i w1) : w1.heap.size = w.heap.size := by subst h; simp
theorem Row.nexted {w w1 : World} {e : TypeId} {r i s' n c : Nat} {s : ByteArray} {ad : Option Addr} {vs : List Value} (h : Row w e s' ad n vs c) (hn : Nexted w r s i w1) (hr : ∃ s0 i0, w.heap[r]? = some (.stringIter s0 i0)) : Row w1 e s' ad n vs c := by
  refine ⟨h.1, ?_⟩
  rcases h.2 with h1 | ⟨g, cur, h1, h2, h3⟩
  · exact .inl h1
  · refine .inr ⟨g, cur, h1, ?_, h3⟩
    have : g ≠ r := by rintro rfl; obtain ⟨s0, i0, hr⟩ := hr; rw [hr] at h2; cases h2
    rw [hn.other this]; exact h2
theorem Made.nexted {w0 w w1 : World} {e : TypeId} {r i s' n c : Nat} {s : ByteArray} {ad : Option Addr} {vs : List Value} (h : Made w0 w e s' ad n vs c) (hn : Nexted w r s i w1) (hr : ∃ s0 i0, w.heap[r]? = some (.stringIter s0 i0)) (hB : w0.heap.size ≤ r) : Made w0 w1 e s' ad n vs c :=
  ⟨h.row.nexted hn hr, h.new, hn.below h.ext hB⟩
end Go.Proofs.YtjdohhididpomaaDoor.Vc
end

section
namespace Go.Proofs.YtjdohhididpomaaDoor
open Go Go.RowKit Vc Ut
theorem U8.ext {w w' : World} (h : U8 w) (hx : Ext w w') : U8 w' := ⟨fun c hc => hx.cell (h.1 c hc), fun i hi => ⟨hx.cell (h.2 i hi).1, hx.cell (h.2 i hi).2⟩⟩
theorem U8.fr {S : Nat → Prop} {w w' : World} (h : U8 w) (hf : Fr S w w') (h0 : ¬ S 0) (h1 : ¬ S 1) : U8 w' := by
  have k : ∀ (g o : Nat) (v : Value), ¬ S g → w.cell? ⟨g, o, none⟩ = some v → w'.cell? ⟨g, o, none⟩ = some v := fun g o v hg hc =>
    (World.cell?_of_block (w := w) (hf.block g (World.block_lt_of_cell? w _ hc) hg)).trans hc
  exact ⟨fun c hc => k _ _ _ h0 (h.1 c hc), fun i hi => ⟨k _ _ _ h1 (h.2 i hi).1, k _ _ _ h1 (h.2 i hi).2⟩⟩
theorem U8.lt {w : World} (h : U8 w) : 0 < w.heap.size ∧ 1 < w.heap.size :=
  ⟨World.block_lt_of_cell? w _ (h.1 0 (by decide)), World.block_lt_of_cell? w _ (h.2 0 (by decide)).1⟩
theorem str_eq (a b : ByteArray) : (a.toList == b.toList) = decide (a = b) := by
  rw [ByteArray.toList_eq, ByteArray.toList_eq]
  by_cases h : a = b
  · subst h; simp
  · rw [decide_eq_false h]
    have : ¬ a.data.toList = b.data.toList := fun hh => h (ByteArray.ext (Array.ext' hh))
    simpa using this
theorem size_zero {a : ByteArray} (h : a.size = 0) : a = ByteArray.mk #[] := by
  apply ByteArray.ext
  exact Array.eq_empty_of_size_eq_zero h
theorem str_nil (a : ByteArray) : (a.toList == (ByteArray.mk #[]).toList) = decide (a.size = 0) := by
  rw [str_eq]
  exact decide_eq_decide.2 ⟨fun h => by rw [h]; rfl, size_zero⟩
theorem runB_stop {s : ByteArray} {f n : Nat} (h : ¬ okB s n) : runB s f n = n := by
  cases f with
  | zero => rfl
  | succ f => unfold runB; rw [if_neg h]
theorem runB_go {s : ByteArray} {k n : Nat} (h : okB s n) (hk : n < k) : runB s (k - n) n = runB s (k - (n + 1)) (n + 1) := by
  rw [show k - n = k - (n + 1) + 1 from by omega]
  unfold runB
  rw [if_pos h]
  cases k - (n + 1) <;> rfl
set_option maxRecDepth 100000 in
theorem and_masks : ∀ x : Fin 256, IntKind.u8.wrap ((BitVec.ofInt IntKind.u8.bits ((x.val : Nat) : Int) &&& BitVec.ofInt IntKind.u8.bits 127).toNat : Int) = ((x.val % 128 : Nat) : Int) ∧
    IntKind.u8.wrap ((BitVec.ofInt IntKind.u8.bits ((x.val : Nat) : Int) &&& BitVec.ofInt IntKind.u8.bits 31).toNat : Int) = ((x.val % 32 : Nat) : Int) ∧
    IntKind.u8.wrap ((BitVec.ofInt IntKind.u8.bits ((x.val : Nat) : Int) &&& BitVec.ofInt IntKind.u8.bits 15).toNat : Int) = ((x.val % 16 : Nat) : Int) ∧
    IntKind.u8.wrap ((BitVec.ofInt IntKind.u8.bits ((x.val : Nat) : Int) &&& BitVec.ofInt IntKind.u8.bits 7).toNat : Int) = ((x.val % 8 : Nat) : Int) ∧
    IntKind.u8.wrap ((BitVec.ofInt IntKind.u8.bits ((x.val : Nat) : Int) &&& BitVec.ofInt IntKind.u8.bits 63).toNat : Int) = ((x.val % 64 : Nat) : Int) := by decide
theorem and_mask (s : ByteArray) (i : Nat) {m : Int} {k : Nat} (h : (m = 127 ∧ k = 128) ∨ (m = 31 ∧ k = 32) ∨ (m = 15 ∧ k = 16) ∨ (m = 7 ∧ k = 8) ∨ (m = 63 ∧ k = 64)) :
    IntKind.u8.wrap ((BitVec.ofInt IntKind.u8.bits ((s.data.toList.getD i 0).toNat : Int) &&& BitVec.ofInt IntKind.u8.bits m).toNat : Int) = ((bt s i % k : Nat) : Int) := by
  have := and_masks ⟨bt s i, bt_lt s i⟩
  dsimp only at this
  rcases h with ⟨rfl, rfl⟩ | ⟨rfl, rfl⟩ | ⟨rfl, rfl⟩ | ⟨rfl, rfl⟩ | ⟨rfl, rfl⟩
  · exact this.1
  · exact this.2.1
  · exact this.2.2.1
  · exact this.2.2.2.1
  · exact this.2.2.2.2
theorem numP_ext {s : ByteArray} {k a n : Nat} (hk : k ≤ s.size) (hn : n < k) : numP (s.extract 0 k) a n = numP s a n := by
  induction n with
  | zero => simp only [numP]; rw [bt_ext (by omega)]
  | succ n ih => simp only [numP]; rw [ih (by omega), bt_ext (by omega), Nat.zero_add]
theorem dec_ok : (sDec nxR nxN).Ok Tryd.prog 47 := by
  rintro (s : ByteArray) w ⟨hU, hsm⟩
  refine (Tryd.utf8_DecodeRuneInString s w hU).mono fun e w' ⟨he, hx⟩ => ⟨(nxR s, nxN s), ?_, ⟨rfl, rfl, hx⟩, KO.below hx (Nat.le_refl _)⟩
  have := decodeGo_eq s
  rw [he, this.1, this.2]; rfl
theorem next_ok : (sDec nxR nxN).Ok Tryd.prog 33 := by
  refine next_vc ⟨dec_ok, trivial⟩ ?_
  rintro s w hp
  refine ⟨s, rfl, hp, ?_⟩
  rintro x w1 ⟨h1, h2, h3⟩
  exact ⟨x, rfl, h1, h2, h3⟩
theorem wholeB_cases (s : ByteArray) (h0 : s.size ≠ 0) : wholeB s = if begS s ≤ s.size then true else if 1 < s.size ∧ ¬ okB s 1 then true else if 2 < s.size ∧ ¬ okB s 2 then true else false := by
  have hle := begN_le s
  unfold wholeB
  by_cases h1 : begS s ≤ s.size
  · rw [if_pos h1]; simp only [decide_eq_true_eq]; omega
  · rw [if_neg h1]
    have hS : begS s = (secN (bt s 0)).2.2 ∧ ¬ bt s 0 < 128 := by
      unfold begS at h1 ⊢
      rw [if_neg h0] at h1 ⊢
      by_cases h : bt s 0 < 128
      · rw [if_pos h] at h1; omega
      · exact ⟨if_neg h, h⟩
    have hN : begN s = runB s (begS s - 1) 1 := by
      unfold begN; rw [if_neg h0, if_neg hS.2, ← hS.1, if_neg (by omega)]
    have : s.size = 1 ∨ s.size = 2 ∨ s.size = 3 := by omega
    rcases this with h | h | h
    · have : ¬ okB s 1 := fun hh => by have := hh.1; omega
      rw [runB_stop this] at hN
      rw [if_neg (by omega), if_neg (by omega)]; simp only [decide_eq_false_iff_not]; omega
    · have n2 : ¬ okB s 2 := fun hh => by have := hh.1; omega
      by_cases k1 : okB s 1
      · rw [runB_go k1 (by omega), runB_stop n2] at hN
        rw [if_neg (fun hh => hh.2 k1), if_neg (by omega)]; simp only [decide_eq_false_iff_not]; omega
      · rw [runB_stop k1] at hN
        rw [if_pos ⟨by omega, k1⟩]; simp only [decide_eq_true_eq]; omega
    · have n3 : ¬ okB s 3 := fun hh => by have := hh.1; omega
      by_cases k1 : okB s 1
      · rw [runB_go k1 (by omega)] at hN
        rw [if_neg (fun hh => hh.2 k1)]
        by_cases k2 : okB s 2
        · rw [runB_go k2 (by omega), runB_stop n3] at hN
          rw [if_neg (fun hh => hh.2 k2)]; simp only [decide_eq_false_iff_not]; omega
        · rw [runB_stop k2] at hN
          rw [if_pos ⟨by omega, k2⟩]; simp only [decide_eq_true_eq]; omega
      · rw [runB_stop k1] at hN
        rw [if_pos ⟨by omega, k1⟩]; simp only [decide_eq_true_eq]; omega
set_option maxRecDepth 100000 in
theorem first_sec : ∀ c : Fin 256, IntKind.u8.wrap ((BitVec.ofInt IntKind.u8.bits ((Lib.firstT c.val : Nat) : Int) &&& BitVec.ofInt IntKind.u8.bits 7).toNat : Int) = (if c.val < 128 then 0 else if (secN c.val).2.2 = 0 then 1 else ((secN c.val).2.2 : Int)) ∧
    ((Lib.firstT c.val : Nat) : Int).fdiv (2 ^ min (Int.toNat 4) IntKind.u8.bits) = ((Lib.firstT c.val / 16 : Nat) : Int) ∧ Lib.firstT c.val / 16 < 16 ∧
    ((secN c.val).2.2 ≠ 0 → Lib.accLo (Lib.firstT c.val / 16) = (secN c.val).1 ∧ Lib.accHi (Lib.firstT c.val / 16) = (secN c.val).2.1) := by decide
end Go.Proofs.YtjdohhididpomaaDoor
end

section
namespace Go.Proofs.YtjdohhididpomaaDoor
open Go Go.RowKit Vc Ut
theorem elem32 : ElemOk Tryd.prog 67 21 1 4 := elemOk_mk (.int .i32 0) (by kernel_rfl) (by kernel_rfl) rfl
theorem elem64 : ElemOk Tryd.prog 62 3 1 8 := elemOk_mk (.int .i64 0) (by kernel_rfl) (by kernel_rfl) rfl
theorem elem8 : ElemOk Tryd.prog 30 5 1 1 := elemOk_mk (.int .u8 0) (by kernel_rfl) (by kernel_rfl) rfl
theorem ext_size {s : ByteArray} {n : Nat} (h : s.size ≤ 67108864) : (s.extract (pos s n) s.size).size ≤ 67108864 := by
  rw [size_ext (Nat.le_refl _)]; omega
theorem nx_drop {s : ByteArray} {n : Nat} (h : pos s n < s.size) : nxR (s.extract (pos s n) s.size) = dcR s (pos s n) ∧ nxN (s.extract (pos s n) s.size) = dcN s (pos s n) := by
  have hz : ¬ (s.extract (pos s n) s.size).size = 0 := by rw [size_ext (Nat.le_refl _)]; omega
  unfold nxR nxN dcR dcN
  rw [if_neg hz, if_neg hz, decode_drop s (by omega)]
  exact ⟨rfl, rfl⟩
end Go.Proofs.YtjdohhididpomaaDoor
end
