/-
  Verification conditions, printed by a program out of the specifications beside this text: each theorem says that the condition suffices. (Lean's kernel compares the printed condition with what 'wpE' computes.)
-/
import Derived.Test.YtniiamobbgnjaaaDoorSpB
import Derived.Test.YtniiamobbgnjaaaDoorProg
import Derived.KernelRfl
set_option linter.unusedVariables false
namespace Go.Proofs.YtniiamobbgnjaaaDoor
open Go Go.RowKit Vc Ut

set_option maxRecDepth 1000000 in
theorem bad_vc (hsp : SpecsOk Tryd.prog spBad) (h : ∀ (g : ByteArray) (w : World),
U8 w ∧ g.size ≤ (67108864 : Nat) →
∀ (b : Nat) (w1 : World),
New w (Obj.stringIter g (0 : Nat)) b w1 →
(∃ (x : Nat × Option Addr × Nat),
Value.slice none (0 : Nat) (0 : Nat) = Value.slice x.snd.fst (badT g x.fst).length x.snd.snd ∧
x.fst ≤ cnt g ∧
Made w w1 (3 : TypeId) (1 : Nat) x.snd.fst (badT g x.fst).length (List.map (Value.int IntKind.i64) (badT g x.fst))
x.snd.snd ∧
∃ (b1 : Nat),
Value.pointer (some { block := b, off := (0 : Nat) }) = Value.pointer (some { block := b1, off := (0 : Nat) }) ∧
w.heap.size ≤ b1 ∧ w1.heap[b1]? = some (Obj.stringIter g (pos g x.fst))) ∧
∀ (u : Nat → Value) (x : Nat × Option Addr × Nat) (w' : World),
(x.fst ≤ cnt g ∧
Made w w' (3 : TypeId) (1 : Nat) x.snd.fst (badT g x.fst).length (List.map (Value.int IntKind.i64) (badT g x.fst))
x.snd.snd ∧
∃ (b1 : Nat),
Value.pointer (some { block := b, off := (0 : Nat) }) = Value.pointer (some { block := b1, off := (0 : Nat) }) ∧
w.heap.size ≤ b1 ∧ w'.heap[b1]? = some (Obj.stringIter g (pos g x.fst))) →
∃ (s : ByteArray),
∃ (i : Nat),
w'.heap[b]? = some (Obj.stringIter s i) ∧
bcase (decide (i < s.size))
(∀ (w11 : World),
Nexted w' b s i w11 →
∃ (k : Nat),
(↑i : Int) = (↑k : Int) ∧
k ≤ g.size ∧
g.size ≤ g.size ∧
∃ (g1 : ByteArray),
#[Value.string (g.extract k g.size)] = #[Value.string g1] ∧
(U8 w11 ∧ g1.size ≤ (67108864 : Nat)) ∧
∀ (x1 : Int × Nat) (w'1 : World),
x1.fst = nxR g1 ∧ x1.snd = nxN g1 ∧ Ext w11 w'1 →
bcase (dcR s i != (65533 : Int) || (↑x1.snd : Int) != (1 : Int))
(∃ (y : Nat × Option Addr × Nat),
Value.slice x.snd.fst (badT g x.fst).length x.snd.snd = Value.slice y.snd.fst (badT g y.fst).length y.snd.snd ∧
(y.fst ≤ cnt g ∧
Made w w'1 (3 : TypeId) (1 : Nat) y.snd.fst (badT g y.fst).length (List.map (Value.int IntKind.i64) (badT g y.fst))
y.snd.snd ∧
∃ (b1 : Nat),
Value.pointer (some { block := b, off := (0 : Nat) }) = Value.pointer (some { block := b1, off := (0 : Nat) }) ∧
w.heap.size ≤ b1 ∧ w'1.heap[b1]? = some (Obj.stringIter g (pos g y.fst))) ∧
cnt g - y.fst < cnt g - x.fst)
(∀ (b1 : Nat) (w12 : World),
New w'1 (Obj.cells #[Value.int IntKind.i64 (↑i : Int)] (3 : Nat)) b1 w12 →
∃ (a' : Option Addr),
∃ (c' : Nat),
∃ (w'2 : World),
AppRun Tryd.prog #[(31 : Nat), (31 : Nat)] (31 : Nat) (Value.slice x.snd.fst (badT g x.fst).length x.snd.snd)
(Value.slice (some { block := b1, off := (0 : Nat) }) (1 : Nat) (1 : Nat)) w12 a' ((badT g x.fst).length + (1 : Nat)) c'
w'2 ∧
KO w12 w'2 ∧
∃ (y : Nat × Option Addr × Nat),
Value.slice a' ((badT g x.fst).length + (1 : Nat)) c' = Value.slice y.snd.fst (badT g y.fst).length y.snd.snd ∧
(y.fst ≤ cnt g ∧
Made w w'2 (3 : TypeId) (1 : Nat) y.snd.fst (badT g y.fst).length (List.map (Value.int IntKind.i64) (badT g y.fst))
y.snd.snd ∧
∃ (b2 : Nat),
Value.pointer (some { block := b, off := (0 : Nat) }) = Value.pointer (some { block := b2, off := (0 : Nat) }) ∧
w.heap.size ≤ b2 ∧ w'2.heap[b2]? = some (Obj.stringIter g (pos g y.fst))) ∧
cnt g - y.fst < cnt g - x.fst))
(∃ (x1 : Option Addr × Nat × Nat),
Value.slice x.snd.fst (badT g x.fst).length x.snd.snd = Value.slice x1.fst x1.snd.fst x1.snd.snd ∧
x1.snd.fst = (badL g).length ∧
Made w w' (3 : TypeId) (1 : Nat) x1.fst x1.snd.fst (List.map (Value.int IntKind.i64) (badL g)) x1.snd.snd)) :
    ((sSL .i64 3 badL)).Ok Tryd.prog 28 :=
  ok_of_vc (sSL .i64 3 badL) annBad spBad (fun _ _ => rfl) (fun _ _ => rfl) hsp Tryd.func28 rfl (n := 1) (fun _ => rfl) (by kernel_rfl) (vcast (by kernel_rfl) h)

set_option maxRecDepth 1000000 in
theorem count_vc (hsp : SpecsOk Tryd.prog []) (h : ∀ (g : ByteArray) (w : World),
U8 w ∧ g.size ≤ (67108864 : Nat) →
(runesV g).length ≤ (70368744177664 : Nat) ∧
∀ (c b : Nat) (w1 : World),
NewRunes w g (21 : Nat) c b w1 →
∃ (x : Nat), Value.int IntKind.i64 (↑(runesV g).length : Int) = Value.int IntKind.i64 (↑x : Int) ∧ x = cnt g ∧ Ext w w1) :
    ((sSN cnt)).Ok Tryd.prog 27 :=
  ok_of_vc (sSN cnt) (annOf []) [] (fun _ _ => rfl) (fun _ _ => rfl) hsp Tryd.func27 rfl (n := 1) (fun _ => rfl) (by kernel_rfl) (vcast (by kernel_rfl) h)

end Go.Proofs.YtniiamobbgnjaaaDoor
