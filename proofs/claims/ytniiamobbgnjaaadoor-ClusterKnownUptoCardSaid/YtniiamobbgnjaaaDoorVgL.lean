/-
  Verification conditions, printed by a program out of the specifications beside this text: each theorem says that the condition suffices. (Lean's kernel compares the printed condition with what 'wpE' computes.)
-/
import Derived.Test.YtniiamobbgnjaaaDoorSpL
import Derived.Test.YtniiamobbgnjaaaDoorProg
import Derived.KernelRfl
set_option linter.unusedVariables false
namespace Go.Proofs.YtniiamobbgnjaaaDoor
open Go Go.RowKit Vc Ut Tb Cl

set_option maxRecDepth 1000000 in
theorem told_vc (hsp : SpecsOk Tryd.prog []) (h : ∀ (g : GTold) (w : World),
(g.it.ok w ∧ CellsAt w g.a (List.flatMap encPc g.want) ∧ g.it.xs = if g.back = true then g.want.reverse else g.want) →
∀ (b : Nat) (w1 : World),
New w (Obj.cells #[Value.slice g.a g.want.length g.c] (23 : Nat)) b w1 →
∀ (b1 : Nat) (w11 : World),
New w1 (Obj.cells #[Value.bool g.back] (4 : Nat)) b1 w11 →
∀ (b2 : Nat) (w12 : World),
New w11 (Obj.cells #[Value.int IntKind.i64 g.leave] (3 : Nat)) b2 w12 →
∀ (b3 : Nat) (w13 : World),
New w12 (Obj.cells #[Value.bool false] (4 : Nat)) b3 w13 →
∀ (b4 : Nat) (w14 : World),
New w13 (Obj.cells #[Value.int IntKind.i64 (0 : Int)] (3 : Nat)) b4 w14 →
true = true ∧
(∃ (old : Value), w14.cell? { block := b4, off := (0 : Nat) } = some old) ∧
w14.frozen? { block := b4, off := (0 : Nat) } = false ∧
∀ (w15 : World),
Stored w14 { block := b4, off := (0 : Nat) } (Value.int IntKind.i64 (0 : Int)) w15 →
(∃ (xs : List (Nat × ByteArray)),
∃ (C : Nat → Prop),
∃ (D0 : Nat → Prop),
IterAt Tryd.prog (Value.func (Fn.func g.it.f) #[] g.it.caps) (List.map encPc xs) C w15 ∧
DomOk w15 C D0 ∧
(D0 = ones [ptrB (Value.pointer (some { block := b4, off := (0 : Nat) }))] ∧
w15.heap[ptrB (Value.pointer (some { block := b4, off := (0 : Nat) }))]? =
some (Obj.cells #[Value.int IntKind.i64 (0 : Int)] (3 : TypeId))) ∧
(Stab w15.heap.size fun (k : Nat) (D : Nat → Prop) (W : World) =>
D = ones [ptrB (Value.pointer (some { block := b4, off := (0 : Nat) }))] ∧
W.heap[ptrB (Value.pointer (some { block := b4, off := (0 : Nat) }))]? =
some (Obj.cells #[Value.int IntKind.i64 (↑k : Int)] (3 : TypeId))) ∧
(∀ (x : Exit),
Stab w15.heap.size fun (x : Nat) (D : Nat → Prop) (W : World) =>
D = ones [ptrB (Value.pointer (some { block := b4, off := (0 : Nat) }))] ∧
∃ (v : Int),
W.heap[ptrB (Value.pointer (some { block := b4, off := (0 : Nat) }))]? =
some (Obj.cells #[Value.int IntKind.i64 v] (3 : TypeId))) ∧
(∀ (k : Nat) (x : Nat × ByteArray) (D : Nat → Prop) (W : World),
xs[k]? = some x →
D = ones [ptrB (Value.pointer (some { block := b4, off := (0 : Nat) }))] ∧
W.heap[ptrB (Value.pointer (some { block := b4, off := (0 : Nat) }))]? =
some (Obj.cells #[Value.int IntKind.i64 (↑k : Int)] (3 : TypeId)) →
Mid w15 D0 D W →
∃ (n : Int),
W.cell? { block := b4, off := (0 : Nat) } = some (Value.int IntKind.i64 n) ∧
∃ (n1 : Int),
W.cell? { block := b2, off := (0 : Nat) } = some (Value.int IntKind.i64 n1) ∧
bcase (n == n1)
(∃ (D' : Nat → Prop),
Step D W W D' ∧
D' = ones [ptrB (Value.pointer (some { block := b4, off := (0 : Nat) }))] ∧
∃ (v : Int),
W.heap[ptrB (Value.pointer (some { block := b4, off := (0 : Nat) }))]? =
some (Obj.cells #[Value.int IntKind.i64 v] (3 : TypeId)))
(∃ (n2 : Int),
W.cell? { block := b4, off := (0 : Nat) } = some (Value.int IntKind.i64 n2) ∧
InR IntKind.i64 (n2 + (1 : Int)) ∧
true = true ∧
(∃ (old : Value), W.cell? { block := b4, off := (0 : Nat) } = some old) ∧
W.frozen? { block := b4, off := (0 : Nat) } = false ∧
∀ (w16 : World),
Stored W { block := b4, off := (0 : Nat) } (Value.int IntKind.i64 (n2 + (1 : Int))) w16 →
∃ (D' : Nat → Prop),
Step D W w16 D' ∧
D' = ones [ptrB (Value.pointer (some { block := b4, off := (0 : Nat) }))] ∧
w16.heap[ptrB (Value.pointer (some { block := b4, off := (0 : Nat) }))]? =
some (Obj.cells #[Value.int IntKind.i64 (↑(k + (1 : Nat)) : Int)] (3 : TypeId)))) ∧
(∀ (D : Nat → Prop) (W : World),
D = ones [ptrB (Value.pointer (some { block := b4, off := (0 : Nat) }))] ∧
W.heap[ptrB (Value.pointer (some { block := b4, off := (0 : Nat) }))]? =
some (Obj.cells #[Value.int IntKind.i64 (↑(lenX xs) : Int)] (3 : TypeId)) →
Mid w15 D0 D W →
∃ (c : Unit),
Fr (ones [ptrB (Value.pointer (some { block := b4, off := (0 : Nat) }))]) w15 W ∧
∃ (v : Int),
W.heap[ptrB (Value.pointer (some { block := b4, off := (0 : Nat) }))]? =
some (Obj.cells #[Value.int IntKind.i64 v] (3 : TypeId))) ∧
∀ (D : Nat → Prop) (W : World),
(D = ones [ptrB (Value.pointer (some { block := b4, off := (0 : Nat) }))] ∧
∃ (v : Int),
W.heap[ptrB (Value.pointer (some { block := b4, off := (0 : Nat) }))]? =
some (Obj.cells #[Value.int IntKind.i64 v] (3 : TypeId))) →
Mid w15 D0 D W →
∃ (c : Unit),
Fr (ones [ptrB (Value.pointer (some { block := b4, off := (0 : Nat) }))]) w15 W ∧
∃ (v : Int),
W.heap[ptrB (Value.pointer (some { block := b4, off := (0 : Nat) }))]? =
some (Obj.cells #[Value.int IntKind.i64 v] (3 : TypeId))) ∧
∀ (u : Nat → Value) (c : Unit) (w' : World),
(Fr (ones [ptrB (Value.pointer (some { block := b4, off := (0 : Nat) }))]) w15 w' ∧
∃ (v : Int),
w'.heap[ptrB (Value.pointer (some { block := b4, off := (0 : Nat) }))]? =
some (Obj.cells #[Value.int IntKind.i64 v] (3 : TypeId))) →
(∃ (x : Nat),
Value.int IntKind.i64 (0 : Int) = Value.int IntKind.i64 (↑x : Int) ∧
x ≤ (2 : Nat) ∧
Fr (ones [ptrB (Value.pointer (some { block := b4, off := (0 : Nat) }))]) w' w' ∧
∃ (v : Int),
w'.heap[ptrB (Value.pointer (some { block := b4, off := (0 : Nat) }))]? =
some (Obj.cells #[Value.int IntKind.i64 v] (3 : TypeId))) ∧
∀ (u1 : Nat → Value) (x : Nat) (w'1 : World),
(x ≤ (2 : Nat) ∧
Fr (ones [ptrB (Value.pointer (some { block := b4, off := (0 : Nat) }))]) w' w'1 ∧
∃ (v : Int),
w'1.heap[ptrB (Value.pointer (some { block := b4, off := (0 : Nat) }))]? =
some (Obj.cells #[Value.int IntKind.i64 v] (3 : TypeId))) →
bcase (decide ((↑x : Int) < (2 : Int)))
(true = true ∧
(∃ (old : Value), w'1.cell? { block := b4, off := (0 : Nat) } = some old) ∧
w'1.frozen? { block := b4, off := (0 : Nat) } = false ∧
∀ (w16 : World),
Stored w'1 { block := b4, off := (0 : Nat) } (Value.int IntKind.i64 (0 : Int)) w16 →
∃ (xs : List (Nat × ByteArray)),
∃ (C : Nat → Prop),
∃ (D0 : Nat → Prop),
IterAt Tryd.prog (Value.func (Fn.func g.it.f) #[] g.it.caps) (List.map encPc xs) C w16 ∧
DomOk w16 C D0 ∧
(D0 = ones [ptrB (Value.pointer (some { block := b4, off := (0 : Nat) }))] ∧
w16.heap[ptrB (Value.pointer (some { block := b4, off := (0 : Nat) }))]? =
some (Obj.cells #[Value.int IntKind.i64 (0 : Int)] (3 : TypeId))) ∧
(Stab w16.heap.size fun (k : Nat) (D : Nat → Prop) (W : World) =>
D = ones [ptrB (Value.pointer (some { block := b4, off := (0 : Nat) }))] ∧
W.heap[ptrB (Value.pointer (some { block := b4, off := (0 : Nat) }))]? =
some (Obj.cells #[Value.int IntKind.i64 (↑k : Int)] (3 : TypeId))) ∧
(∀ (x1 : Exit), Stab w16.heap.size fun (x : Nat) (D : Nat → Prop) (W : World) => (1 : Nat) = (0 : Nat)) ∧
(∀ (k : Nat) (x1 : Nat × ByteArray) (D : Nat → Prop) (W : World),
xs[k]? = some x1 →
D = ones [ptrB (Value.pointer (some { block := b4, off := (0 : Nat) }))] ∧
W.heap[ptrB (Value.pointer (some { block := b4, off := (0 : Nat) }))]? =
some (Obj.cells #[Value.int IntKind.i64 (↑k : Int)] (3 : TypeId)) →
Mid w16 D0 D W →
∃ (n : Int),
W.cell? { block := b4, off := (0 : Nat) } = some (Value.int IntKind.i64 n) ∧
∃ (a13 : Option Addr),
∃ (n1 : Nat),
∃ (c1 : Nat),
W.cell? { block := b, off := (0 : Nat) } = some (Value.slice a13 n1 c1) ∧
bcase (decide (n ≥ (↑n1 : Int)))
(true = true ∧
(∃ (old : Value), W.cell? { block := b3, off := (0 : Nat) } = some old) ∧
W.frozen? { block := b3, off := (0 : Nat) } = false ∧
∀ (w17 : World), Stored W { block := b3, off := (0 : Nat) } (Value.bool false) w17 → False)
(∃ (n2 : Int),
W.cell? { block := b4, off := (0 : Nat) } = some (Value.int IntKind.i64 n2) ∧
∃ (b5 : Bool),
W.cell? { block := b1, off := (0 : Nat) } = some (Value.bool b5) ∧
bcase b5
(∃ (a14 : Option Addr),
∃ (n3 : Nat),
∃ (c2 : Nat),
W.cell? { block := b, off := (0 : Nat) } = some (Value.slice a14 n3 c2) ∧
InR IntKind.i64 ((↑n3 : Int) - (1 : Int)) ∧
∃ (n4 : Int),
W.cell? { block := b4, off := (0 : Nat) } = some (Value.int IntKind.i64 n4) ∧
InR IntKind.i64 ((↑n3 : Int) - (1 : Int) - n4) ∧
∃ (a15 : Option Addr),
∃ (n5 : Nat),
∃ (c3 : Nat),
W.cell? { block := b, off := (0 : Nat) } = some (Value.slice a15 n5 c3) ∧
∃ (k1 : Nat),
(↑n3 : Int) - (1 : Int) - n4 = (↑k1 : Int) ∧
k1 < n5 ∧
ptrE a15 fun (b6 o : Nat) =>
∃ (n6 : Int),
W.cell? { block := b6, off := o + k1 * (2 : Nat) } = some (Value.int IntKind.i64 n6) ∧
bcase ((↑x1.fst : Int) != n6)
(true = true ∧
(∃ (old : Value), W.cell? { block := b3, off := (0 : Nat) } = some old) ∧
W.frozen? { block := b3, off := (0 : Nat) } = false ∧
∀ (w17 : World), Stored W { block := b3, off := (0 : Nat) } (Value.bool false) w17 → False)
(∃ (a16 : Option Addr),
∃ (n7 : Nat),
∃ (c4 : Nat),
W.cell? { block := b, off := (0 : Nat) } = some (Value.slice a16 n7 c4) ∧
∃ (k2 : Nat),
(↑n3 : Int) - (1 : Int) - n4 = (↑k2 : Int) ∧
k2 < n7 ∧
ptrE a16 fun (b7 o1 : Nat) =>
∃ (s : ByteArray),
W.cell? { block := b7, off := o1 + k2 * (2 : Nat) + (1 : Nat) } = some (Value.string s) ∧
bcase (!x1.snd.toList == s.toList)
(true = true ∧
(∃ (old : Value), W.cell? { block := b3, off := (0 : Nat) } = some old) ∧
W.frozen? { block := b3, off := (0 : Nat) } = false ∧
∀ (w17 : World), Stored W { block := b3, off := (0 : Nat) } (Value.bool false) w17 → False)
(∃ (n8 : Int),
W.cell? { block := b4, off := (0 : Nat) } = some (Value.int IntKind.i64 n8) ∧
InR IntKind.i64 (n8 + (1 : Int)) ∧
true = true ∧
(∃ (old : Value), W.cell? { block := b4, off := (0 : Nat) } = some old) ∧
W.frozen? { block := b4, off := (0 : Nat) } = false ∧
∀ (w17 : World),
Stored W { block := b4, off := (0 : Nat) } (Value.int IntKind.i64 (n8 + (1 : Int))) w17 →
∃ (D' : Nat → Prop),
Step D W w17 D' ∧
D' = ones [ptrB (Value.pointer (some { block := b4, off := (0 : Nat) }))] ∧
w17.heap[ptrB (Value.pointer (some { block := b4, off := (0 : Nat) }))]? =
some (Obj.cells #[Value.int IntKind.i64 (↑(k + (1 : Nat)) : Int)] (3 : TypeId)))))
(∃ (a14 : Option Addr),
∃ (n3 : Nat),
∃ (c2 : Nat),
W.cell? { block := b, off := (0 : Nat) } = some (Value.slice a14 n3 c2) ∧
∃ (k1 : Nat),
n2 = (↑k1 : Int) ∧
k1 < n3 ∧
ptrE a14 fun (b6 o : Nat) =>
∃ (n4 : Int),
W.cell? { block := b6, off := o + k1 * (2 : Nat) } = some (Value.int IntKind.i64 n4) ∧
bcase ((↑x1.fst : Int) != n4)
(true = true ∧
(∃ (old : Value), W.cell? { block := b3, off := (0 : Nat) } = some old) ∧
W.frozen? { block := b3, off := (0 : Nat) } = false ∧
∀ (w17 : World), Stored W { block := b3, off := (0 : Nat) } (Value.bool false) w17 → False)
(∃ (a15 : Option Addr),
∃ (n5 : Nat),
∃ (c3 : Nat),
W.cell? { block := b, off := (0 : Nat) } = some (Value.slice a15 n5 c3) ∧
∃ (k2 : Nat),
n2 = (↑k2 : Int) ∧
k2 < n5 ∧
ptrE a15 fun (b7 o1 : Nat) =>
∃ (s : ByteArray),
W.cell? { block := b7, off := o1 + k2 * (2 : Nat) + (1 : Nat) } = some (Value.string s) ∧
bcase (!x1.snd.toList == s.toList)
(true = true ∧
(∃ (old : Value), W.cell? { block := b3, off := (0 : Nat) } = some old) ∧
W.frozen? { block := b3, off := (0 : Nat) } = false ∧
∀ (w17 : World), Stored W { block := b3, off := (0 : Nat) } (Value.bool false) w17 → False)
(∃ (n6 : Int),
W.cell? { block := b4, off := (0 : Nat) } = some (Value.int IntKind.i64 n6) ∧
InR IntKind.i64 (n6 + (1 : Int)) ∧
true = true ∧
(∃ (old : Value), W.cell? { block := b4, off := (0 : Nat) } = some old) ∧
W.frozen? { block := b4, off := (0 : Nat) } = false ∧
∀ (w17 : World),
Stored W { block := b4, off := (0 : Nat) } (Value.int IntKind.i64 (n6 + (1 : Int))) w17 →
∃ (D' : Nat → Prop),
Step D W w17 D' ∧
D' = ones [ptrB (Value.pointer (some { block := b4, off := (0 : Nat) }))] ∧
w17.heap[ptrB (Value.pointer (some { block := b4, off := (0 : Nat) }))]? =
some (Obj.cells #[Value.int IntKind.i64 (↑(k + (1 : Nat)) : Int)] (3 : TypeId))))))) ∧
(∀ (D : Nat → Prop) (W : World),
D = ones [ptrB (Value.pointer (some { block := b4, off := (0 : Nat) }))] ∧
W.heap[ptrB (Value.pointer (some { block := b4, off := (0 : Nat) }))]? =
some (Obj.cells #[Value.int IntKind.i64 (↑(lenX xs) : Int)] (3 : TypeId)) →
Mid w16 D0 D W →
∃ (n : Int),
W.cell? { block := b4, off := (0 : Nat) } = some (Value.int IntKind.i64 n) ∧
∃ (a12 : Option Addr),
∃ (n1 : Nat),
∃ (c1 : Nat),
W.cell? { block := b, off := (0 : Nat) } = some (Value.slice a12 n1 c1) ∧
bcase (n != (↑n1 : Int))
(true = true ∧
(∃ (old : Value), W.cell? { block := b3, off := (0 : Nat) } = some old) ∧
W.frozen? { block := b3, off := (0 : Nat) } = false ∧
∀ (w17 : World),
Stored W { block := b3, off := (0 : Nat) } (Value.bool false) w17 →
∃ (b5 : Bool),
w17.cell? { block := b3, off := (0 : Nat) } = some (Value.bool b5) ∧
∀ (w2 : World), Turn w.heap.size w17 w2 → ∃ (x1 : Unit), Value.bool b5 = Value.bool true ∧ Ext w w2)
(InR IntKind.i64 ((↑x : Int) + (1 : Int)) ∧
∃ (y : Nat),
Value.int IntKind.i64 ((↑x : Int) + (1 : Int)) = Value.int IntKind.i64 (↑y : Int) ∧
(y ≤ (2 : Nat) ∧
Fr (ones [ptrB (Value.pointer (some { block := b4, off := (0 : Nat) }))]) w' W ∧
∃ (v : Int),
W.heap[ptrB (Value.pointer (some { block := b4, off := (0 : Nat) }))]? =
some (Obj.cells #[Value.int IntKind.i64 v] (3 : TypeId))) ∧
(2 : Nat) - y < (2 : Nat) - x)) ∧
True)
(true = true ∧
(∃ (old : Value), w'1.cell? { block := b3, off := (0 : Nat) } = some old) ∧
w'1.frozen? { block := b3, off := (0 : Nat) } = false ∧
∀ (w16 : World),
Stored w'1 { block := b3, off := (0 : Nat) } (Value.bool true) w16 →
∃ (b5 : Bool),
w16.cell? { block := b3, off := (0 : Nat) } = some (Value.bool b5) ∧
∀ (w2 : World), Turn w.heap.size w16 w2 → ∃ (x1 : Unit), Value.bool b5 = Value.bool true ∧ Ext w w2)) :
    (sTold).Ok Tryd.prog 11 :=
  ok_of_vc sTold annTold [] (fun _ _ => rfl) (fun _ _ => rfl) hsp Tryd.func11 rfl (n := 4) (fun _ => rfl) (by kernel_rfl) (vcast (by kernel_rfl) h)

set_option maxRecDepth 1000000 in
theorem pcs_vc (hsp : SpecsOk Tryd.prog []) (h : ∀ (g : GIt) (w : World),
g.ok w →
∀ (b : Nat) (w1 : World),
New w (Obj.cells #[Value.slice none (0 : Nat) (0 : Nat)] (35 : Nat)) b w1 →
∃ (xs : List (Nat × ByteArray)),
∃ (C : Nat → Prop),
∃ (D0 : Nat → Prop),
IterAt Tryd.prog (Value.func (Fn.func g.f) #[] g.caps) (List.map encPc xs) C w1 ∧
DomOk w1 C D0 ∧
(∃ (a2 : Option Addr),
∃ (c : Nat),
(D0 = fun (q : Nat) => q = ptrB (Value.pointer (some { block := b, off := (0 : Nat) })) ∨ blk a2 = some q) ∧
GrowS w1 (ptrB (Value.pointer (some { block := b, off := (0 : Nat) }))) (35 : TypeId) (38 : TypeId) (2 : Nat) (0 : Nat)
a2 c (List.flatMap encPc (List.take (0 : Nat) xs))) ∧
(Stab w1.heap.size fun (k : Nat) (D : Nat → Prop) (W : World) =>
∃ (a : Option Addr),
∃ (c : Nat),
(D = fun (q : Nat) => q = ptrB (Value.pointer (some { block := b, off := (0 : Nat) })) ∨ blk a = some q) ∧
GrowS W (ptrB (Value.pointer (some { block := b, off := (0 : Nat) }))) (35 : TypeId) (38 : TypeId) (2 : Nat) k a c
(List.flatMap encPc (List.take k xs))) ∧
(∀ (x : Exit), Stab w1.heap.size fun (x : Nat) (D : Nat → Prop) (W : World) => (1 : Nat) = (0 : Nat)) ∧
(∀ (k : Nat) (x : Nat × ByteArray) (D : Nat → Prop) (W : World),
xs[k]? = some x →
(∃ (a3 : Option Addr),
∃ (c : Nat),
(D = fun (q : Nat) => q = ptrB (Value.pointer (some { block := b, off := (0 : Nat) })) ∨ blk a3 = some q) ∧
GrowS W (ptrB (Value.pointer (some { block := b, off := (0 : Nat) }))) (35 : TypeId) (38 : TypeId) (2 : Nat) k a3 c
(List.flatMap encPc (List.take k xs))) →
Mid w1 D0 D W →
∃ (a5 : Option Addr),
∃ (n : Nat),
∃ (c : Nat),
W.cell? { block := b, off := (0 : Nat) } = some (Value.slice a5 n c) ∧
∀ (b1 : Nat) (w11 : World),
New W (Obj.cells #[Value.int IntKind.i64 (↑x.fst : Int), Value.string x.snd] (38 : Nat)) b1 w11 →
∃ (a' : Option Addr),
∃ (c' : Nat),
∃ (w' : World),
AppRun Tryd.prog #[(35 : Nat), (35 : Nat)] (35 : Nat) (Value.slice a5 n c)
(Value.slice (some { block := b1, off := (0 : Nat) }) (1 : Nat) (1 : Nat)) w11 a' (n + (1 : Nat)) c' w' ∧
KO w11 w' ∧
true = true ∧
(∃ (old : Value), w'.cell? { block := b, off := (0 : Nat) } = some old) ∧
w'.frozen? { block := b, off := (0 : Nat) } = false ∧
∀ (w12 : World),
Stored w' { block := b, off := (0 : Nat) } (Value.slice a' (n + (1 : Nat)) c') w12 →
∃ (D' : Nat → Prop),
Step D W w12 D' ∧
∃ (a8 : Option Addr),
∃ (c1 : Nat),
(D' = fun (q : Nat) => q = ptrB (Value.pointer (some { block := b, off := (0 : Nat) })) ∨ blk a8 = some q) ∧
GrowS w12 (ptrB (Value.pointer (some { block := b, off := (0 : Nat) }))) (35 : TypeId) (38 : TypeId) (2 : Nat)
(k + (1 : Nat)) a8 c1 (List.flatMap encPc (List.take (k + (1 : Nat)) xs))) ∧
(∀ (D : Nat → Prop) (W : World),
(∃ (a2 : Option Addr),
∃ (c : Nat),
(D = fun (q : Nat) => q = ptrB (Value.pointer (some { block := b, off := (0 : Nat) })) ∨ blk a2 = some q) ∧
GrowS W (ptrB (Value.pointer (some { block := b, off := (0 : Nat) }))) (35 : TypeId) (38 : TypeId) (2 : Nat) (lenX xs)
a2 c (List.flatMap encPc (List.take (lenX xs) xs))) →
Mid w1 D0 D W →
∃ (a4 : Option Addr),
∃ (n : Nat),
∃ (c : Nat),
W.cell? { block := b, off := (0 : Nat) } = some (Value.slice a4 n c) ∧
∀ (w2 : World),
Turn w.heap.size W w2 →
∃ (x : Option Addr × Nat × Nat),
Value.slice a4 n c = Value.slice x.fst x.snd.fst x.snd.snd ∧
x.snd.fst = g.xs.length ∧ Made w w2 (38 : TypeId) (2 : Nat) x.fst x.snd.fst (List.flatMap encPc g.xs) x.snd.snd) ∧
True) :
    (sPcs).Ok Tryd.prog 24 :=
  ok_of_vc sPcs annPcs [] (fun _ _ => rfl) (fun _ _ => rfl) hsp Tryd.func24 rfl (n := 1) (fun _ => rfl) (by kernel_rfl) (vcast (by kernel_rfl) h)

set_option maxRecDepth 1000000 in
theorem row_vc (hsp : SpecsOk Tryd.prog spRow) (h : ∀ (g : GRow) (w : World),
U8 w ∧ g.s.size ≤ (67108864 : Nat) ∧ CellsAt w g.a (List.map Value.string g.want) ∧ g.want.length ≤ (1000000 : Nat) →
∃ (g1 : ByteArray),
#[Value.string g.s] = #[Value.string g1] ∧
True ∧
∀ (x : Nat) (w' : World),
w.heap.size ≤ x ∧ w'.heap[x]? = some (Obj.cells #[Value.string g1] (9 : TypeId)) ∧ Ext w w' →
∃ (g2 : GIt),
#[Value.func (Fn.func (47 : Nat)) #[] #[Value.pointer (some { block := x, off := (0 : Nat) })]] =
#[Value.func (Fn.func g2.f) #[] g2.caps] ∧
g2.ok w' ∧
∀ (x1 : Option Addr × Nat × Nat) (w'1 : World),
x1.snd.fst = g2.xs.length ∧
Made w' w'1 (38 : TypeId) (2 : Nat) x1.fst x1.snd.fst (List.flatMap encPc g2.xs) x1.snd.snd →
bcase ((↑x1.snd.fst : Int) != (↑g.want.length : Int))
(∃ (x2 : Bool), Value.bool false = Value.bool x2 ∧ x2 = rowB g.s g.want ∧ Ext w w'1)
((∃ (x2 : Nat),
Value.int IntKind.i64 (0 : Int) = Value.int IntKind.i64 (↑x2 : Int) ∧
Value.int IntKind.i64 (0 : Int) = Value.int IntKind.i64 (↑(bp g.s x2) : Int) ∧
x2 ≤ ncl g.s ∧ List.take x2 (List.map Prod.snd (pcL g.s)) = List.take x2 g.want ∧ Ext w'1 w'1) ∧
∀ (u : Nat → Value) (x2 : Nat) (w'2 : World),
x2 ≤ ncl g.s ∧ List.take x2 (List.map Prod.snd (pcL g.s)) = List.take x2 g.want ∧ Ext w'1 w'2 →
bcase (decide ((↑x2 : Int) < (↑x1.snd.fst : Int)))
(∀ (w1 : World),
Drew w'2 w1 →
∃ (k : Nat),
(↑x2 : Int) = (↑k : Int) ∧
k < x1.snd.fst ∧
ptrE x1.fst fun (b o : Nat) =>
∃ (s : ByteArray),
w'2.cell? { block := b, off := o + k * (2 : Nat) + (1 : Nat) } = some (Value.string s) ∧
∃ (k1 : Nat),
(↑x2 : Int) = (↑k1 : Int) ∧
k1 < g.want.length ∧
ptrE g.a fun (b1 o1 : Nat) =>
∃ (s1 : ByteArray),
w'2.cell? { block := b1, off := o1 + k1 } = some (Value.string s1) ∧
bcase (!s.toList == s1.toList) (∃ (x3 : Bool), Value.bool false = Value.bool x3 ∧ x3 = rowB g.s g.want ∧ Ext w w1)
(∃ (k2 : Nat),
(↑x2 : Int) = (↑k2 : Int) ∧
k2 < x1.snd.fst ∧
ptrE x1.fst fun (b2 o2 : Nat) =>
∃ (n : Int),
w'2.cell? { block := b2, off := o2 + k2 * (2 : Nat) } = some (Value.int IntKind.i64 n) ∧
bcase (n != (↑(bp g.s x2) : Int)) (∃ (x3 : Bool), Value.bool false = Value.bool x3 ∧ x3 = rowB g.s g.want ∧ Ext w w1)
(∃ (k3 : Nat),
(↑x2 : Int) = (↑k3 : Int) ∧
k3 < g.want.length ∧
ptrE g.a fun (b3 o3 : Nat) =>
∃ (s2 : ByteArray),
w1.cell? { block := b3, off := o3 + k3 } = some (Value.string s2) ∧
InR IntKind.i64 ((↑(bp g.s x2) : Int) + (↑s2.size : Int)) ∧
InR IntKind.i64 ((↑x2 : Int) + (1 : Int)) ∧
∃ (y : Nat),
Value.int IntKind.i64 ((↑x2 : Int) + (1 : Int)) = Value.int IntKind.i64 (↑y : Int) ∧
Value.int IntKind.i64 ((↑(bp g.s x2) : Int) + (↑s2.size : Int)) = Value.int IntKind.i64 (↑(bp g.s y) : Int) ∧
(y ≤ ncl g.s ∧ List.take y (List.map Prod.snd (pcL g.s)) = List.take y g.want ∧ Ext w'1 w1) ∧
ncl g.s - y < ncl g.s - x2)))
(∃ (x3 : Bool), Value.bool true = Value.bool x3 ∧ x3 = rowB g.s g.want ∧ Ext w w'2))) :
    (sRow).Ok Tryd.prog 26 :=
  ok_of_vc sRow annRow spRow (fun _ _ => rfl) (fun _ _ => rfl) hsp Tryd.func26 rfl (n := 2) (fun _ => rfl) (by kernel_rfl) (vcast (by kernel_rfl) h)

set_option maxRecDepth 1000000 in
theorem sameP_vc (hsp : SpecsOk Tryd.prog []) (h : ∀ (g : GPp) (w : World),
(CellsAt w g.a (List.flatMap encPc g.l) ∧
CellsAt w g.b (List.flatMap encPc g.m) ∧
g.l.length ≤ (67108864 : Nat) ∧ g.k ≤ (67108864 : Nat) ∧ ∀ (p : Nat × ByteArray), p ∈ g.m → p.fst ≤ (67108864 : Nat)) →
bcase ((↑g.l.length : Int) != (↑g.m.length : Int))
(∃ (x : Bool), Value.bool false = Value.bool x ∧ x = decide (g.l = List.map (upP g.k) g.m) ∧ Ext w w)
((∃ (x : Nat),
Value.int IntKind.i64 (0 : Int) = Value.int IntKind.i64 (↑x : Int) ∧
x ≤ g.l.length ∧ List.take x g.l = List.take x (List.map (upP g.k) g.m) ∧ Ext w w) ∧
∀ (u : Nat → Value) (x : Nat) (w' : World),
x ≤ g.l.length ∧ List.take x g.l = List.take x (List.map (upP g.k) g.m) ∧ Ext w w' →
bcase (decide ((↑x : Int) < (↑g.l.length : Int)))
(∀ (w1 : World),
Drew w' w1 →
∃ (k : Nat),
(↑x : Int) = (↑k : Int) ∧
k < g.l.length ∧
ptrE g.a fun (b o : Nat) =>
∃ (s : ByteArray),
w'.cell? { block := b, off := o + k * (2 : Nat) + (1 : Nat) } = some (Value.string s) ∧
∃ (k1 : Nat),
(↑x : Int) = (↑k1 : Int) ∧
k1 < g.m.length ∧
ptrE g.b fun (b1 o1 : Nat) =>
∃ (s1 : ByteArray),
w'.cell? { block := b1, off := o1 + k1 * (2 : Nat) + (1 : Nat) } = some (Value.string s1) ∧
bcase (!s.toList == s1.toList)
(∃ (x1 : Bool), Value.bool false = Value.bool x1 ∧ x1 = decide (g.l = List.map (upP g.k) g.m) ∧ Ext w w1)
(∃ (k2 : Nat),
(↑x : Int) = (↑k2 : Int) ∧
k2 < g.l.length ∧
ptrE g.a fun (b2 o2 : Nat) =>
∃ (n : Int),
w'.cell? { block := b2, off := o2 + k2 * (2 : Nat) } = some (Value.int IntKind.i64 n) ∧
∃ (k3 : Nat),
(↑x : Int) = (↑k3 : Int) ∧
k3 < g.m.length ∧
ptrE g.b fun (b3 o3 : Nat) =>
∃ (n1 : Int),
w'.cell? { block := b3, off := o3 + k3 * (2 : Nat) } = some (Value.int IntKind.i64 n1) ∧
InR IntKind.i64 (n1 + (↑g.k : Int)) ∧
bcase (n != n1 + (↑g.k : Int))
(∃ (x1 : Bool), Value.bool false = Value.bool x1 ∧ x1 = decide (g.l = List.map (upP g.k) g.m) ∧ Ext w w1)
(InR IntKind.i64 ((↑x : Int) + (1 : Int)) ∧
∃ (y : Nat),
Value.int IntKind.i64 ((↑x : Int) + (1 : Int)) = Value.int IntKind.i64 (↑y : Int) ∧
(y ≤ g.l.length ∧ List.take y g.l = List.take y (List.map (upP g.k) g.m) ∧ Ext w w1) ∧
g.l.length - y < g.l.length - x)))
(∃ (x1 : Bool), Value.bool true = Value.bool x1 ∧ x1 = decide (g.l = List.map (upP g.k) g.m) ∧ Ext w w'))) :
    (sSameP).Ok Tryd.prog 25 :=
  ok_of_vc sSameP annSameP [] (fun _ _ => rfl) (fun _ _ => rfl) hsp Tryd.func25 rfl (n := 3) (fun _ => rfl) (by kernel_rfl) (vcast (by kernel_rfl) h)

set_option maxRecDepth 1000000 in
theorem steps_vc (hsp : SpecsOk Tryd.prog spSteps) (h : ∀ (g : Unit) (w : World),
U8 w →
∃ (g1 : ByteArray),
#[Value.string (ByteArray.mk #[(97 : UInt8)])] = #[Value.string g1] ∧
(U8 w ∧ g1.size ≤ (67108864 : Nat)) ∧
∀ (x : Nat) (w' : World),
x = nextL g1 ∧ Ext w w' →
bcase ((↑x : Int) == (1 : Int))
(∃ (g2 : ByteArray),
#[Value.string (ByteArray.mk #[(97 : UInt8)])] = #[Value.string g2] ∧
(U8 w' ∧ g2.size ≤ (67108864 : Nat)) ∧
∀ (x1 : Nat) (w'1 : World),
x1 = lastL g2 ∧ Ext w' w'1 → ∃ (x2 : Unit), Value.bool ((↑x1 : Int) == (1 : Int)) = Value.bool true ∧ Ext w w'1)
(∃ (x1 : Unit), Value.bool false = Value.bool true ∧ Ext w w')) :
    ((sYes U8)).Ok Tryd.prog 9 :=
  ok_of_vc (sYes U8) (annOf spSteps) spSteps (fun _ _ => rfl) (fun _ _ => rfl) hsp Tryd.func9 rfl (n := 0) (fun _ => rfl) (by kernel_rfl) (vcast (by kernel_rfl) h)

set_option maxRecDepth 1000000 in
theorem alive_vc (hsp : SpecsOk Tryd.prog spAlive) (h : ∀ (g : Unit) (w : World),
U8 w →
∃ (g1 : Unit),
(#[] : Array Value) = #[] ∧
U8 w ∧
∀ (x : Unit) (w' : World),
Ext w w' →
∃ (g2 : ByteArray × Int),
#[Value.string (ByteArray.mk #[(97 : UInt8), (204 : UInt8), (129 : UInt8), (98 : UInt8)]),
Value.int IntKind.i64 (1 : Int)] =
#[Value.string g2.fst, Value.int IntKind.i64 g2.snd] ∧
(U8 w' ∧ g2.fst.size ≤ (67108864 : Nat)) ∧
∀ (x1 : Nat × Nat) (w'1 : World),
x1 = (bp g2.fst (ixP g2.fst (clampN g2.fst g2.snd)), bp g2.fst (ixP g2.fst (clampN g2.fst g2.snd) + (1 : Nat))) ∧
Ext w' w'1 →
∀ (b : Nat) (w1 : World),
New w'1
(Obj.cells
#[Value.string (ByteArray.mk #[(97 : UInt8), (204 : UInt8), (129 : UInt8)]),
Value.string (ByteArray.mk #[(13 : UInt8), (10 : UInt8)]), Value.string (ByteArray.mk #[(98 : UInt8)]),
Value.string (ByteArray.mk #[(128 : UInt8)])]
(9 : Nat))
b w1 →
∃ (g3 : GRow),
#[Value.string
(ByteArray.mk #[(97 : UInt8), (204 : UInt8), (129 : UInt8), (13 : UInt8), (10 : UInt8), (98 : UInt8), (128 : UInt8)]),
Value.slice (some { block := b, off := (0 : Nat) }) (4 : Nat) (4 : Nat)] =
#[Value.string g3.s, Value.slice g3.a g3.want.length g3.c] ∧
(U8 w1 ∧
g3.s.size ≤ (67108864 : Nat) ∧ CellsAt w1 g3.a (List.map Value.string g3.want) ∧ g3.want.length ≤ (1000000 : Nat)) ∧
∀ (x2 : Bool) (w'2 : World),
x2 = rowB g3.s g3.want ∧ Ext w1 w'2 →
bcase x2
(∃ (g4 : ByteArray),
#[Value.string (ByteArray.mk #[(97 : UInt8), (204 : UInt8), (129 : UInt8), (98 : UInt8)])] = #[Value.string g4] ∧
(U8 w'2 ∧ g4.size ≤ (67108864 : Nat)) ∧
∀ (x3 : Nat) (w'3 : World),
x3 = nextL g4 ∧ Ext w'2 w'3 →
bcase ((↑x3 : Int) == (3 : Int))
(∃ (g5 : ByteArray),
#[Value.string (ByteArray.mk #[(97 : UInt8), (204 : UInt8), (129 : UInt8), (204 : UInt8), (130 : UInt8)])] =
#[Value.string g5] ∧
(U8 w'3 ∧ g5.size ≤ (67108864 : Nat)) ∧
∀ (x4 : Nat) (w'4 : World),
x4 = lastL g5 ∧ Ext w'3 w'4 →
bcase ((↑x4 : Int) == (5 : Int))
(∃ (g6 : ByteArray × Int),
#[Value.string (ByteArray.mk #[(97 : UInt8), (204 : UInt8), (129 : UInt8)]), Value.int IntKind.i64 (3 : Int)] =
#[Value.string g6.fst, Value.int IntKind.i64 g6.snd] ∧
(U8 w'4 ∧ g6.fst.size ≤ (67108864 : Nat)) ∧
∀ (x5 : Bool) (w'5 : World),
x5 = isB g6.fst g6.snd ∧ Ext w'4 w'5 →
bcase x5
(∃ (g7 : ByteArray × Int),
#[Value.string (ByteArray.mk #[(97 : UInt8), (204 : UInt8), (129 : UInt8)]), Value.int IntKind.i64 (1 : Int)] =
#[Value.string g7.fst, Value.int IntKind.i64 g7.snd] ∧
(U8 w'5 ∧ g7.fst.size ≤ (67108864 : Nat)) ∧
∀ (x6 : Bool) (w'6 : World),
x6 = isB g7.fst g7.snd ∧ Ext w'5 w'6 →
bcase (!x6)
(bcase ((↑x1.fst : Int) == (0 : Int))
(bcase ((↑x1.snd : Int) == (3 : Int))
(∃ (g8 : ByteArray),
#[Value.string
{
data :=
#[(225 : UInt8), (132 : UInt8), (128 : UInt8), (225 : UInt8), (133 : UInt8), (161 : UInt8), (225 : UInt8),
(134 : UInt8), (168 : UInt8), (120 : UInt8)] }] =
#[Value.string g8] ∧
(U8 w'6 ∧ g8.size ≤ (67108864 : Nat)) ∧
∀ (x7 : Nat) (w'7 : World),
x7 = ncl g8 ∧ Ext w'6 w'7 →
bcase ((↑x7 : Int) == (2 : Int))
(∃ (g9 : ByteArray),
#[Value.string (ByteArray.mk #[(97 : UInt8), (98 : UInt8)])] = #[Value.string g9] ∧
(U8 w'7 ∧ g9.size ≤ (67108864 : Nat)) ∧
∀ (x8 : GBk) (w'8 : World),
x8.s = g9 ∧
BkAt x8 w'8 ∧
w'7.heap.size ≤ x8.bl ∧ w'7.heap.size ≤ x8.bs ∧ (∀ (q : Nat), blk x8.a = some q → w'7.heap.size ≤ q) ∧ Ext w'7 w'8 →
∃ (g10 : GIt),
#[Value.func (Fn.func (33 : FuncId)) #[]
#[Value.pointer (some { block := x8.bl, off := (0 : Nat) }),
Value.pointer (some { block := x8.bs, off := (0 : Nat) })]] =
#[Value.func (Fn.func g10.f) #[] g10.caps] ∧
g10.ok w'8 ∧
∀ (x9 : Option Addr × Nat × Nat) (w'9 : World),
x9.snd.fst = g10.xs.length ∧
Made w'8 w'9 (38 : TypeId) (2 : Nat) x9.fst x9.snd.fst (List.flatMap encPc g10.xs) x9.snd.snd →
∃ (x10 : Unit), Value.bool ((↑x9.snd.fst : Int) == (2 : Int)) = Value.bool true ∧ Ext w w'9)
(∃ (x8 : Unit), Value.bool false = Value.bool true ∧ Ext w w'7))
(∃ (x7 : Unit), Value.bool false = Value.bool true ∧ Ext w w'6))
(∃ (x7 : Unit), Value.bool false = Value.bool true ∧ Ext w w'6))
(∃ (x7 : Unit), Value.bool false = Value.bool true ∧ Ext w w'6))
(∃ (x6 : Unit), Value.bool false = Value.bool true ∧ Ext w w'5))
(∃ (x5 : Unit), Value.bool false = Value.bool true ∧ Ext w w'4))
(∃ (x4 : Unit), Value.bool false = Value.bool true ∧ Ext w w'3))
(∃ (x3 : Unit), Value.bool false = Value.bool true ∧ Ext w w'2)) :
    ((sYes U8)).Ok Tryd.prog 19 :=
  ok_of_vc (sYes U8) (annOf spAlive) spAlive (fun _ _ => rfl) (fun _ _ => rfl) hsp Tryd.func19 rfl (n := 0) (fun _ => rfl) (by kernel_rfl) (vcast (by kernel_rfl) h)

end Go.Proofs.YtniiamobbgnjaaaDoor
