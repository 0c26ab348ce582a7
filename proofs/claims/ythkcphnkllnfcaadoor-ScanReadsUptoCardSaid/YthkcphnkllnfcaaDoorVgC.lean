/-
  Verification conditions, printed by a program out of the specifications beside this text: each theorem says that the condition suffices. (Lean's kernel compares the printed condition with what 'wpE' computes.)
-/
import Derived.Test.YthkcphnkllnfcaaDoorSpC
import Derived.Test.YthkcphnkllnfcaaDoorProg
import Derived.KernelRfl
set_option linter.unusedVariables false
namespace Go.Proofs.YthkcphnkllnfcaaDoor
open Go Go.RowKit Vc Ut

set_option maxRecDepth 1000000 in
theorem itAll_vc (hsp : SpecsOk Tryd.prog []) (h : ∀ (g : ByteArray × Nat) (i : ItG) (W : World),
W.heap[g.snd]? = some (Obj.cells #[Value.string g.fst] (9 : TypeId)) →
ItPre (List.map encIt (List.map (atN g.fst) (allN g.fst))) (fun (q : Nat) => q = g.snd) i W →
∃ (s : ByteArray),
W.cell? { block := g.snd, off := (0 : Nat) } = some (Value.string s) ∧
∀ (b : Nat) (w1 : World),
New W (Obj.stringIter s (0 : Nat)) b w1 →
(∃ (x : Nat × (Nat → Prop)),
x.fst ≤ cnt g.fst ∧
i.J x.fst x.snd w1 ∧
Mid W i.D0 x.snd w1 ∧
∃ (r : Nat),
Value.pointer (some { block := b, off := (0 : Nat) }) = Value.pointer (some { block := r, off := (0 : Nat) }) ∧
W.heap.size ≤ r ∧ ¬x.snd r ∧ w1.heap[r]? = some (Obj.stringIter g.fst (pos g.fst x.fst))) ∧
∀ (u : Nat → Value) (x : Nat × (Nat → Prop)) (w' : World),
(x.fst ≤ cnt g.fst ∧
i.J x.fst x.snd w' ∧
Mid W i.D0 x.snd w' ∧
∃ (r : Nat),
Value.pointer (some { block := b, off := (0 : Nat) }) = Value.pointer (some { block := r, off := (0 : Nat) }) ∧
W.heap.size ≤ r ∧ ¬x.snd r ∧ w'.heap[r]? = some (Obj.stringIter g.fst (pos g.fst x.fst))) →
∃ (s1 : ByteArray),
∃ (i1 : Nat),
w'.heap[b]? = some (Obj.stringIter s1 i1) ∧
bcase (decide (i1 < s1.size))
(∀ (w11 : World),
Nexted w' b s1 i1 w11 →
i.l = i.l ∧
∃ (q : Nat × (Nat → Prop)),
[Value.int IntKind.i64 (↑i1 : Int), Value.int IntKind.i32 (dcR s1 i1)] =
(List.map encIt (List.map (atN g.fst) (allN g.fst))).getD q.fst [] ∧
(q.fst < (List.map encIt (List.map (atN g.fst) (allN g.fst))).length ∧ i.J q.fst q.snd w11 ∧ Mid W i.D0 q.snd w11) ∧
∀ (b1 : Bool) (w'1 : World),
(∃ (D' : Nat → Prop),
Step q.snd w11 w'1 D' ∧ (b1 = true → i.J (q.fst + (1 : Nat)) D' w'1) ∧ (b1 = false → i.Jx D' w'1)) →
bcase (!b1) (ItPost (List.map encIt (List.map (atN g.fst) (allN g.fst))) i W w'1)
(∃ (y : Nat × (Nat → Prop)),
(y.fst ≤ cnt g.fst ∧
i.J y.fst y.snd w'1 ∧
Mid W i.D0 y.snd w'1 ∧
∃ (r : Nat),
Value.pointer (some { block := b, off := (0 : Nat) }) = Value.pointer (some { block := r, off := (0 : Nat) }) ∧
W.heap.size ≤ r ∧ ¬y.snd r ∧ w'1.heap[r]? = some (Obj.stringIter g.fst (pos g.fst y.fst))) ∧
cnt g.fst - y.fst < cnt g.fst - x.fst))
(ItPost (List.map encIt (List.map (atN g.fst) (allN g.fst))) i W w')) :
    (itAll).Ok Tryd.prog 54 :=
  iter_of_vc itAll annItAll [] (fun _ _ _ => rfl) (fun _ _ _ => rfl) hsp (enters_of Tryd.func54 (by kernel_rfl) rfl) Tryd.func54 rfl (n := 1) (fun _ => rfl) (by kernel_rfl) (vcast (by kernel_rfl) h)

set_option maxRecDepth 1000000 in
theorem itBack_vc (hsp : SpecsOk Tryd.prog spItBack) (h : ∀ (g : ByteArray × Nat) (i : ItG) (W : World),
W.heap[g.snd]? = some (Obj.cells #[Value.string g.fst] (9 : TypeId)) ∧ U8 W ∧ g.fst.size ≤ (67108864 : Nat) →
ItPre (List.map encIt (List.map (atN g.fst) (backN g.fst))) (fun (q : Nat) => q = g.snd ∨ q = (0 : Nat) ∨ q = (1 : Nat))
i W →
∃ (s : ByteArray),
W.cell? { block := g.snd, off := (0 : Nat) } = some (Value.string s) ∧
(∃ (x : Nat × (Nat → Prop)),
Value.int IntKind.i64 (↑s.size : Int) = Value.int IntKind.i64 (↑(pos g.fst (cnt g.fst - x.fst)) : Int) ∧
x.fst ≤ cnt g.fst ∧ i.J x.fst x.snd W ∧ Mid W i.D0 x.snd W) ∧
∀ (u : Nat → Value) (x : Nat × (Nat → Prop)) (w' : World),
x.fst ≤ cnt g.fst ∧ i.J x.fst x.snd w' ∧ Mid W i.D0 x.snd w' →
bcase (decide ((↑(pos g.fst (cnt g.fst - x.fst)) : Int) > (0 : Int)))
(∃ (s1 : ByteArray),
w'.cell? { block := g.snd, off := (0 : Nat) } = some (Value.string s1) ∧
∃ (k : Nat),
(↑(pos g.fst (cnt g.fst - x.fst)) : Int) = (↑k : Int) ∧
(0 : Nat) ≤ k ∧
k ≤ s1.size ∧
∃ (g1 : ByteArray),
#[Value.string (s1.extract (0 : Nat) k)] = #[Value.string g1] ∧
(U8 w' ∧ g1.size ≤ (67108864 : Nat)) ∧
∀ (x1 : Int × Nat) (w'1 : World),
x1.fst = lsR g1 ∧ x1.snd = lsN g1 ∧ Ext w' w'1 →
InR IntKind.i64 ((↑(pos g.fst (cnt g.fst - x.fst)) : Int) - (↑x1.snd : Int)) ∧
i.l = i.l ∧
∃ (q : Nat × (Nat → Prop)),
[Value.int IntKind.i64 ((↑(pos g.fst (cnt g.fst - x.fst)) : Int) - (↑x1.snd : Int)), Value.int IntKind.i32 x1.fst] =
(List.map encIt (List.map (atN g.fst) (backN g.fst))).getD q.fst [] ∧
(q.fst < (List.map encIt (List.map (atN g.fst) (backN g.fst))).length ∧ i.J q.fst q.snd w'1 ∧ Mid W i.D0 q.snd w'1) ∧
∀ (b : Bool) (w'2 : World),
(∃ (D' : Nat → Prop), Step q.snd w'1 w'2 D' ∧ (b = true → i.J (q.fst + (1 : Nat)) D' w'2) ∧ (b = false → i.Jx D' w'2)) →
bcase (!b) (ItPost (List.map encIt (List.map (atN g.fst) (backN g.fst))) i W w'2)
(∃ (y : Nat × (Nat → Prop)),
Value.int IntKind.i64 ((↑(pos g.fst (cnt g.fst - x.fst)) : Int) - (↑x1.snd : Int)) =
Value.int IntKind.i64 (↑(pos g.fst (cnt g.fst - y.fst)) : Int) ∧
(y.fst ≤ cnt g.fst ∧ i.J y.fst y.snd w'2 ∧ Mid W i.D0 y.snd w'2) ∧ cnt g.fst - y.fst < cnt g.fst - x.fst))
(ItPost (List.map encIt (List.map (atN g.fst) (backN g.fst))) i W w')) :
    (itBack).Ok Tryd.prog 55 :=
  iter_of_vc itBack annItBack spItBack (fun _ _ _ => rfl) (fun _ _ _ => rfl) hsp (enters_of Tryd.func55 (by kernel_rfl) rfl) Tryd.func55 rfl (n := 1) (fun _ => rfl) (by kernel_rfl) (vcast (by kernel_rfl) h)

set_option maxRecDepth 1000000 in
theorem sall_vc (hsp : SpecsOk Tryd.prog []) (h : ∀ (g : ByteArray) (w : World),
True →
∀ (b : Nat) (w1 : World),
New w (Obj.cells #[Value.string g] (9 : Nat)) b w1 →
∃ (x : Nat),
Value.func (Fn.func (54 : Nat)) #[] #[Value.pointer (some { block := b, off := (0 : Nat) })] =
Value.func (Fn.func (54 : Nat)) #[] #[Value.pointer (some { block := x, off := (0 : Nat) })] ∧
w.heap.size ≤ x ∧ w1.heap[x]? = some (Obj.cells #[Value.string g] (9 : TypeId)) ∧ Ext w w1) :
    ((sIter 54)).Ok Tryd.prog 29 :=
  ok_of_vc (sIter 54) (annOf []) [] (fun _ _ => rfl) (fun _ _ => rfl) hsp Tryd.func29 rfl (n := 1) (fun _ => rfl) (by kernel_rfl) (vcast (by kernel_rfl) h)

set_option maxRecDepth 1000000 in
theorem sback_vc (hsp : SpecsOk Tryd.prog []) (h : ∀ (g : ByteArray) (w : World),
True →
∀ (b : Nat) (w1 : World),
New w (Obj.cells #[Value.string g] (9 : Nat)) b w1 →
∃ (x : Nat),
Value.func (Fn.func (55 : Nat)) #[] #[Value.pointer (some { block := b, off := (0 : Nat) })] =
Value.func (Fn.func (55 : Nat)) #[] #[Value.pointer (some { block := x, off := (0 : Nat) })] ∧
w.heap.size ≤ x ∧ w1.heap[x]? = some (Obj.cells #[Value.string g] (9 : TypeId)) ∧ Ext w w1) :
    ((sIter 55)).Ok Tryd.prog 30 :=
  ok_of_vc (sIter 55) (annOf []) [] (fun _ _ => rfl) (fun _ _ => rfl) hsp Tryd.func30 rfl (n := 1) (fun _ => rfl) (by kernel_rfl) (vcast (by kernel_rfl) h)

set_option maxRecDepth 1000000 in
theorem last_vc (hsp : SpecsOk Tryd.prog spLast) (h : ∀ (g : ByteArray) (w : World),
U8 w ∧ g.size ≤ (67108864 : Nat) →
∀ (b : Nat) (w1 : World),
New w (Obj.cells #[Value.string g] (9 : Nat)) b w1 →
∀ (b1 : Nat) (w11 : World),
New w1 (Obj.cells #[Value.int IntKind.i32 (0 : Int)] (21 : Nat)) b1 w11 →
∀ (b2 : Nat) (w12 : World),
New w11 (Obj.cells #[Value.int IntKind.i64 (0 : Int)] (3 : Nat)) b2 w12 →
∃ (s : ByteArray),
w12.cell? { block := b, off := (0 : Nat) } = some (Value.string s) ∧
∃ (g1 : ByteArray),
#[Value.string s] = #[Value.string g1] ∧
True ∧
∀ (x : Nat) (w' : World),
w12.heap.size ≤ x ∧ w'.heap[x]? = some (Obj.cells #[Value.string g1] (9 : TypeId)) ∧ Ext w12 w' →
∃ (xs : List (Nat × Int)),
∃ (C : Nat → Prop),
∃ (D0 : Nat → Prop),
IterAt Tryd.prog (Value.func (Fn.func (55 : Nat)) #[] #[Value.pointer (some { block := x, off := (0 : Nat) })])
(List.map encIt xs) C w' ∧
DomOk w' C D0 ∧
((0 : Nat) = (0 : Nat) ∧
D0 =
ones
[ptrB (Value.pointer (some { block := b1, off := (0 : Nat) })),
ptrB (Value.pointer (some { block := b2, off := (0 : Nat) }))] ∧
w'.heap[ptrB (Value.pointer (some { block := b1, off := (0 : Nat) }))]? =
w'.heap[ptrB (Value.pointer (some { block := b1, off := (0 : Nat) }))]? ∧
w'.heap[ptrB (Value.pointer (some { block := b2, off := (0 : Nat) }))]? =
w'.heap[ptrB (Value.pointer (some { block := b2, off := (0 : Nat) }))]?) ∧
(Stab w'.heap.size fun (k : Nat) (D : Nat → Prop) (W : World) =>
k = (0 : Nat) ∧
D =
ones
[ptrB (Value.pointer (some { block := b1, off := (0 : Nat) })),
ptrB (Value.pointer (some { block := b2, off := (0 : Nat) }))] ∧
W.heap[ptrB (Value.pointer (some { block := b1, off := (0 : Nat) }))]? =
w'.heap[ptrB (Value.pointer (some { block := b1, off := (0 : Nat) }))]? ∧
W.heap[ptrB (Value.pointer (some { block := b2, off := (0 : Nat) }))]? =
w'.heap[ptrB (Value.pointer (some { block := b2, off := (0 : Nat) }))]?) ∧
(∀ (x1 : Exit),
Stab w'.heap.size fun (x : Nat) (D : Nat → Prop) (W : World) =>
D =
ones
[ptrB (Value.pointer (some { block := b1, off := (0 : Nat) })),
ptrB (Value.pointer (some { block := b2, off := (0 : Nat) }))] ∧
(0 : Nat) < cnt g ∧
W.heap[ptrB (Value.pointer (some { block := b1, off := (0 : Nat) }))]? =
some (Obj.cells #[Value.int IntKind.i32 (lsR g)] (21 : TypeId)) ∧
W.heap[ptrB (Value.pointer (some { block := b2, off := (0 : Nat) }))]? =
some (Obj.cells #[Value.int IntKind.i64 (↑(lsN g) : Int)] (3 : TypeId))) ∧
(∀ (k : Nat) (x1 : Nat × Int) (D : Nat → Prop) (W : World),
xs[k]? = some x1 →
k = (0 : Nat) ∧
D =
ones
[ptrB (Value.pointer (some { block := b1, off := (0 : Nat) })),
ptrB (Value.pointer (some { block := b2, off := (0 : Nat) }))] ∧
W.heap[ptrB (Value.pointer (some { block := b1, off := (0 : Nat) }))]? =
w'.heap[ptrB (Value.pointer (some { block := b1, off := (0 : Nat) }))]? ∧
W.heap[ptrB (Value.pointer (some { block := b2, off := (0 : Nat) }))]? =
w'.heap[ptrB (Value.pointer (some { block := b2, off := (0 : Nat) }))]? →
Mid w' D0 D W →
∀ (w13 : World),
Drew W w13 →
¬ones
[ptrB (Value.pointer (some { block := b1, off := (0 : Nat) })),
ptrB (Value.pointer (some { block := b2, off := (0 : Nat) }))]
b ∧
∃ (s1 : ByteArray),
W.cell? { block := b, off := (0 : Nat) } = some (Value.string s1) ∧
InR IntKind.i64 ((↑s1.size : Int) - (↑x1.fst : Int)) ∧
true = true ∧
(∃ (old : Value), w13.cell? { block := b1, off := (0 : Nat) } = some old) ∧
w13.frozen? { block := b1, off := (0 : Nat) } = false ∧
∀ (w14 : World),
Stored w13 { block := b1, off := (0 : Nat) } (Value.int IntKind.i32 x1.snd) w14 →
Fr
(ones
[ptrB (Value.pointer (some { block := b1, off := (0 : Nat) })),
ptrB (Value.pointer (some { block := b2, off := (0 : Nat) }))])
w13 w14 ∧
true = true ∧
(∃ (old : Value), w14.cell? { block := b2, off := (0 : Nat) } = some old) ∧
w14.frozen? { block := b2, off := (0 : Nat) } = false ∧
∀ (w15 : World),
Stored w14 { block := b2, off := (0 : Nat) } (Value.int IntKind.i64 ((↑s1.size : Int) - (↑x1.fst : Int))) w15 →
∃ (D' : Nat → Prop),
Step D W w15 D' ∧
D' =
ones
[ptrB (Value.pointer (some { block := b1, off := (0 : Nat) })),
ptrB (Value.pointer (some { block := b2, off := (0 : Nat) }))] ∧
(0 : Nat) < cnt g ∧
w15.heap[ptrB (Value.pointer (some { block := b1, off := (0 : Nat) }))]? =
some (Obj.cells #[Value.int IntKind.i32 (lsR g)] (21 : TypeId)) ∧
w15.heap[ptrB (Value.pointer (some { block := b2, off := (0 : Nat) }))]? =
some (Obj.cells #[Value.int IntKind.i64 (↑(lsN g) : Int)] (3 : TypeId))) ∧
(∀ (D : Nat → Prop) (W : World),
lenX xs = (0 : Nat) ∧
D =
ones
[ptrB (Value.pointer (some { block := b1, off := (0 : Nat) })),
ptrB (Value.pointer (some { block := b2, off := (0 : Nat) }))] ∧
W.heap[ptrB (Value.pointer (some { block := b1, off := (0 : Nat) }))]? =
w'.heap[ptrB (Value.pointer (some { block := b1, off := (0 : Nat) }))]? ∧
W.heap[ptrB (Value.pointer (some { block := b2, off := (0 : Nat) }))]? =
w'.heap[ptrB (Value.pointer (some { block := b2, off := (0 : Nat) }))]? →
Mid w' D0 D W →
true = true ∧
(∃ (old : Value), W.cell? { block := b1, off := (0 : Nat) } = some old) ∧
W.frozen? { block := b1, off := (0 : Nat) } = false ∧
∀ (w13 : World),
Stored W { block := b1, off := (0 : Nat) } (Value.int IntKind.i32 (65533 : Int)) w13 →
true = true ∧
(∃ (old : Value), w13.cell? { block := b2, off := (0 : Nat) } = some old) ∧
w13.frozen? { block := b2, off := (0 : Nat) } = false ∧
∀ (w14 : World),
Stored w13 { block := b2, off := (0 : Nat) } (Value.int IntKind.i64 (0 : Int)) w14 →
∃ (n : Int),
w14.cell? { block := b1, off := (0 : Nat) } = some (Value.int IntKind.i32 n) ∧
∃ (n1 : Int),
w14.cell? { block := b2, off := (0 : Nat) } = some (Value.int IntKind.i64 n1) ∧
∀ (w2 : World),
Turn w.heap.size w14 w2 →
∃ (x1 : Int × Nat),
Value.tuple #[Value.int IntKind.i32 n, Value.int IntKind.i64 n1] =
Value.tuple #[Value.int IntKind.i32 x1.fst, Value.int IntKind.i64 (↑x1.snd : Int)] ∧
x1.fst = lsR g ∧ x1.snd = lsN g ∧ Ext w w2) ∧
∀ (D : Nat → Prop) (W : World),
D =
ones
[ptrB (Value.pointer (some { block := b1, off := (0 : Nat) })),
ptrB (Value.pointer (some { block := b2, off := (0 : Nat) }))] ∧
(0 : Nat) < cnt g ∧
W.heap[ptrB (Value.pointer (some { block := b1, off := (0 : Nat) }))]? =
some (Obj.cells #[Value.int IntKind.i32 (lsR g)] (21 : TypeId)) ∧
W.heap[ptrB (Value.pointer (some { block := b2, off := (0 : Nat) }))]? =
some (Obj.cells #[Value.int IntKind.i64 (↑(lsN g) : Int)] (3 : TypeId)) →
Mid w' D0 D W →
∃ (n : Int),
W.cell? { block := b1, off := (0 : Nat) } = some (Value.int IntKind.i32 n) ∧
∃ (n1 : Int),
W.cell? { block := b2, off := (0 : Nat) } = some (Value.int IntKind.i64 n1) ∧
∀ (w2 : World),
Turn w.heap.size W w2 →
∃ (x1 : Int × Nat),
Value.tuple #[Value.int IntKind.i32 n, Value.int IntKind.i64 n1] =
Value.tuple #[Value.int IntKind.i32 x1.fst, Value.int IntKind.i64 (↑x1.snd : Int)] ∧
x1.fst = lsR g ∧ x1.snd = lsN g ∧ Ext w w2) :
    ((sDec lsR lsN)).Ok Tryd.prog 15 :=
  ok_of_vc (sDec lsR lsN) annLast spLast (fun _ _ => rfl) (fun _ _ => rfl) hsp Tryd.func15 rfl (n := 1) (fun _ => rfl) (by kernel_rfl) (vcast (by kernel_rfl) h)

set_option maxRecDepth 1000000 in
theorem goes_vc (hsp : SpecsOk Tryd.prog []) (h : ∀ (g : GGoes) (w : World),
IterAt Tryd.prog (Value.func (Fn.func g.f) #[] #[Value.pointer (some { block := g.b, off := (0 : Nat) })])
(List.map encIt (List.map (atN g.s) g.l)) g.C w ∧
(∀ (q : Nat), g.C q → q < w.heap.size) ∧ CellsAt w g.a (List.flatMap (oneV g.s) g.l) ∧ g.l.length ≤ (67108864 : Nat) →
∀ (b : Nat) (w1 : World),
New w (Obj.cells #[Value.slice g.a g.l.length g.c] (32 : Nat)) b w1 →
∀ (b1 : Nat) (w11 : World),
New w1 (Obj.cells #[Value.int IntKind.i64 g.most] (3 : Nat)) b1 w11 →
∀ (b2 : Nat) (w12 : World),
New w11 (Obj.cells #[Value.bool false] (4 : Nat)) b2 w12 →
∀ (b3 : Nat) (w13 : World),
New w12 (Obj.cells #[Value.int IntKind.i64 (0 : Int)] (3 : Nat)) b3 w13 →
true = true ∧
(∃ (old : Value), w13.cell? { block := b3, off := (0 : Nat) } = some old) ∧
w13.frozen? { block := b3, off := (0 : Nat) } = false ∧
∀ (w14 : World),
Stored w13 { block := b3, off := (0 : Nat) } (Value.int IntKind.i64 (0 : Int)) w14 →
∃ (xs : List (Nat × Int)),
∃ (C : Nat → Prop),
∃ (D0 : Nat → Prop),
IterAt Tryd.prog (Value.func (Fn.func g.f) #[] #[Value.pointer (some { block := g.b, off := (0 : Nat) })])
(List.map encIt xs) C w14 ∧
DomOk w14 C D0 ∧
(D0 =
ones
[ptrB (Value.pointer (some { block := b3, off := (0 : Nat) })),
ptrB (Value.pointer (some { block := b2, off := (0 : Nat) }))] ∧
w14.heap[ptrB (Value.pointer (some { block := b3, off := (0 : Nat) }))]? =
some (Obj.cells #[Value.int IntKind.i64 (0 : Int)] (3 : TypeId)) ∧
∃ (v : Bool),
w14.heap[ptrB (Value.pointer (some { block := b2, off := (0 : Nat) }))]? =
some (Obj.cells #[Value.bool v] (4 : TypeId))) ∧
(Stab w14.heap.size fun (k : Nat) (D : Nat → Prop) (W : World) =>
D =
ones
[ptrB (Value.pointer (some { block := b3, off := (0 : Nat) })),
ptrB (Value.pointer (some { block := b2, off := (0 : Nat) }))] ∧
W.heap[ptrB (Value.pointer (some { block := b3, off := (0 : Nat) }))]? =
some (Obj.cells #[Value.int IntKind.i64 (↑k : Int)] (3 : TypeId)) ∧
∃ (v : Bool),
W.heap[ptrB (Value.pointer (some { block := b2, off := (0 : Nat) }))]? =
some (Obj.cells #[Value.bool v] (4 : TypeId))) ∧
(∀ (x : Exit),
Stab w14.heap.size fun (x : Nat) (D : Nat → Prop) (W : World) =>
D =
ones
[ptrB (Value.pointer (some { block := b3, off := (0 : Nat) })),
ptrB (Value.pointer (some { block := b2, off := (0 : Nat) }))] ∧
W.heap[ptrB (Value.pointer (some { block := b2, off := (0 : Nat) }))]? =
some (Obj.cells #[Value.bool true] (4 : TypeId))) ∧
(∀ (k : Nat) (x : Nat × Int) (D : Nat → Prop) (W : World),
xs[k]? = some x →
(D =
ones
[ptrB (Value.pointer (some { block := b3, off := (0 : Nat) })),
ptrB (Value.pointer (some { block := b2, off := (0 : Nat) }))] ∧
W.heap[ptrB (Value.pointer (some { block := b3, off := (0 : Nat) }))]? =
some (Obj.cells #[Value.int IntKind.i64 (↑k : Int)] (3 : TypeId)) ∧
∃ (v : Bool),
W.heap[ptrB (Value.pointer (some { block := b2, off := (0 : Nat) }))]? =
some (Obj.cells #[Value.bool v] (4 : TypeId))) →
Mid w14 D0 D W →
∃ (n : Int),
W.cell? { block := b3, off := (0 : Nat) } = some (Value.int IntKind.i64 n) ∧
∃ (n1 : Int),
W.cell? { block := b1, off := (0 : Nat) } = some (Value.int IntKind.i64 n1) ∧
bcase (n == n1)
(true = true ∧
(∃ (old : Value), W.cell? { block := b2, off := (0 : Nat) } = some old) ∧
W.frozen? { block := b2, off := (0 : Nat) } = false ∧
∀ (w15 : World),
Stored W { block := b2, off := (0 : Nat) } (Value.bool true) w15 →
∃ (D' : Nat → Prop),
Step D W w15 D' ∧
D' =
ones
[ptrB (Value.pointer (some { block := b3, off := (0 : Nat) })),
ptrB (Value.pointer (some { block := b2, off := (0 : Nat) }))] ∧
w15.heap[ptrB (Value.pointer (some { block := b2, off := (0 : Nat) }))]? =
some (Obj.cells #[Value.bool true] (4 : TypeId)))
(∃ (n2 : Int),
W.cell? { block := b3, off := (0 : Nat) } = some (Value.int IntKind.i64 n2) ∧
∃ (a9 : Option Addr),
∃ (n3 : Nat),
∃ (c : Nat),
W.cell? { block := b, off := (0 : Nat) } = some (Value.slice a9 n3 c) ∧
bcase (decide (n2 ≥ (↑n3 : Int)))
(true = true ∧
(∃ (old : Value), W.cell? { block := b2, off := (0 : Nat) } = some old) ∧
W.frozen? { block := b2, off := (0 : Nat) } = false ∧
∀ (w15 : World),
Stored W { block := b2, off := (0 : Nat) } (Value.bool false) w15 →
∃ (D' : Nat → Prop),
Step D W w15 D' ∧
D' =
ones
[ptrB (Value.pointer (some { block := b3, off := (0 : Nat) })),
ptrB (Value.pointer (some { block := b2, off := (0 : Nat) }))] ∧
w15.heap[ptrB (Value.pointer (some { block := b2, off := (0 : Nat) }))]? =
some (Obj.cells #[Value.bool true] (4 : TypeId)))
(∃ (a10 : Option Addr),
∃ (n4 : Nat),
∃ (c1 : Nat),
W.cell? { block := b, off := (0 : Nat) } = some (Value.slice a10 n4 c1) ∧
∃ (n5 : Int),
W.cell? { block := b3, off := (0 : Nat) } = some (Value.int IntKind.i64 n5) ∧
∃ (k1 : Nat),
n5 = (↑k1 : Int) ∧
k1 < n4 ∧
ptrE a10 fun (b4 o : Nat) =>
∃ (n6 : Int),
W.cell? { block := b4, off := o + k1 * (4 : Nat) } = some (Value.int IntKind.i64 n6) ∧
bcase (n6 != (↑x.fst : Int))
(true = true ∧
(∃ (old : Value), W.cell? { block := b2, off := (0 : Nat) } = some old) ∧
W.frozen? { block := b2, off := (0 : Nat) } = false ∧
∀ (w15 : World),
Stored W { block := b2, off := (0 : Nat) } (Value.bool false) w15 →
∃ (D' : Nat → Prop),
Step D W w15 D' ∧
D' =
ones
[ptrB (Value.pointer (some { block := b3, off := (0 : Nat) })),
ptrB (Value.pointer (some { block := b2, off := (0 : Nat) }))] ∧
w15.heap[ptrB (Value.pointer (some { block := b2, off := (0 : Nat) }))]? =
some (Obj.cells #[Value.bool true] (4 : TypeId)))
(∃ (a11 : Option Addr),
∃ (n7 : Nat),
∃ (c2 : Nat),
W.cell? { block := b, off := (0 : Nat) } = some (Value.slice a11 n7 c2) ∧
∃ (n8 : Int),
W.cell? { block := b3, off := (0 : Nat) } = some (Value.int IntKind.i64 n8) ∧
∃ (k2 : Nat),
n8 = (↑k2 : Int) ∧
k2 < n7 ∧
ptrE a11 fun (b5 o1 : Nat) =>
∃ (n9 : Int),
W.cell? { block := b5, off := o1 + k2 * (4 : Nat) + (1 : Nat) } = some (Value.int IntKind.i32 n9) ∧
bcase (n9 != x.snd)
(true = true ∧
(∃ (old : Value), W.cell? { block := b2, off := (0 : Nat) } = some old) ∧
W.frozen? { block := b2, off := (0 : Nat) } = false ∧
∀ (w15 : World),
Stored W { block := b2, off := (0 : Nat) } (Value.bool false) w15 →
∃ (D' : Nat → Prop),
Step D W w15 D' ∧
D' =
ones
[ptrB (Value.pointer (some { block := b3, off := (0 : Nat) })),
ptrB (Value.pointer (some { block := b2, off := (0 : Nat) }))] ∧
w15.heap[ptrB (Value.pointer (some { block := b2, off := (0 : Nat) }))]? =
some (Obj.cells #[Value.bool true] (4 : TypeId)))
(∃ (n10 : Int),
W.cell? { block := b3, off := (0 : Nat) } = some (Value.int IntKind.i64 n10) ∧
InR IntKind.i64 (n10 + (1 : Int)) ∧
true = true ∧
(∃ (old : Value), W.cell? { block := b3, off := (0 : Nat) } = some old) ∧
W.frozen? { block := b3, off := (0 : Nat) } = false ∧
∀ (w15 : World),
Stored W { block := b3, off := (0 : Nat) } (Value.int IntKind.i64 (n10 + (1 : Int))) w15 →
∃ (D' : Nat → Prop),
Step D W w15 D' ∧
D' =
ones
[ptrB (Value.pointer (some { block := b3, off := (0 : Nat) })),
ptrB (Value.pointer (some { block := b2, off := (0 : Nat) }))] ∧
w15.heap[ptrB (Value.pointer (some { block := b3, off := (0 : Nat) }))]? =
some (Obj.cells #[Value.int IntKind.i64 (↑(k + (1 : Nat)) : Int)] (3 : TypeId)) ∧
∃ (v : Bool),
w15.heap[ptrB (Value.pointer (some { block := b2, off := (0 : Nat) }))]? =
some (Obj.cells #[Value.bool v] (4 : TypeId))))))) ∧
(∀ (D : Nat → Prop) (W : World),
(D =
ones
[ptrB (Value.pointer (some { block := b3, off := (0 : Nat) })),
ptrB (Value.pointer (some { block := b2, off := (0 : Nat) }))] ∧
W.heap[ptrB (Value.pointer (some { block := b3, off := (0 : Nat) }))]? =
some (Obj.cells #[Value.int IntKind.i64 (↑(lenX xs) : Int)] (3 : TypeId)) ∧
∃ (v : Bool),
W.heap[ptrB (Value.pointer (some { block := b2, off := (0 : Nat) }))]? =
some (Obj.cells #[Value.bool v] (4 : TypeId))) →
Mid w14 D0 D W →
∃ (n : Int),
W.cell? { block := b3, off := (0 : Nat) } = some (Value.int IntKind.i64 n) ∧
∃ (a8 : Option Addr),
∃ (n1 : Nat),
∃ (c : Nat),
W.cell? { block := b, off := (0 : Nat) } = some (Value.slice a8 n1 c) ∧
true = true ∧
(∃ (old : Value), W.cell? { block := b2, off := (0 : Nat) } = some old) ∧
W.frozen? { block := b2, off := (0 : Nat) } = false ∧
∀ (w15 : World),
Stored W { block := b2, off := (0 : Nat) } (Value.bool (n == (↑n1 : Int))) w15 →
∃ (b4 : Bool),
w15.cell? { block := b2, off := (0 : Nat) } = some (Value.bool b4) ∧
∀ (w2 : World), Turn w.heap.size w15 w2 → ∃ (x : Unit), Value.bool b4 = Value.bool true ∧ Ext w w2) ∧
∀ (D : Nat → Prop) (W : World),
D =
ones
[ptrB (Value.pointer (some { block := b3, off := (0 : Nat) })),
ptrB (Value.pointer (some { block := b2, off := (0 : Nat) }))] ∧
W.heap[ptrB (Value.pointer (some { block := b2, off := (0 : Nat) }))]? =
some (Obj.cells #[Value.bool true] (4 : TypeId)) →
Mid w14 D0 D W →
∃ (b4 : Bool),
W.cell? { block := b2, off := (0 : Nat) } = some (Value.bool b4) ∧
∀ (w2 : World), Turn w.heap.size W w2 → ∃ (x : Unit), Value.bool b4 = Value.bool true ∧ Ext w w2) :
    (sGoes).Ok Tryd.prog 31 :=
  ok_of_vc sGoes annGoes [] (fun _ _ => rfl) (fun _ _ => rfl) hsp Tryd.func31 rfl (n := 3) (fun _ => rfl) (by kernel_rfl) (vcast (by kernel_rfl) h)

end Go.Proofs.YthkcphnkllnfcaaDoor
