/-
  Verification conditions, printed by a program out of the specifications beside this text: each theorem says that the condition suffices. (Lean's kernel compares the printed condition with what 'wpE' computes.)
-/
import Derived.Test.YtniiamobbgnjaaaDoorSpI
import Derived.Test.YtniiamobbgnjaaaDoorProg
import Derived.KernelRfl
set_option linter.unusedVariables false
namespace Go.Proofs.YtniiamobbgnjaaaDoor
open Go Go.RowKit Vc Ut Tb Cl

set_option maxRecDepth 1000000 in
theorem itPc_vc (hsp : SpecsOk Tryd.prog spItPc) (h : ∀ (g : ByteArray × Nat) (i : ItG) (W : World),
W.heap[g.snd]? = some (Obj.cells #[Value.string g.fst] (9 : TypeId)) ∧ U8 W ∧ g.fst.size ≤ (67108864 : Nat) →
ItPre (List.map encPc (pcL g.fst)) (fun (q : Nat) => q = g.snd ∨ q = (0 : Nat) ∨ q = (1 : Nat)) i W →
(∃ (x : Nat × (Nat → Prop)),
Value.int IntKind.i64 (0 : Int) = Value.int IntKind.i64 (↑(bp g.fst x.fst) : Int) ∧
x.fst ≤ ncl g.fst ∧ i.J x.fst x.snd W ∧ Mid W i.D0 x.snd W) ∧
∀ (u : Nat → Value) (x : Nat × (Nat → Prop)) (w' : World),
x.fst ≤ ncl g.fst ∧ i.J x.fst x.snd w' ∧ Mid W i.D0 x.snd w' →
∃ (s : ByteArray),
w'.cell? { block := g.snd, off := (0 : Nat) } = some (Value.string s) ∧
bcase (decide ((↑(bp g.fst x.fst) : Int) < (↑s.size : Int)))
(∃ (s1 : ByteArray),
w'.cell? { block := g.snd, off := (0 : Nat) } = some (Value.string s1) ∧
∃ (k : Nat),
(↑(bp g.fst x.fst) : Int) = (↑k : Int) ∧
k ≤ s1.size ∧
s1.size ≤ s1.size ∧
∃ (g1 : ByteArray),
#[Value.string (s1.extract k s1.size)] = #[Value.string g1] ∧
(U8 w' ∧ g1.size ≤ (67108864 : Nat)) ∧
∀ (x1 : Nat) (w'1 : World),
x1 = nextL g1 ∧ Ext w' w'1 →
∃ (s2 : ByteArray),
w'1.cell? { block := g.snd, off := (0 : Nat) } = some (Value.string s2) ∧
InR IntKind.i64 ((↑(bp g.fst x.fst) : Int) + (↑x1 : Int)) ∧
∃ (k1 : Nat),
(↑(bp g.fst x.fst) : Int) = (↑k1 : Int) ∧
∃ (k2 : Nat),
(↑(bp g.fst x.fst) : Int) + (↑x1 : Int) = (↑k2 : Int) ∧
k1 ≤ k2 ∧
k2 ≤ s2.size ∧
i.l = i.l ∧
∃ (q : Nat × (Nat → Prop)),
[Value.int IntKind.i64 (↑(bp g.fst x.fst) : Int), Value.string (s2.extract k1 k2)] =
(List.map encPc (pcL g.fst)).getD q.fst [] ∧
(q.fst < (List.map encPc (pcL g.fst)).length ∧ i.J q.fst q.snd w'1 ∧ Mid W i.D0 q.snd w'1) ∧
∀ (b : Bool) (w'2 : World),
(∃ (D' : Nat → Prop), Step q.snd w'1 w'2 D' ∧ (b = true → i.J (q.fst + (1 : Nat)) D' w'2) ∧ (b = false → i.Jx D' w'2)) →
bcase (!b) (ItPost (List.map encPc (pcL g.fst)) i W w'2)
(InR IntKind.i64 ((↑(bp g.fst x.fst) : Int) + (↑x1 : Int)) ∧
∃ (y : Nat × (Nat → Prop)),
Value.int IntKind.i64 ((↑(bp g.fst x.fst) : Int) + (↑x1 : Int)) = Value.int IntKind.i64 (↑(bp g.fst y.fst) : Int) ∧
(y.fst ≤ ncl g.fst ∧ i.J y.fst y.snd w'2 ∧ Mid W i.D0 y.snd w'2) ∧ ncl g.fst - y.fst < ncl g.fst - x.fst))
(ItPost (List.map encPc (pcL g.fst)) i W w')) :
    (itPc).Ok Tryd.prog 47 :=
  iter_of_vc itPc annItPc spItPc (fun _ _ _ => rfl) (fun _ _ _ => rfl) hsp (enters_of Tryd.func47 (by kernel_rfl) rfl) Tryd.func47 rfl (n := 1) (fun _ => rfl) (by kernel_rfl) (vcast (by kernel_rfl) h)

set_option maxRecDepth 1000000 in
theorem itBk_vc (hsp : SpecsOk Tryd.prog []) (h : ∀ (g : GBk) (i : ItG) (W : World),
BkAt g W ∧ g.s.size ≤ (67108864 : Nat) →
ItPre (List.map encPc (pcR g.s)) (fun (q : Nat) => q = g.bl ∨ q = g.bs ∨ blk g.a = some q) i W →
∃ (a2 : Option Addr),
∃ (n : Nat),
∃ (c : Nat),
W.cell? { block := g.bl, off := (0 : Nat) } = some (Value.slice a2 n c) ∧
InR IntKind.i64 ((↑n : Int) - (1 : Int)) ∧
(∃ (x : Nat × (Nat → Prop)),
Value.int IntKind.i64 ((↑n : Int) - (1 : Int)) = Value.int IntKind.i64 ((↑(ncl g.s) : Int) - (↑x.fst : Int)) ∧
x.fst ≤ ncl g.s ∧ i.J x.fst x.snd W ∧ Mid W i.D0 x.snd W) ∧
∀ (u : Nat → Value) (x : Nat × (Nat → Prop)) (w' : World),
x.fst ≤ ncl g.s ∧ i.J x.fst x.snd w' ∧ Mid W i.D0 x.snd w' →
bcase (decide ((↑(ncl g.s) : Int) - (↑x.fst : Int) > (0 : Int)))
(∀ (w1 : World),
Drew w' w1 →
∃ (a5 : Option Addr),
∃ (n1 : Nat),
∃ (c1 : Nat),
w'.cell? { block := g.bl, off := (0 : Nat) } = some (Value.slice a5 n1 c1) ∧
InR IntKind.i64 ((↑(ncl g.s) : Int) - (↑x.fst : Int) - (1 : Int)) ∧
∃ (k : Nat),
(↑(ncl g.s) : Int) - (↑x.fst : Int) - (1 : Int) = (↑k : Int) ∧
k < n1 ∧
ptrE a5 fun (b o : Nat) =>
∃ (n2 : Int),
w'.cell? { block := b, off := o + k } = some (Value.int IntKind.i64 n2) ∧
∃ (s : ByteArray),
w'.cell? { block := g.bs, off := (0 : Nat) } = some (Value.string s) ∧
∃ (a6 : Option Addr),
∃ (n3 : Nat),
∃ (c2 : Nat),
w'.cell? { block := g.bl, off := (0 : Nat) } = some (Value.slice a6 n3 c2) ∧
InR IntKind.i64 ((↑(ncl g.s) : Int) - (↑x.fst : Int) - (1 : Int)) ∧
∃ (k1 : Nat),
(↑(ncl g.s) : Int) - (↑x.fst : Int) - (1 : Int) = (↑k1 : Int) ∧
k1 < n3 ∧
ptrE a6 fun (b1 o1 : Nat) =>
∃ (n4 : Int),
w'.cell? { block := b1, off := o1 + k1 } = some (Value.int IntKind.i64 n4) ∧
∃ (a7 : Option Addr),
∃ (n5 : Nat),
∃ (c3 : Nat),
w'.cell? { block := g.bl, off := (0 : Nat) } = some (Value.slice a7 n5 c3) ∧
∃ (k2 : Nat),
(↑(ncl g.s) : Int) - (↑x.fst : Int) = (↑k2 : Int) ∧
k2 < n5 ∧
ptrE a7 fun (b2 o2 : Nat) =>
∃ (n6 : Int),
w'.cell? { block := b2, off := o2 + k2 } = some (Value.int IntKind.i64 n6) ∧
∃ (k3 : Nat),
n4 = (↑k3 : Int) ∧
∃ (k4 : Nat),
n6 = (↑k4 : Int) ∧
k3 ≤ k4 ∧
k4 ≤ s.size ∧
i.l = i.l ∧
∃ (q : Nat × (Nat → Prop)),
[Value.int IntKind.i64 n2, Value.string (s.extract k3 k4)] = (List.map encPc (pcR g.s)).getD q.fst [] ∧
(q.fst < (List.map encPc (pcR g.s)).length ∧ i.J q.fst q.snd w1 ∧ Mid W i.D0 q.snd w1) ∧
∀ (b3 : Bool) (w'1 : World),
(∃ (D' : Nat → Prop),
Step q.snd w1 w'1 D' ∧ (b3 = true → i.J (q.fst + (1 : Nat)) D' w'1) ∧ (b3 = false → i.Jx D' w'1)) →
bcase (!b3) (ItPost (List.map encPc (pcR g.s)) i W w'1)
(InR IntKind.i64 ((↑(ncl g.s) : Int) - (↑x.fst : Int) - (1 : Int)) ∧
∃ (y : Nat × (Nat → Prop)),
Value.int IntKind.i64 ((↑(ncl g.s) : Int) - (↑x.fst : Int) - (1 : Int)) =
Value.int IntKind.i64 ((↑(ncl g.s) : Int) - (↑y.fst : Int)) ∧
(y.fst ≤ ncl g.s ∧ i.J y.fst y.snd w'1 ∧ Mid W i.D0 y.snd w'1) ∧ ncl g.s - y.fst < ncl g.s - x.fst))
(ItPost (List.map encPc (pcR g.s)) i W w')) :
    (itBk).Ok Tryd.prog 33 :=
  iter_of_vc itBk annItBk [] (fun _ _ _ => rfl) (fun _ _ _ => rfl) hsp (enters_of Tryd.func33 (by kernel_rfl) rfl) Tryd.func33 rfl (n := 2) (fun _ => rfl) (by kernel_rfl) (vcast (by kernel_rfl) h)

set_option maxRecDepth 1000000 in
theorem cpieces_vc (hsp : SpecsOk Tryd.prog []) (h : ∀ (g : ByteArray) (w : World),
True →
∀ (b : Nat) (w1 : World),
New w (Obj.cells #[Value.string g] (9 : Nat)) b w1 →
∃ (x : Nat),
Value.func (Fn.func (47 : Nat)) #[] #[Value.pointer (some { block := b, off := (0 : Nat) })] =
Value.func (Fn.func (47 : Nat)) #[] #[Value.pointer (some { block := x, off := (0 : Nat) })] ∧
w.heap.size ≤ x ∧ w1.heap[x]? = some (Obj.cells #[Value.string g] (9 : TypeId)) ∧ Ext w w1) :
    ((sIter 47)).Ok Tryd.prog 31 :=
  ok_of_vc (sIter 47) (annOf []) [] (fun _ _ => rfl) (fun _ _ => rfl) hsp Tryd.func31 rfl (n := 1) (fun _ => rfl) (by kernel_rfl) (vcast (by kernel_rfl) h)

set_option maxRecDepth 1000000 in
theorem call_vc (hsp : SpecsOk Tryd.prog spAllC) (h : ∀ (g : ByteArray) (w : World),
True →
∃ (g1 : ByteArray),
#[Value.string g] = #[Value.string g1] ∧
True ∧
∀ (x : Nat) (w' : World),
w.heap.size ≤ x ∧ w'.heap[x]? = some (Obj.cells #[Value.string g1] (9 : TypeId)) ∧ Ext w w' →
∃ (x1 : Nat),
Value.func (Fn.func (47 : Nat)) #[] #[Value.pointer (some { block := x, off := (0 : Nat) })] =
Value.func (Fn.func (47 : Nat)) #[] #[Value.pointer (some { block := x1, off := (0 : Nat) })] ∧
w.heap.size ≤ x1 ∧ w'.heap[x1]? = some (Obj.cells #[Value.string g] (9 : TypeId)) ∧ Ext w w') :
    ((sIter 47)).Ok Tryd.prog 12 :=
  ok_of_vc (sIter 47) (annOf spAllC) spAllC (fun _ _ => rfl) (fun _ _ => rfl) hsp Tryd.func12 rfl (n := 1) (fun _ => rfl) (by kernel_rfl) (vcast (by kernel_rfl) h)

set_option maxRecDepth 1000000 in
theorem ends_vc (hsp : SpecsOk Tryd.prog spAllC) (h : ∀ (g : ByteArray) (w : World),
U8 w ∧ g.size ≤ (67108864 : Nat) →
∀ (b : Nat) (w1 : World),
New w (Obj.cells #[Value.slice none (0 : Nat) (0 : Nat)] (31 : Nat)) b w1 →
∃ (g1 : ByteArray),
#[Value.string g] = #[Value.string g1] ∧
True ∧
∀ (x : Nat) (w' : World),
w1.heap.size ≤ x ∧ w'.heap[x]? = some (Obj.cells #[Value.string g1] (9 : TypeId)) ∧ Ext w1 w' →
∃ (xs : List (Nat × ByteArray)),
∃ (C : Nat → Prop),
∃ (D0 : Nat → Prop),
IterAt Tryd.prog (Value.func (Fn.func (47 : Nat)) #[] #[Value.pointer (some { block := x, off := (0 : Nat) })])
(List.map encPc xs) C w' ∧
DomOk w' C D0 ∧
(∃ (a3 : Option Addr),
∃ (c : Nat),
(D0 = fun (q : Nat) => q = ptrB (Value.pointer (some { block := b, off := (0 : Nat) })) ∨ blk a3 = some q) ∧
Grow w' (ptrB (Value.pointer (some { block := b, off := (0 : Nat) }))) (31 : TypeId) (3 : TypeId) a3 c
(List.map (Value.int IntKind.i64) (List.take (0 : Nat) (endsI g)))) ∧
(Stab w'.heap.size fun (k : Nat) (D : Nat → Prop) (W : World) =>
∃ (a : Option Addr),
∃ (c : Nat),
(D = fun (q : Nat) => q = ptrB (Value.pointer (some { block := b, off := (0 : Nat) })) ∨ blk a = some q) ∧
Grow W (ptrB (Value.pointer (some { block := b, off := (0 : Nat) }))) (31 : TypeId) (3 : TypeId) a c
(List.map (Value.int IntKind.i64) (List.take k (endsI g)))) ∧
(∀ (x1 : Exit), Stab w'.heap.size fun (x : Nat) (D : Nat → Prop) (W : World) => (1 : Nat) = (0 : Nat)) ∧
(∀ (k : Nat) (x1 : Nat × ByteArray) (D : Nat → Prop) (W : World),
xs[k]? = some x1 →
(∃ (a4 : Option Addr),
∃ (c : Nat),
(D = fun (q : Nat) => q = ptrB (Value.pointer (some { block := b, off := (0 : Nat) })) ∨ blk a4 = some q) ∧
Grow W (ptrB (Value.pointer (some { block := b, off := (0 : Nat) }))) (31 : TypeId) (3 : TypeId) a4 c
(List.map (Value.int IntKind.i64) (List.take k (endsI g)))) →
Mid w' D0 D W →
∃ (a6 : Option Addr),
∃ (n : Nat),
∃ (c : Nat),
W.cell? { block := b, off := (0 : Nat) } = some (Value.slice a6 n c) ∧
InR IntKind.i64 ((↑x1.fst : Int) + (↑x1.snd.size : Int)) ∧
∀ (b1 : Nat) (w11 : World),
New W (Obj.cells #[Value.int IntKind.i64 ((↑x1.fst : Int) + (↑x1.snd.size : Int))] (3 : Nat)) b1 w11 →
∃ (a' : Option Addr),
∃ (c' : Nat),
∃ (w'1 : World),
AppRun Tryd.prog #[(31 : Nat), (31 : Nat)] (31 : Nat) (Value.slice a6 n c)
(Value.slice (some { block := b1, off := (0 : Nat) }) (1 : Nat) (1 : Nat)) w11 a' (n + (1 : Nat)) c' w'1 ∧
KO w11 w'1 ∧
true = true ∧
(∃ (old : Value), w'1.cell? { block := b, off := (0 : Nat) } = some old) ∧
w'1.frozen? { block := b, off := (0 : Nat) } = false ∧
∀ (w12 : World),
Stored w'1 { block := b, off := (0 : Nat) } (Value.slice a' (n + (1 : Nat)) c') w12 →
∃ (D' : Nat → Prop),
Step D W w12 D' ∧
∃ (a9 : Option Addr),
∃ (c1 : Nat),
(D' = fun (q : Nat) => q = ptrB (Value.pointer (some { block := b, off := (0 : Nat) })) ∨ blk a9 = some q) ∧
Grow w12 (ptrB (Value.pointer (some { block := b, off := (0 : Nat) }))) (31 : TypeId) (3 : TypeId) a9 c1
(List.map (Value.int IntKind.i64) (List.take (k + (1 : Nat)) (endsI g)))) ∧
(∀ (D : Nat → Prop) (W : World),
(∃ (a3 : Option Addr),
∃ (c : Nat),
(D = fun (q : Nat) => q = ptrB (Value.pointer (some { block := b, off := (0 : Nat) })) ∨ blk a3 = some q) ∧
Grow W (ptrB (Value.pointer (some { block := b, off := (0 : Nat) }))) (31 : TypeId) (3 : TypeId) a3 c
(List.map (Value.int IntKind.i64) (List.take (lenX xs) (endsI g)))) →
Mid w' D0 D W →
∃ (a5 : Option Addr),
∃ (n : Nat),
∃ (c : Nat),
W.cell? { block := b, off := (0 : Nat) } = some (Value.slice a5 n c) ∧
∀ (w2 : World),
Turn w.heap.size W w2 →
∃ (x1 : Option Addr × Nat × Nat),
Value.slice a5 n c = Value.slice x1.fst x1.snd.fst x1.snd.snd ∧
x1.snd.fst = (endsI g).length ∧
Made w w2 (3 : TypeId) (1 : Nat) x1.fst x1.snd.fst (List.map (Value.int IntKind.i64) (endsI g)) x1.snd.snd) ∧
True) :
    ((sSL .i64 3 endsI)).Ok Tryd.prog 32 :=
  ok_of_vc (sSL .i64 3 endsI) annEnds spAllC (fun _ _ => rfl) (fun _ _ => rfl) hsp Tryd.func32 rfl (n := 1) (fun _ => rfl) (by kernel_rfl) (vcast (by kernel_rfl) h)

set_option maxRecDepth 1000000 in
theorem ccount_vc (hsp : SpecsOk Tryd.prog spCnt) (h : ∀ (g : ByteArray) (w : World),
U8 w ∧ g.size ≤ (67108864 : Nat) →
∃ (g1 : ByteArray),
#[Value.string g] = #[Value.string g1] ∧
(U8 w ∧ g1.size ≤ (67108864 : Nat)) ∧
∀ (x : Option Addr × Nat × Nat) (w' : World),
x.snd.fst = (endsI g1).length ∧
Made w w' (3 : TypeId) (1 : Nat) x.fst x.snd.fst (List.map (Value.int IntKind.i64) (endsI g1)) x.snd.snd →
∃ (x1 : Nat), Value.int IntKind.i64 (↑x.snd.fst : Int) = Value.int IntKind.i64 (↑x1 : Int) ∧ x1 = ncl g ∧ Ext w w') :
    ((sSN ncl)).Ok Tryd.prog 18 :=
  ok_of_vc (sSN ncl) (annOf spCnt) spCnt (fun _ _ => rfl) (fun _ _ => rfl) hsp Tryd.func18 rfl (n := 1) (fun _ => rfl) (by kernel_rfl) (vcast (by kernel_rfl) h)

set_option maxRecDepth 1000000 in
theorem clast_vc (hsp : SpecsOk Tryd.prog spAllC) (h : ∀ (g : ByteArray) (w : World),
U8 w ∧ g.size ≤ (67108864 : Nat) →
∀ (b : Nat) (w1 : World),
New w (Obj.cells #[Value.int IntKind.i64 (0 : Int)] (3 : Nat)) b w1 →
true = true ∧
(∃ (old : Value), w1.cell? { block := b, off := (0 : Nat) } = some old) ∧
w1.frozen? { block := b, off := (0 : Nat) } = false ∧
∀ (w11 : World),
Stored w1 { block := b, off := (0 : Nat) } (Value.int IntKind.i64 (0 : Int)) w11 →
∃ (g1 : ByteArray),
#[Value.string g] = #[Value.string g1] ∧
True ∧
∀ (x : Nat) (w' : World),
w11.heap.size ≤ x ∧ w'.heap[x]? = some (Obj.cells #[Value.string g1] (9 : TypeId)) ∧ Ext w11 w' →
∃ (xs : List (Nat × ByteArray)),
∃ (C : Nat → Prop),
∃ (D0 : Nat → Prop),
IterAt Tryd.prog (Value.func (Fn.func (47 : Nat)) #[] #[Value.pointer (some { block := x, off := (0 : Nat) })])
(List.map encPc xs) C w' ∧
DomOk w' C D0 ∧
(D0 = ones [ptrB (Value.pointer (some { block := b, off := (0 : Nat) }))] ∧
w'.heap[ptrB (Value.pointer (some { block := b, off := (0 : Nat) }))]? =
some
(Obj.cells
#[Value.int IntKind.i64
(if (0 : Nat) = (0 : Nat) then (0 : Int) else (↑(bp g (0 : Nat)) : Int) - (↑(bp g ((0 : Nat) - (1 : Nat))) : Int))]
(3 : TypeId))) ∧
(Stab w'.heap.size fun (k : Nat) (D : Nat → Prop) (W : World) =>
D = ones [ptrB (Value.pointer (some { block := b, off := (0 : Nat) }))] ∧
W.heap[ptrB (Value.pointer (some { block := b, off := (0 : Nat) }))]? =
some
(Obj.cells
#[Value.int IntKind.i64 (if k = (0 : Nat) then (0 : Int) else (↑(bp g k) : Int) - (↑(bp g (k - (1 : Nat))) : Int))]
(3 : TypeId))) ∧
(∀ (x1 : Exit), Stab w'.heap.size fun (x : Nat) (D : Nat → Prop) (W : World) => (1 : Nat) = (0 : Nat)) ∧
(∀ (k : Nat) (x1 : Nat × ByteArray) (D : Nat → Prop) (W : World),
xs[k]? = some x1 →
D = ones [ptrB (Value.pointer (some { block := b, off := (0 : Nat) }))] ∧
W.heap[ptrB (Value.pointer (some { block := b, off := (0 : Nat) }))]? =
some
(Obj.cells
#[Value.int IntKind.i64 (if k = (0 : Nat) then (0 : Int) else (↑(bp g k) : Int) - (↑(bp g (k - (1 : Nat))) : Int))]
(3 : TypeId)) →
Mid w' D0 D W →
true = true ∧
(∃ (old : Value), W.cell? { block := b, off := (0 : Nat) } = some old) ∧
W.frozen? { block := b, off := (0 : Nat) } = false ∧
∀ (w12 : World),
Stored W { block := b, off := (0 : Nat) } (Value.int IntKind.i64 (↑x1.snd.size : Int)) w12 →
∃ (D' : Nat → Prop),
Step D W w12 D' ∧
D' = ones [ptrB (Value.pointer (some { block := b, off := (0 : Nat) }))] ∧
w12.heap[ptrB (Value.pointer (some { block := b, off := (0 : Nat) }))]? =
some
(Obj.cells
#[Value.int IntKind.i64
(if k + (1 : Nat) = (0 : Nat) then (0 : Int)
else (↑(bp g (k + (1 : Nat))) : Int) - (↑(bp g (k + (1 : Nat) - (1 : Nat))) : Int))]
(3 : TypeId))) ∧
(∀ (D : Nat → Prop) (W : World),
D = ones [ptrB (Value.pointer (some { block := b, off := (0 : Nat) }))] ∧
W.heap[ptrB (Value.pointer (some { block := b, off := (0 : Nat) }))]? =
some
(Obj.cells
#[Value.int IntKind.i64
(if lenX xs = (0 : Nat) then (0 : Int) else (↑(bp g (lenX xs)) : Int) - (↑(bp g (lenX xs - (1 : Nat))) : Int))]
(3 : TypeId)) →
Mid w' D0 D W →
∃ (n : Int),
W.cell? { block := b, off := (0 : Nat) } = some (Value.int IntKind.i64 n) ∧
∀ (w2 : World),
Turn w.heap.size W w2 →
∃ (x1 : Nat), Value.int IntKind.i64 n = Value.int IntKind.i64 (↑x1 : Int) ∧ x1 = lastL g ∧ Ext w w2) ∧
True) :
    ((sSN lastL)).Ok Tryd.prog 16 :=
  ok_of_vc (sSN lastL) annLastC spAllC (fun _ _ => rfl) (fun _ _ => rfl) hsp Tryd.func16 rfl (n := 1) (fun _ => rfl) (by kernel_rfl) (vcast (by kernel_rfl) h)

set_option maxRecDepth 1000000 in
theorem cis_vc (hsp : SpecsOk Tryd.prog spAllC) (h : ∀ (g : ByteArray × Int) (w : World),
U8 w ∧ g.fst.size ≤ (67108864 : Nat) →
∀ (b : Nat) (w1 : World),
New w (Obj.cells #[Value.int IntKind.i64 g.snd] (3 : Nat)) b w1 →
∀ (b1 : Nat) (w11 : World),
New w1 (Obj.cells #[Value.bool false] (4 : Nat)) b1 w11 →
∃ (g1 : ByteArray),
#[Value.string g.fst] = #[Value.string g1] ∧
True ∧
∀ (x : Nat) (w' : World),
w11.heap.size ≤ x ∧ w'.heap[x]? = some (Obj.cells #[Value.string g1] (9 : TypeId)) ∧ Ext w11 w' →
∃ (xs : List (Nat × ByteArray)),
∃ (C : Nat → Prop),
∃ (D0 : Nat → Prop),
IterAt Tryd.prog (Value.func (Fn.func (47 : Nat)) #[] #[Value.pointer (some { block := x, off := (0 : Nat) })])
(List.map encPc xs) C w' ∧
DomOk w' C D0 ∧
(D0 = ones [ptrB (Value.pointer (some { block := b1, off := (0 : Nat) }))] ∧
(∀ (j : Nat), j < (0 : Nat) → (↑(bp g.fst j) : Int) < g.snd) ∧
∃ (v : Bool),
w'.heap[ptrB (Value.pointer (some { block := b1, off := (0 : Nat) }))]? =
some (Obj.cells #[Value.bool v] (4 : TypeId))) ∧
(Stab w'.heap.size fun (k : Nat) (D : Nat → Prop) (W : World) =>
D = ones [ptrB (Value.pointer (some { block := b1, off := (0 : Nat) }))] ∧
(∀ (j : Nat), j < k → (↑(bp g.fst j) : Int) < g.snd) ∧
∃ (v : Bool),
W.heap[ptrB (Value.pointer (some { block := b1, off := (0 : Nat) }))]? =
some (Obj.cells #[Value.bool v] (4 : TypeId))) ∧
(∀ (x1 : Exit),
Stab w'.heap.size fun (x : Nat) (D : Nat → Prop) (W : World) =>
D = ones [ptrB (Value.pointer (some { block := b1, off := (0 : Nat) }))] ∧
W.heap[ptrB (Value.pointer (some { block := b1, off := (0 : Nat) }))]? =
some (Obj.cells #[Value.bool (isB g.fst g.snd)] (4 : TypeId))) ∧
(∀ (k : Nat) (x1 : Nat × ByteArray) (D : Nat → Prop) (W : World),
xs[k]? = some x1 →
(D = ones [ptrB (Value.pointer (some { block := b1, off := (0 : Nat) }))] ∧
(∀ (j : Nat), j < k → (↑(bp g.fst j) : Int) < g.snd) ∧
∃ (v : Bool),
W.heap[ptrB (Value.pointer (some { block := b1, off := (0 : Nat) }))]? =
some (Obj.cells #[Value.bool v] (4 : TypeId))) →
Mid w' D0 D W →
∃ (n : Int),
W.cell? { block := b, off := (0 : Nat) } = some (Value.int IntKind.i64 n) ∧
bcase (decide ((↑x1.fst : Int) ≥ n))
(∃ (n1 : Int),
W.cell? { block := b, off := (0 : Nat) } = some (Value.int IntKind.i64 n1) ∧
true = true ∧
(∃ (old : Value), W.cell? { block := b1, off := (0 : Nat) } = some old) ∧
W.frozen? { block := b1, off := (0 : Nat) } = false ∧
∀ (w12 : World),
Stored W { block := b1, off := (0 : Nat) } (Value.bool ((↑x1.fst : Int) == n1)) w12 →
∃ (D' : Nat → Prop),
Step D W w12 D' ∧
D' = ones [ptrB (Value.pointer (some { block := b1, off := (0 : Nat) }))] ∧
w12.heap[ptrB (Value.pointer (some { block := b1, off := (0 : Nat) }))]? =
some (Obj.cells #[Value.bool (isB g.fst g.snd)] (4 : TypeId)))
(∃ (D' : Nat → Prop),
Step D W W D' ∧
D' = ones [ptrB (Value.pointer (some { block := b1, off := (0 : Nat) }))] ∧
(∀ (j : Nat), j < k + (1 : Nat) → (↑(bp g.fst j) : Int) < g.snd) ∧
∃ (v : Bool),
W.heap[ptrB (Value.pointer (some { block := b1, off := (0 : Nat) }))]? =
some (Obj.cells #[Value.bool v] (4 : TypeId)))) ∧
(∀ (D : Nat → Prop) (W : World),
(D = ones [ptrB (Value.pointer (some { block := b1, off := (0 : Nat) }))] ∧
(∀ (j : Nat), j < lenX xs → (↑(bp g.fst j) : Int) < g.snd) ∧
∃ (v : Bool),
W.heap[ptrB (Value.pointer (some { block := b1, off := (0 : Nat) }))]? =
some (Obj.cells #[Value.bool v] (4 : TypeId))) →
Mid w' D0 D W →
∃ (n : Int),
W.cell? { block := b, off := (0 : Nat) } = some (Value.int IntKind.i64 n) ∧
true = true ∧
(∃ (old : Value), W.cell? { block := b1, off := (0 : Nat) } = some old) ∧
W.frozen? { block := b1, off := (0 : Nat) } = false ∧
∀ (w12 : World),
Stored W { block := b1, off := (0 : Nat) } (Value.bool (n == (↑g.fst.size : Int))) w12 →
∃ (b2 : Bool),
w12.cell? { block := b1, off := (0 : Nat) } = some (Value.bool b2) ∧
∀ (w2 : World),
Turn w.heap.size w12 w2 → ∃ (x1 : Bool), Value.bool b2 = Value.bool x1 ∧ x1 = isB g.fst g.snd ∧ Ext w w2) ∧
∀ (D : Nat → Prop) (W : World),
D = ones [ptrB (Value.pointer (some { block := b1, off := (0 : Nat) }))] ∧
W.heap[ptrB (Value.pointer (some { block := b1, off := (0 : Nat) }))]? =
some (Obj.cells #[Value.bool (isB g.fst g.snd)] (4 : TypeId)) →
Mid w' D0 D W →
∃ (b2 : Bool),
W.cell? { block := b1, off := (0 : Nat) } = some (Value.bool b2) ∧
∀ (w2 : World), Turn w.heap.size W w2 → ∃ (x1 : Bool), Value.bool b2 = Value.bool x1 ∧ x1 = isB g.fst g.snd ∧ Ext w w2) :
    (sIsB).Ok Tryd.prog 22 :=
  ok_of_vc sIsB annIsC spAllC (fun _ _ => rfl) (fun _ _ => rfl) hsp Tryd.func22 rfl (n := 2) (fun _ => rfl) (by kernel_rfl) (vcast (by kernel_rfl) h)

set_option maxRecDepth 1000000 in
theorem cat_vc (hsp : SpecsOk Tryd.prog spAllC) (h : ∀ (g : ByteArray × Int) (w : World),
U8 w ∧ g.fst.size ≤ (67108864 : Nat) →
∀ (b : Nat) (w1 : World),
New w (Obj.cells #[Value.int IntKind.i64 g.snd] (3 : Nat)) b w1 →
∀ (b1 : Nat) (w11 : World),
New w1 (Obj.cells #[Value.int IntKind.i64 (0 : Int)] (3 : Nat)) b1 w11 →
∀ (b2 : Nat) (w12 : World),
New w11 (Obj.cells #[Value.int IntKind.i64 (0 : Int)] (3 : Nat)) b2 w12 →
∃ (n : Int),
w12.cell? { block := b, off := (0 : Nat) } = some (Value.int IntKind.i64 n) ∧
true = true ∧
(∃ (old : Value), w12.cell? { block := b, off := (0 : Nat) } = some old) ∧
w12.frozen? { block := b, off := (0 : Nat) } = false ∧
∀ (w13 : World),
Stored w12 { block := b, off := (0 : Nat) }
(Value.int IntKind.i64
(if (↑g.fst.size : Int) < if (0 : Int) > n then (0 : Int) else n then (↑g.fst.size : Int)
else if (0 : Int) > n then (0 : Int) else n))
w13 →
∃ (g1 : ByteArray),
#[Value.string g.fst] = #[Value.string g1] ∧
True ∧
∀ (x : Nat) (w' : World),
w13.heap.size ≤ x ∧ w'.heap[x]? = some (Obj.cells #[Value.string g1] (9 : TypeId)) ∧ Ext w13 w' →
∃ (xs : List (Nat × ByteArray)),
∃ (C : Nat → Prop),
∃ (D0 : Nat → Prop),
IterAt Tryd.prog (Value.func (Fn.func (47 : Nat)) #[] #[Value.pointer (some { block := x, off := (0 : Nat) })])
(List.map encPc xs) C w' ∧
DomOk w' C D0 ∧
(D0 =
ones
[ptrB (Value.pointer (some { block := b1, off := (0 : Nat) })),
ptrB (Value.pointer (some { block := b2, off := (0 : Nat) }))] ∧
(∀ (j : Nat), j < (0 : Nat) → bp g.fst (j + (1 : Nat)) ≤ clampN g.fst g.snd) ∧
∃ (v : Int),
∃ (u : Int),
w'.heap[ptrB (Value.pointer (some { block := b1, off := (0 : Nat) }))]? =
some (Obj.cells #[Value.int IntKind.i64 v] (3 : TypeId)) ∧
w'.heap[ptrB (Value.pointer (some { block := b2, off := (0 : Nat) }))]? =
some (Obj.cells #[Value.int IntKind.i64 u] (3 : TypeId))) ∧
(Stab w'.heap.size fun (k : Nat) (D : Nat → Prop) (W : World) =>
D =
ones
[ptrB (Value.pointer (some { block := b1, off := (0 : Nat) })),
ptrB (Value.pointer (some { block := b2, off := (0 : Nat) }))] ∧
(∀ (j : Nat), j < k → bp g.fst (j + (1 : Nat)) ≤ clampN g.fst g.snd) ∧
∃ (v : Int),
∃ (u : Int),
W.heap[ptrB (Value.pointer (some { block := b1, off := (0 : Nat) }))]? =
some (Obj.cells #[Value.int IntKind.i64 v] (3 : TypeId)) ∧
W.heap[ptrB (Value.pointer (some { block := b2, off := (0 : Nat) }))]? =
some (Obj.cells #[Value.int IntKind.i64 u] (3 : TypeId))) ∧
(∀ (x1 : Exit),
Stab w'.heap.size fun (x : Nat) (D : Nat → Prop) (W : World) =>
D =
ones
[ptrB (Value.pointer (some { block := b1, off := (0 : Nat) })),
ptrB (Value.pointer (some { block := b2, off := (0 : Nat) }))] ∧
W.heap[ptrB (Value.pointer (some { block := b1, off := (0 : Nat) }))]? =
some (Obj.cells #[Value.int IntKind.i64 (↑(bp g.fst (ixP g.fst (clampN g.fst g.snd))) : Int)] (3 : TypeId)) ∧
W.heap[ptrB (Value.pointer (some { block := b2, off := (0 : Nat) }))]? =
some
(Obj.cells #[Value.int IntKind.i64 (↑(bp g.fst (ixP g.fst (clampN g.fst g.snd) + (1 : Nat))) : Int)] (3 : TypeId))) ∧
(∀ (k : Nat) (x1 : Nat × ByteArray) (D : Nat → Prop) (W : World),
xs[k]? = some x1 →
(D =
ones
[ptrB (Value.pointer (some { block := b1, off := (0 : Nat) })),
ptrB (Value.pointer (some { block := b2, off := (0 : Nat) }))] ∧
(∀ (j : Nat), j < k → bp g.fst (j + (1 : Nat)) ≤ clampN g.fst g.snd) ∧
∃ (v : Int),
∃ (u : Int),
W.heap[ptrB (Value.pointer (some { block := b1, off := (0 : Nat) }))]? =
some (Obj.cells #[Value.int IntKind.i64 v] (3 : TypeId)) ∧
W.heap[ptrB (Value.pointer (some { block := b2, off := (0 : Nat) }))]? =
some (Obj.cells #[Value.int IntKind.i64 u] (3 : TypeId))) →
Mid w' D0 D W →
∃ (n1 : Int),
W.cell? { block := b, off := (0 : Nat) } = some (Value.int IntKind.i64 n1) ∧
InR IntKind.i64 ((↑x1.fst : Int) + (↑x1.snd.size : Int)) ∧
bcase (decide (n1 < (↑x1.fst : Int) + (↑x1.snd.size : Int)))
(InR IntKind.i64 ((↑x1.fst : Int) + (↑x1.snd.size : Int)) ∧
true = true ∧
(∃ (old : Value), W.cell? { block := b1, off := (0 : Nat) } = some old) ∧
W.frozen? { block := b1, off := (0 : Nat) } = false ∧
∀ (w14 : World),
Stored W { block := b1, off := (0 : Nat) } (Value.int IntKind.i64 (↑x1.fst : Int)) w14 →
true = true ∧
(∃ (old : Value), w14.cell? { block := b2, off := (0 : Nat) } = some old) ∧
w14.frozen? { block := b2, off := (0 : Nat) } = false ∧
∀ (w15 : World),
Stored w14 { block := b2, off := (0 : Nat) } (Value.int IntKind.i64 ((↑x1.fst : Int) + (↑x1.snd.size : Int))) w15 →
∃ (D' : Nat → Prop),
Step D W w15 D' ∧
D' =
ones
[ptrB (Value.pointer (some { block := b1, off := (0 : Nat) })),
ptrB (Value.pointer (some { block := b2, off := (0 : Nat) }))] ∧
w15.heap[ptrB (Value.pointer (some { block := b1, off := (0 : Nat) }))]? =
some (Obj.cells #[Value.int IntKind.i64 (↑(bp g.fst (ixP g.fst (clampN g.fst g.snd))) : Int)] (3 : TypeId)) ∧
w15.heap[ptrB (Value.pointer (some { block := b2, off := (0 : Nat) }))]? =
some (Obj.cells #[Value.int IntKind.i64 (↑(bp g.fst (ixP g.fst (clampN g.fst g.snd) + (1 : Nat))) : Int)] (3 : TypeId)))
(∃ (D' : Nat → Prop),
Step D W W D' ∧
D' =
ones
[ptrB (Value.pointer (some { block := b1, off := (0 : Nat) })),
ptrB (Value.pointer (some { block := b2, off := (0 : Nat) }))] ∧
(∀ (j : Nat), j < k + (1 : Nat) → bp g.fst (j + (1 : Nat)) ≤ clampN g.fst g.snd) ∧
∃ (v : Int),
∃ (u : Int),
W.heap[ptrB (Value.pointer (some { block := b1, off := (0 : Nat) }))]? =
some (Obj.cells #[Value.int IntKind.i64 v] (3 : TypeId)) ∧
W.heap[ptrB (Value.pointer (some { block := b2, off := (0 : Nat) }))]? =
some (Obj.cells #[Value.int IntKind.i64 u] (3 : TypeId)))) ∧
(∀ (D : Nat → Prop) (W : World),
(D =
ones
[ptrB (Value.pointer (some { block := b1, off := (0 : Nat) })),
ptrB (Value.pointer (some { block := b2, off := (0 : Nat) }))] ∧
(∀ (j : Nat), j < lenX xs → bp g.fst (j + (1 : Nat)) ≤ clampN g.fst g.snd) ∧
∃ (v : Int),
∃ (u : Int),
W.heap[ptrB (Value.pointer (some { block := b1, off := (0 : Nat) }))]? =
some (Obj.cells #[Value.int IntKind.i64 v] (3 : TypeId)) ∧
W.heap[ptrB (Value.pointer (some { block := b2, off := (0 : Nat) }))]? =
some (Obj.cells #[Value.int IntKind.i64 u] (3 : TypeId))) →
Mid w' D0 D W →
true = true ∧
(∃ (old : Value), W.cell? { block := b1, off := (0 : Nat) } = some old) ∧
W.frozen? { block := b1, off := (0 : Nat) } = false ∧
∀ (w14 : World),
Stored W { block := b1, off := (0 : Nat) } (Value.int IntKind.i64 (↑g.fst.size : Int)) w14 →
true = true ∧
(∃ (old : Value), w14.cell? { block := b2, off := (0 : Nat) } = some old) ∧
w14.frozen? { block := b2, off := (0 : Nat) } = false ∧
∀ (w15 : World),
Stored w14 { block := b2, off := (0 : Nat) } (Value.int IntKind.i64 (↑g.fst.size : Int)) w15 →
∃ (n1 : Int),
w15.cell? { block := b1, off := (0 : Nat) } = some (Value.int IntKind.i64 n1) ∧
∃ (n2 : Int),
w15.cell? { block := b2, off := (0 : Nat) } = some (Value.int IntKind.i64 n2) ∧
∀ (w2 : World),
Turn w.heap.size w15 w2 →
∃ (x1 : Nat × Nat),
Value.tuple #[Value.int IntKind.i64 n1, Value.int IntKind.i64 n2] =
Value.tuple #[Value.int IntKind.i64 (↑x1.fst : Int), Value.int IntKind.i64 (↑x1.snd : Int)] ∧
x1 = (bp g.fst (ixP g.fst (clampN g.fst g.snd)), bp g.fst (ixP g.fst (clampN g.fst g.snd) + (1 : Nat))) ∧ Ext w w2) ∧
∀ (D : Nat → Prop) (W : World),
D =
ones
[ptrB (Value.pointer (some { block := b1, off := (0 : Nat) })),
ptrB (Value.pointer (some { block := b2, off := (0 : Nat) }))] ∧
W.heap[ptrB (Value.pointer (some { block := b1, off := (0 : Nat) }))]? =
some (Obj.cells #[Value.int IntKind.i64 (↑(bp g.fst (ixP g.fst (clampN g.fst g.snd))) : Int)] (3 : TypeId)) ∧
W.heap[ptrB (Value.pointer (some { block := b2, off := (0 : Nat) }))]? =
some
(Obj.cells #[Value.int IntKind.i64 (↑(bp g.fst (ixP g.fst (clampN g.fst g.snd) + (1 : Nat))) : Int)] (3 : TypeId)) →
Mid w' D0 D W →
∃ (n1 : Int),
W.cell? { block := b1, off := (0 : Nat) } = some (Value.int IntKind.i64 n1) ∧
∃ (n2 : Int),
W.cell? { block := b2, off := (0 : Nat) } = some (Value.int IntKind.i64 n2) ∧
∀ (w2 : World),
Turn w.heap.size W w2 →
∃ (x1 : Nat × Nat),
Value.tuple #[Value.int IntKind.i64 n1, Value.int IntKind.i64 n2] =
Value.tuple #[Value.int IntKind.i64 (↑x1.fst : Int), Value.int IntKind.i64 (↑x1.snd : Int)] ∧
x1 = (bp g.fst (ixP g.fst (clampN g.fst g.snd)), bp g.fst (ixP g.fst (clampN g.fst g.snd) + (1 : Nat))) ∧ Ext w w2) :
    (sAt).Ok Tryd.prog 20 :=
  ok_of_vc sAt annAtC spAllC (fun _ _ => rfl) (fun _ _ => rfl) hsp Tryd.func20 rfl (n := 2) (fun _ => rfl) (by kernel_rfl) (vcast (by kernel_rfl) h)

set_option maxRecDepth 1000000 in
theorem cback_vc (hsp : SpecsOk Tryd.prog spCnt) (h : ∀ (g : ByteArray) (w : World),
U8 w ∧ g.size ≤ (67108864 : Nat) →
∀ (b : Nat) (w1 : World),
New w (Obj.cells #[Value.string g] (9 : Nat)) b w1 →
∀ (b1 : Nat) (w11 : World),
New w1 (Obj.cells #[Value.int IntKind.i64 (0 : Int)] (3 : Nat)) b1 w11 →
∃ (s : ByteArray),
w11.cell? { block := b, off := (0 : Nat) } = some (Value.string s) ∧
∃ (g1 : ByteArray),
#[Value.string s] = #[Value.string g1] ∧
(U8 w11 ∧ g1.size ≤ (67108864 : Nat)) ∧
∀ (x : Option Addr × Nat × Nat) (w' : World),
x.snd.fst = (endsI g1).length ∧
Made w11 w' (3 : TypeId) (1 : Nat) x.fst x.snd.fst (List.map (Value.int IntKind.i64) (endsI g1)) x.snd.snd →
∃ (a' : Option Addr),
∃ (c' : Nat),
∃ (w'1 : World),
AppRun Tryd.prog #[(31 : Nat), (31 : Nat)] (31 : Nat)
(Value.slice (some { block := b1, off := (0 : Nat) }) (1 : Nat) (1 : Nat)) (Value.slice x.fst x.snd.fst x.snd.snd) w' a'
((1 : Nat) + x.snd.fst) c' w'1 ∧
KO w' w'1 ∧
∀ (b2 : Nat) (w12 : World),
New w'1 (Obj.cells #[Value.slice none (0 : Nat) (0 : Nat)] (31 : Nat)) b2 w12 →
true = true ∧
(∃ (old : Value), w12.cell? { block := b2, off := (0 : Nat) } = some old) ∧
w12.frozen? { block := b2, off := (0 : Nat) } = false ∧
∀ (w13 : World),
Stored w12 { block := b2, off := (0 : Nat) } (Value.slice a' ((1 : Nat) + x.snd.fst) c') w13 →
∃ (x1 : GBk),
Value.func (Fn.func (33 : Nat)) #[]
#[Value.pointer (some { block := b2, off := (0 : Nat) }), Value.pointer (some { block := b, off := (0 : Nat) })] =
Value.func (Fn.func (33 : FuncId)) #[]
#[Value.pointer (some { block := x1.bl, off := (0 : Nat) }),
Value.pointer (some { block := x1.bs, off := (0 : Nat) })] ∧
x1.s = g ∧
BkAt x1 w13 ∧ w.heap.size ≤ x1.bl ∧ w.heap.size ≤ x1.bs ∧ (∀ (q : Nat), blk x1.a = some q → w.heap.size ≤ q) ∧ Ext w w13) :
    (sBackC).Ok Tryd.prog 13 :=
  ok_of_vc sBackC (annOf spCnt) spCnt (fun _ _ => rfl) (fun _ _ => rfl) hsp Tryd.func13 rfl (n := 1) (fun _ => rfl) (by kernel_rfl) (vcast (by kernel_rfl) h)

end Go.Proofs.YtniiamobbgnjaaaDoor
