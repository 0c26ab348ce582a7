/-
  Verification conditions, printed by a program out of the specifications beside this text: each theorem says that the condition suffices. (Lean's kernel compares the printed condition with what 'wpE' computes.)
-/
import Derived.Test.YthkcphnkllnfcaaDoorSpI
import Derived.Test.YthkcphnkllnfcaaDoorProg
import Derived.KernelRfl
set_option linter.unusedVariables false
namespace Go.Proofs.YthkcphnkllnfcaaDoor
open Go Go.RowKit Vc Ut

set_option maxRecDepth 1000000 in
theorem lawLang_vc (hsp : SpecsOk Tryd.prog spLang) (h : ∀ (g : GSL) (w : World),
U8 w ∧
CellsAt w g.l.ad (List.map (Value.int IntKind.i32) g.l.xs) ∧
g.s.size ≤ (1048576 : Nat) ∧ g.l.xs.length ≤ (1048576 : Nat) →
∃ (g1 : ByteArray),
#[Value.string g.s] = #[Value.string g1] ∧
(U8 w ∧ g1.size ≤ (67108864 : Nat)) ∧
∀ (x : Option Addr × Nat × Nat) (w' : World),
x.snd.fst = (runes g1).length ∧
Made w w' (21 : TypeId) (1 : Nat) x.fst x.snd.fst (List.map (Value.int IntKind.i32) (runes g1)) x.snd.snd →
∃ (g2 : ByteArray),
#[Value.string g.s] = #[Value.string g2] ∧
True ∧
∀ (x1 : Nat) (w'1 : World),
w'.heap.size ≤ x1 ∧ w'1.heap[x1]? = some (Obj.cells #[Value.string g2] (9 : TypeId)) ∧ Ext w' w'1 →
∀ (b : Nat) (w1 : World),
New w'1 (Obj.cells #[Value.slice none (0 : Nat) (0 : Nat)] (41 : Nat)) b w1 →
∃ (xs : List (Nat × Int)),
∃ (C : Nat → Prop),
∃ (D0 : Nat → Prop),
IterAt Tryd.prog (Value.func (Fn.func (54 : Nat)) #[] #[Value.pointer (some { block := x1, off := (0 : Nat) })])
(List.map encIt xs) C w1 ∧
DomOk w1 C D0 ∧
(∃ (a4 : Option Addr),
∃ (c : Nat),
(D0 = fun (q : Nat) => q = ptrB (Value.pointer (some { block := b, off := (0 : Nat) })) ∨ blk a4 = some q) ∧
Grow w1 (ptrB (Value.pointer (some { block := b, off := (0 : Nat) }))) (41 : TypeId) (3 : TypeId) a4 c
(List.map (fun (p : Nat × Int) => Value.int IntKind.i64 (↑p.fst : Int)) (List.take (0 : Nat) xs))) ∧
(Stab w1.heap.size fun (k : Nat) (D : Nat → Prop) (W : World) =>
∃ (a : Option Addr),
∃ (c : Nat),
(D = fun (q : Nat) => q = ptrB (Value.pointer (some { block := b, off := (0 : Nat) })) ∨ blk a = some q) ∧
Grow W (ptrB (Value.pointer (some { block := b, off := (0 : Nat) }))) (41 : TypeId) (3 : TypeId) a c
(List.map (fun (p : Nat × Int) => Value.int IntKind.i64 (↑p.fst : Int)) (List.take k xs))) ∧
(∀ (x2 : Exit), Stab w1.heap.size fun (x : Nat) (D : Nat → Prop) (W : World) => (1 : Nat) = (0 : Nat)) ∧
(∀ (k : Nat) (x2 : Nat × Int) (D : Nat → Prop) (W : World),
xs[k]? = some x2 →
(∃ (a5 : Option Addr),
∃ (c : Nat),
(D = fun (q : Nat) => q = ptrB (Value.pointer (some { block := b, off := (0 : Nat) })) ∨ blk a5 = some q) ∧
Grow W (ptrB (Value.pointer (some { block := b, off := (0 : Nat) }))) (41 : TypeId) (3 : TypeId) a5 c
(List.map (fun (p : Nat × Int) => Value.int IntKind.i64 (↑p.fst : Int)) (List.take k xs))) →
Mid w1 D0 D W →
∃ (a7 : Option Addr),
∃ (n : Nat),
∃ (c : Nat),
W.cell? { block := b, off := (0 : Nat) } = some (Value.slice a7 n c) ∧
∀ (b1 : Nat) (w11 : World),
New W (Obj.cells #[Value.int IntKind.i64 (↑x2.fst : Int)] (3 : Nat)) b1 w11 →
∃ (a' : Option Addr),
∃ (c' : Nat),
∃ (w'2 : World),
AppRun Tryd.prog #[(41 : Nat), (41 : Nat)] (41 : Nat) (Value.slice a7 n c)
(Value.slice (some { block := b1, off := (0 : Nat) }) (1 : Nat) (1 : Nat)) w11 a' (n + (1 : Nat)) c' w'2 ∧
KO w11 w'2 ∧
true = true ∧
(∃ (old : Value), w'2.cell? { block := b, off := (0 : Nat) } = some old) ∧
w'2.frozen? { block := b, off := (0 : Nat) } = false ∧
∀ (w12 : World),
Stored w'2 { block := b, off := (0 : Nat) } (Value.slice a' (n + (1 : Nat)) c') w12 →
∃ (D' : Nat → Prop),
Step D W w12 D' ∧
∃ (a10 : Option Addr),
∃ (c1 : Nat),
(D' = fun (q : Nat) => q = ptrB (Value.pointer (some { block := b, off := (0 : Nat) })) ∨ blk a10 = some q) ∧
Grow w12 (ptrB (Value.pointer (some { block := b, off := (0 : Nat) }))) (41 : TypeId) (3 : TypeId) a10 c1
(List.map (fun (p : Nat × Int) => Value.int IntKind.i64 (↑p.fst : Int)) (List.take (k + (1 : Nat)) xs))) ∧
(∀ (D : Nat → Prop) (W : World),
(∃ (a4 : Option Addr),
∃ (c : Nat),
(D = fun (q : Nat) => q = ptrB (Value.pointer (some { block := b, off := (0 : Nat) })) ∨ blk a4 = some q) ∧
Grow W (ptrB (Value.pointer (some { block := b, off := (0 : Nat) }))) (41 : TypeId) (3 : TypeId) a4 c
(List.map (fun (p : Nat × Int) => Value.int IntKind.i64 (↑p.fst : Int)) (List.take (lenX xs) xs))) →
Mid w1 D0 D W →
∀ (b1 : Nat) (w11 : World),
New W (Obj.stringIter g.s (0 : Nat)) b1 w11 →
(∃ (x2 : Nat),
Value.int IntKind.i64 (0 : Int) = Value.int IntKind.i64 (↑x2 : Int) ∧
x2 ≤ cnt g.s ∧
∃ (b2 : Nat),
Value.pointer (some { block := b1, off := (0 : Nat) }) = Value.pointer (some { block := b2, off := (0 : Nat) }) ∧
Fr (fun (q : Nat) => q = b2) w11 w11 ∧ w11.heap[b2]? = some (Obj.stringIter g.s (pos g.s x2))) ∧
∀ (u : Nat → Value) (x2 : Nat) (w'2 : World),
(x2 ≤ cnt g.s ∧
∃ (b2 : Nat),
Value.pointer (some { block := b1, off := (0 : Nat) }) = Value.pointer (some { block := b2, off := (0 : Nat) }) ∧
Fr (fun (q : Nat) => q = b2) w11 w'2 ∧ w'2.heap[b2]? = some (Obj.stringIter g.s (pos g.s x2))) →
∃ (s : ByteArray),
∃ (i : Nat),
w'2.heap[b1]? = some (Obj.stringIter s i) ∧
bcase (decide (i < s.size))
(∀ (w12 : World),
Nexted w'2 b1 s i w12 →
bcase (decide ((↑x2 : Int) ≥ (↑x.snd.fst : Int))) (∃ (c : Unit), Value.bool true = Value.bool false ∧ w12 = w12)
(∃ (k : Nat),
(↑x2 : Int) = (↑k : Int) ∧
k < x.snd.fst ∧
ptrE x.fst fun (b2 o : Nat) =>
∃ (n : Int),
w12.cell? { block := b2, off := o + k } = some (Value.int IntKind.i32 n) ∧
bcase (n != dcR s i) (∃ (c : Unit), Value.bool true = Value.bool false ∧ w12 = w12)
(∃ (a9 : Option Addr),
∃ (n1 : Nat),
∃ (c : Nat),
w12.cell? { block := b, off := (0 : Nat) } = some (Value.slice a9 n1 c) ∧
bcase (decide ((↑x2 : Int) ≥ (↑n1 : Int))) (∃ (c1 : Unit), Value.bool true = Value.bool false ∧ w12 = w12)
(∃ (a10 : Option Addr),
∃ (n2 : Nat),
∃ (c1 : Nat),
w12.cell? { block := b, off := (0 : Nat) } = some (Value.slice a10 n2 c1) ∧
∃ (k1 : Nat),
(↑x2 : Int) = (↑k1 : Int) ∧
k1 < n2 ∧
ptrE a10 fun (b3 o1 : Nat) =>
∃ (n3 : Int),
w12.cell? { block := b3, off := o1 + k1 } = some (Value.int IntKind.i64 n3) ∧
∃ (c2 : Unit), Value.bool (n3 != (↑i : Int)) = Value.bool false ∧ w12 = w12))) ∧
∀ (u1 : Nat → Value) (c : Unit) (w'3 : World),
w'3 = w12 →
InR IntKind.i64 ((↑x2 : Int) + (1 : Int)) ∧
∃ (y : Nat),
Value.int IntKind.i64 ((↑x2 : Int) + (1 : Int)) = Value.int IntKind.i64 (↑y : Int) ∧
(y ≤ cnt g.s ∧
∃ (b2 : Nat),
Value.pointer (some { block := b1, off := (0 : Nat) }) = Value.pointer (some { block := b2, off := (0 : Nat) }) ∧
Fr (fun (q : Nat) => q = b2) w11 w'3 ∧ w'3.heap[b2]? = some (Obj.stringIter g.s (pos g.s y))) ∧
cnt g.s - y < cnt g.s - x2)
(∀ (w12 : World),
Drew w'2 w12 →
bcase ((↑x2 : Int) == (↑x.snd.fst : Int))
(∃ (a9 : Option Addr),
∃ (n : Nat),
∃ (c : Nat),
w'2.cell? { block := b, off := (0 : Nat) } = some (Value.slice a9 n c) ∧
bcase ((↑x2 : Int) == (↑n : Int))
((runesV g.s).length ≤ (70368744177664 : Nat) ∧
∀ (c1 b2 : Nat) (w13 : World),
NewRunes w12 g.s (21 : Nat) c1 b2 w13 →
Below w12.heap.size w12 w13 ∧
∃ (g3 : GTwo),
#[Value.slice x.fst x.snd.fst x.snd.snd, Value.slice (some { block := b2, off := (0 : Nat) }) (runesV g.s).length c1] =
#[Value.slice g3.a.ad g3.a.xs.length g3.a.c, Value.slice g3.b.ad g3.b.xs.length g3.b.c] ∧
(GSl.at IntKind.i32 g3.a w13 ∧ GSl.at IntKind.i32 g3.b w13) ∧
∀ (x3 : Bool) (w'3 : World),
x3 = decide (g3.a.xs = g3.b.xs) ∧ Ext w13 w'3 →
bcase x3
((∃ (g4 : GSl),
#[Value.slice g.l.ad g.l.xs.length g.l.c] = #[Value.slice g4.ad g4.xs.length g4.c] ∧
(GSl.at IntKind.i32 g4 w'3 ∧ g4.xs.length ≤ (67108864 : Nat)) ∧
∀ (x4 : ByteArray) (w'4 : World),
x4 = runesBytes g4.xs ∧ Ext w'3 w'4 →
Below w'3.heap.size w'3 w'4 ∧
∃ (zs : List Int),
RunesIn w'4 g.l.ad g.l.xs.length zs ∧
Below w'4.heap.size w'4 w'4 ∧
bcase (x4.toList == (runesBytes zs).toList)
(∃ (g5 : Unit),
(#[] : Array Value) = #[] ∧
U8 w'4 ∧
∀ (x5 : Unit) (w'5 : World),
Ext w'4 w'5 → ∀ (w2 : World), Turn w.heap.size w'5 w2 → ∃ (x6 : Unit), Value.bool true = Value.bool true ∧ Ext w w2)
(∀ (w2 : World), Turn w.heap.size w'4 w2 → ∃ (x5 : Unit), Value.bool false = Value.bool true ∧ Ext w w2)) ∧
∃ (zs : List Int),
RunesIn w'3 g.l.ad g.l.xs.length zs ∧
Below w'3.heap.size w'3 w'3 ∧
∃ (g4 : GSl),
#[Value.slice g.l.ad g.l.xs.length g.l.c] = #[Value.slice g4.ad g4.xs.length g4.c] ∧
(GSl.at IntKind.i32 g4 w'3 ∧ g4.xs.length ≤ (67108864 : Nat)) ∧
∀ (x4 : ByteArray) (w'4 : World),
x4 = runesBytes g4.xs ∧ Ext w'3 w'4 →
Below w'3.heap.size w'3 w'4 ∧
bcase (x4.toList == (runesBytes zs).toList)
(∃ (g5 : Unit),
(#[] : Array Value) = #[] ∧
U8 w'4 ∧
∀ (x5 : Unit) (w'5 : World),
Ext w'4 w'5 → ∀ (w2 : World), Turn w.heap.size w'5 w2 → ∃ (x6 : Unit), Value.bool true = Value.bool true ∧ Ext w w2)
(∀ (w2 : World), Turn w.heap.size w'4 w2 → ∃ (x5 : Unit), Value.bool false = Value.bool true ∧ Ext w w2))
((∀ (w2 : World), Turn w.heap.size w'3 w2 → ∃ (x4 : Unit), Value.bool false = Value.bool true ∧ Ext w w2) ∧
∀ (w2 : World), Turn w.heap.size w'3 w2 → ∃ (x4 : Unit), Value.bool false = Value.bool true ∧ Ext w w2))
((∀ (w2 : World), Turn w.heap.size w12 w2 → ∃ (x3 : Unit), Value.bool false = Value.bool true ∧ Ext w w2) ∧
∀ (w2 : World), Turn w.heap.size w12 w2 → ∃ (x3 : Unit), Value.bool false = Value.bool true ∧ Ext w w2))
((∀ (w2 : World), Turn w.heap.size w12 w2 → ∃ (x3 : Unit), Value.bool false = Value.bool true ∧ Ext w w2) ∧
∀ (w2 : World), Turn w.heap.size w12 w2 → ∃ (x3 : Unit), Value.bool false = Value.bool true ∧ Ext w w2))) ∧
True) :
    (sLawSL).Ok Tryd.prog 7 :=
  ok_of_vc sLawSL annLang spLang (fun _ _ => rfl) (fun _ _ => rfl) hsp Tryd.func7 rfl (n := 2) (fun _ => rfl) (by kernel_rfl) (vcast (by kernel_rfl) h)

set_option maxRecDepth 1000000 in
theorem lawBack_vc (hsp : SpecsOk Tryd.prog spLBack) (h : ∀ (g : ByteArray) (w : World),
U8 w ∧ g.size ≤ (1048576 : Nat) →
∀ (b : Nat) (w1 : World),
New w (Obj.cells #[Value.string g] (9 : Nat)) b w1 →
∀ (b1 : Nat) (w11 : World),
New w1 (Obj.cells #[Value.bool false] (4 : Nat)) b1 w11 →
∃ (s : ByteArray),
w11.cell? { block := b, off := (0 : Nat) } = some (Value.string s) ∧
∃ (g1 : ByteArray),
#[Value.string s] = #[Value.string g1] ∧
True ∧
∀ (x : Nat) (w' : World),
w11.heap.size ≤ x ∧ w'.heap[x]? = some (Obj.cells #[Value.string g1] (9 : TypeId)) ∧ Ext w11 w' →
∃ (s1 : ByteArray),
w'.cell? { block := b, off := (0 : Nat) } = some (Value.string s1) ∧
∃ (g2 : ByteArray),
#[Value.string s1] = #[Value.string g2] ∧
True ∧
∀ (x1 : Nat) (w'1 : World),
w'.heap.size ≤ x1 ∧ w'1.heap[x1]? = some (Obj.cells #[Value.string g2] (9 : TypeId)) ∧ Ext w' w'1 →
∀ (b2 : Nat) (w12 : World),
New w'1 (Obj.cells #[Value.slice none (0 : Nat) (0 : Nat)] (41 : Nat)) b2 w12 →
∀ (b3 : Nat) (w13 : World),
New w12 (Obj.cells #[Value.slice none (0 : Nat) (0 : Nat)] (26 : Nat)) b3 w13 →
∃ (xs : List (Nat × Int)),
∃ (C : Nat → Prop),
∃ (D0 : Nat → Prop),
IterAt Tryd.prog (Value.func (Fn.func (55 : Nat)) #[] #[Value.pointer (some { block := x, off := (0 : Nat) })])
(List.map encIt xs) C w13 ∧
DomOk w13 C D0 ∧
(∃ (a7 : Option Addr),
∃ (ac : Nat),
∃ (c : Option Addr),
∃ (cc : Nat),
(D0 = fun (q : Nat) =>
q = ptrB (Value.pointer (some { block := b2, off := (0 : Nat) })) ∨
q = ptrB (Value.pointer (some { block := b3, off := (0 : Nat) })) ∨ blk a7 = some q ∨ blk c = some q) ∧
Grow w13 (ptrB (Value.pointer (some { block := b2, off := (0 : Nat) }))) (41 : TypeId) (3 : TypeId) a7 ac
(List.map (fun (p : Nat × Int) => Value.int IntKind.i64 (↑p.fst : Int)) (List.take (0 : Nat) xs)) ∧
Grow w13 (ptrB (Value.pointer (some { block := b3, off := (0 : Nat) }))) (26 : TypeId) (21 : TypeId) c cc
(List.map (fun (p : Nat × Int) => Value.int IntKind.i32 p.snd) (List.take (0 : Nat) xs))) ∧
(Stab w13.heap.size fun (k : Nat) (D : Nat → Prop) (W : World) =>
∃ (a : Option Addr),
∃ (ac : Nat),
∃ (c : Option Addr),
∃ (cc : Nat),
(D = fun (q : Nat) =>
q = ptrB (Value.pointer (some { block := b2, off := (0 : Nat) })) ∨
q = ptrB (Value.pointer (some { block := b3, off := (0 : Nat) })) ∨ blk a = some q ∨ blk c = some q) ∧
Grow W (ptrB (Value.pointer (some { block := b2, off := (0 : Nat) }))) (41 : TypeId) (3 : TypeId) a ac
(List.map (fun (p : Nat × Int) => Value.int IntKind.i64 (↑p.fst : Int)) (List.take k xs)) ∧
Grow W (ptrB (Value.pointer (some { block := b3, off := (0 : Nat) }))) (26 : TypeId) (21 : TypeId) c cc
(List.map (fun (p : Nat × Int) => Value.int IntKind.i32 p.snd) (List.take k xs))) ∧
(∀ (x2 : Exit), Stab w13.heap.size fun (x : Nat) (D : Nat → Prop) (W : World) => (1 : Nat) = (0 : Nat)) ∧
(∀ (k : Nat) (x2 : Nat × Int) (D : Nat → Prop) (W : World),
xs[k]? = some x2 →
(∃ (a8 : Option Addr),
∃ (ac : Nat),
∃ (c : Option Addr),
∃ (cc : Nat),
(D = fun (q : Nat) =>
q = ptrB (Value.pointer (some { block := b2, off := (0 : Nat) })) ∨
q = ptrB (Value.pointer (some { block := b3, off := (0 : Nat) })) ∨ blk a8 = some q ∨ blk c = some q) ∧
Grow W (ptrB (Value.pointer (some { block := b2, off := (0 : Nat) }))) (41 : TypeId) (3 : TypeId) a8 ac
(List.map (fun (p : Nat × Int) => Value.int IntKind.i64 (↑p.fst : Int)) (List.take k xs)) ∧
Grow W (ptrB (Value.pointer (some { block := b3, off := (0 : Nat) }))) (26 : TypeId) (21 : TypeId) c cc
(List.map (fun (p : Nat × Int) => Value.int IntKind.i32 p.snd) (List.take k xs))) →
Mid w13 D0 D W →
∃ (a10 : Option Addr),
∃ (n : Nat),
∃ (c : Nat),
W.cell? { block := b2, off := (0 : Nat) } = some (Value.slice a10 n c) ∧
∀ (b4 : Nat) (w14 : World),
New W (Obj.cells #[Value.int IntKind.i64 (↑x2.fst : Int)] (3 : Nat)) b4 w14 →
∃ (a' : Option Addr),
∃ (c' : Nat),
∃ (w'2 : World),
AppRun Tryd.prog #[(41 : Nat), (41 : Nat)] (41 : Nat) (Value.slice a10 n c)
(Value.slice (some { block := b4, off := (0 : Nat) }) (1 : Nat) (1 : Nat)) w14 a' (n + (1 : Nat)) c' w'2 ∧
KO w14 w'2 ∧
true = true ∧
(∃ (old : Value), w'2.cell? { block := b2, off := (0 : Nat) } = some old) ∧
w'2.frozen? { block := b2, off := (0 : Nat) } = false ∧
∀ (w15 : World),
Stored w'2 { block := b2, off := (0 : Nat) } (Value.slice a' (n + (1 : Nat)) c') w15 →
∃ (a13 : Option Addr),
∃ (n1 : Nat),
∃ (c1 : Nat),
w15.cell? { block := b3, off := (0 : Nat) } = some (Value.slice a13 n1 c1) ∧
∀ (b5 : Nat) (w16 : World),
New w15 (Obj.cells #[Value.int IntKind.i32 x2.snd] (21 : Nat)) b5 w16 →
∃ (a'1 : Option Addr),
∃ (c'1 : Nat),
∃ (w'3 : World),
AppRun Tryd.prog #[(26 : Nat), (26 : Nat)] (26 : Nat) (Value.slice a13 n1 c1)
(Value.slice (some { block := b5, off := (0 : Nat) }) (1 : Nat) (1 : Nat)) w16 a'1 (n1 + (1 : Nat)) c'1 w'3 ∧
KO w16 w'3 ∧
true = true ∧
(∃ (old : Value), w'3.cell? { block := b3, off := (0 : Nat) } = some old) ∧
w'3.frozen? { block := b3, off := (0 : Nat) } = false ∧
∀ (w17 : World),
Stored w'3 { block := b3, off := (0 : Nat) } (Value.slice a'1 (n1 + (1 : Nat)) c'1) w17 →
∃ (D' : Nat → Prop),
Step D W w17 D' ∧
∃ (a16 : Option Addr),
∃ (ac : Nat),
∃ (c2 : Option Addr),
∃ (cc : Nat),
(D' = fun (q : Nat) =>
q = ptrB (Value.pointer (some { block := b2, off := (0 : Nat) })) ∨
q = ptrB (Value.pointer (some { block := b3, off := (0 : Nat) })) ∨ blk a16 = some q ∨ blk c2 = some q) ∧
Grow w17 (ptrB (Value.pointer (some { block := b2, off := (0 : Nat) }))) (41 : TypeId) (3 : TypeId) a16 ac
(List.map (fun (p : Nat × Int) => Value.int IntKind.i64 (↑p.fst : Int)) (List.take (k + (1 : Nat)) xs)) ∧
Grow w17 (ptrB (Value.pointer (some { block := b3, off := (0 : Nat) }))) (26 : TypeId) (21 : TypeId) c2 cc
(List.map (fun (p : Nat × Int) => Value.int IntKind.i32 p.snd) (List.take (k + (1 : Nat)) xs))) ∧
(∀ (D : Nat → Prop) (W : World),
(∃ (a7 : Option Addr),
∃ (ac : Nat),
∃ (c : Option Addr),
∃ (cc : Nat),
(D = fun (q : Nat) =>
q = ptrB (Value.pointer (some { block := b2, off := (0 : Nat) })) ∨
q = ptrB (Value.pointer (some { block := b3, off := (0 : Nat) })) ∨ blk a7 = some q ∨ blk c = some q) ∧
Grow W (ptrB (Value.pointer (some { block := b2, off := (0 : Nat) }))) (41 : TypeId) (3 : TypeId) a7 ac
(List.map (fun (p : Nat × Int) => Value.int IntKind.i64 (↑p.fst : Int)) (List.take (lenX xs) xs)) ∧
Grow W (ptrB (Value.pointer (some { block := b3, off := (0 : Nat) }))) (26 : TypeId) (21 : TypeId) c cc
(List.map (fun (p : Nat × Int) => Value.int IntKind.i32 p.snd) (List.take (lenX xs) xs))) →
Mid w13 D0 D W →
∃ (a9 : Option Addr),
∃ (n : Nat),
∃ (c : Nat),
W.cell? { block := b2, off := (0 : Nat) } = some (Value.slice a9 n c) ∧
∀ (b4 : Nat) (w14 : World),
New W (Obj.cells #[Value.int IntKind.i64 (0 : Int)] (3 : Nat)) b4 w14 →
true = true ∧
(∃ (old : Value), w14.cell? { block := b4, off := (0 : Nat) } = some old) ∧
w14.frozen? { block := b4, off := (0 : Nat) } = false ∧
∀ (w15 : World),
Stored w14 { block := b4, off := (0 : Nat) } (Value.int IntKind.i64 (↑n : Int)) w15 →
∀ (b5 : Nat) (w16 : World),
New w15 (Obj.cells #[Value.int IntKind.i64 (0 : Int)] (3 : Nat)) b5 w16 →
true = true ∧
(∃ (old : Value), w16.cell? { block := b5, off := (0 : Nat) } = some old) ∧
w16.frozen? { block := b5, off := (0 : Nat) } = false ∧
∀ (w17 : World),
Stored w16 { block := b5, off := (0 : Nat) } (Value.int IntKind.i64 (0 : Int)) w17 →
∃ (xs1 : List (Nat × Int)),
∃ (C1 : Nat → Prop),
∃ (D01 : Nat → Prop),
IterAt Tryd.prog (Value.func (Fn.func (54 : Nat)) #[] #[Value.pointer (some { block := x1, off := (0 : Nat) })])
(List.map encIt xs1) C1 w17 ∧
DomOk w17 C1 D01 ∧
(D01 =
ones
[ptrB (Value.pointer (some { block := b4, off := (0 : Nat) })),
ptrB (Value.pointer (some { block := b5, off := (0 : Nat) })),
ptrB (Value.pointer (some { block := b1, off := (0 : Nat) }))] ∧
w17.heap[ptrB (Value.pointer (some { block := b4, off := (0 : Nat) }))]? =
some (Obj.cells #[Value.int IntKind.i64 ((↑(cnt g) : Int) - (↑(0 : Nat) : Int))] (3 : TypeId)) ∧
w17.heap[ptrB (Value.pointer (some { block := b5, off := (0 : Nat) }))]? =
some (Obj.cells #[Value.int IntKind.i64 (↑(pos g (0 : Nat)) : Int)] (3 : TypeId)) ∧
∃ (v : Bool),
w17.heap[ptrB (Value.pointer (some { block := b1, off := (0 : Nat) }))]? =
some (Obj.cells #[Value.bool v] (4 : TypeId))) ∧
(Stab w17.heap.size fun (k : Nat) (D : Nat → Prop) (W : World) =>
D =
ones
[ptrB (Value.pointer (some { block := b4, off := (0 : Nat) })),
ptrB (Value.pointer (some { block := b5, off := (0 : Nat) })),
ptrB (Value.pointer (some { block := b1, off := (0 : Nat) }))] ∧
W.heap[ptrB (Value.pointer (some { block := b4, off := (0 : Nat) }))]? =
some (Obj.cells #[Value.int IntKind.i64 ((↑(cnt g) : Int) - (↑k : Int))] (3 : TypeId)) ∧
W.heap[ptrB (Value.pointer (some { block := b5, off := (0 : Nat) }))]? =
some (Obj.cells #[Value.int IntKind.i64 (↑(pos g k) : Int)] (3 : TypeId)) ∧
∃ (v : Bool),
W.heap[ptrB (Value.pointer (some { block := b1, off := (0 : Nat) }))]? =
some (Obj.cells #[Value.bool v] (4 : TypeId))) ∧
(∀ (x2 : Exit), Stab w17.heap.size fun (x : Nat) (D : Nat → Prop) (W : World) => (1 : Nat) = (0 : Nat)) ∧
(∀ (k : Nat) (x2 : Nat × Int) (D1 : Nat → Prop) (W1 : World),
xs1[k]? = some x2 →
(D1 =
ones
[ptrB (Value.pointer (some { block := b4, off := (0 : Nat) })),
ptrB (Value.pointer (some { block := b5, off := (0 : Nat) })),
ptrB (Value.pointer (some { block := b1, off := (0 : Nat) }))] ∧
W1.heap[ptrB (Value.pointer (some { block := b4, off := (0 : Nat) }))]? =
some (Obj.cells #[Value.int IntKind.i64 ((↑(cnt g) : Int) - (↑k : Int))] (3 : TypeId)) ∧
W1.heap[ptrB (Value.pointer (some { block := b5, off := (0 : Nat) }))]? =
some (Obj.cells #[Value.int IntKind.i64 (↑(pos g k) : Int)] (3 : TypeId)) ∧
∃ (v : Bool),
W1.heap[ptrB (Value.pointer (some { block := b1, off := (0 : Nat) }))]? =
some (Obj.cells #[Value.bool v] (4 : TypeId))) →
Mid w17 D01 D1 W1 →
∃ (n1 : Int),
W1.cell? { block := b4, off := (0 : Nat) } = some (Value.int IntKind.i64 n1) ∧
InR IntKind.i64 (n1 - (1 : Int)) ∧
true = true ∧
(∃ (old : Value), W1.cell? { block := b4, off := (0 : Nat) } = some old) ∧
W1.frozen? { block := b4, off := (0 : Nat) } = false ∧
∀ (w18 : World),
Stored W1 { block := b4, off := (0 : Nat) } (Value.int IntKind.i64 (n1 - (1 : Int))) w18 →
(∃ (n2 : Int),
w18.cell? { block := b4, off := (0 : Nat) } = some (Value.int IntKind.i64 n2) ∧
bcase (decide (n2 < (0 : Int))) (∃ (c1 : Unit), Value.bool true = Value.bool false ∧ w18 = w18)
(∃ (a18 : Option Addr),
∃ (n3 : Nat),
∃ (c1 : Nat),
w18.cell? { block := b2, off := (0 : Nat) } = some (Value.slice a18 n3 c1) ∧
∃ (n4 : Int),
w18.cell? { block := b4, off := (0 : Nat) } = some (Value.int IntKind.i64 n4) ∧
∃ (k1 : Nat),
n4 = (↑k1 : Int) ∧
k1 < n3 ∧
ptrE a18 fun (b6 o : Nat) =>
∃ (n5 : Int),
w18.cell? { block := b6, off := o + k1 } = some (Value.int IntKind.i64 n5) ∧
bcase (n5 != (↑x2.fst : Int)) (∃ (c2 : Unit), Value.bool true = Value.bool false ∧ w18 = w18)
(∃ (a19 : Option Addr),
∃ (n6 : Nat),
∃ (c2 : Nat),
w18.cell? { block := b3, off := (0 : Nat) } = some (Value.slice a19 n6 c2) ∧
∃ (n7 : Int),
w18.cell? { block := b4, off := (0 : Nat) } = some (Value.int IntKind.i64 n7) ∧
∃ (k2 : Nat),
n7 = (↑k2 : Int) ∧
k2 < n6 ∧
ptrE a19 fun (b7 o1 : Nat) =>
∃ (n8 : Int),
w18.cell? { block := b7, off := o1 + k2 } = some (Value.int IntKind.i32 n8) ∧
bcase (n8 != x2.snd) (∃ (c3 : Unit), Value.bool true = Value.bool false ∧ w18 = w18)
(∃ (n9 : Int),
w18.cell? { block := b5, off := (0 : Nat) } = some (Value.int IntKind.i64 n9) ∧
∃ (c3 : Unit), Value.bool ((↑x2.fst : Int) != n9) = Value.bool false ∧ w18 = w18)))) ∧
∀ (u : Nat → Value) (c1 : Unit) (w'2 : World),
w'2 = w18 →
∃ (s2 : ByteArray),
w'2.cell? { block := b, off := (0 : Nat) } = some (Value.string s2) ∧
∃ (k1 : Nat),
(↑x2.fst : Int) = (↑k1 : Int) ∧
k1 ≤ s2.size ∧
s2.size ≤ s2.size ∧
∃ (g3 : ByteArray),
#[Value.string (s2.extract k1 s2.size)] = #[Value.string g3] ∧
(U8 w'2 ∧ g3.size ≤ (67108864 : Nat)) ∧
∀ (x3 : Int × Nat) (w'3 : World),
x3.fst = nxR g3 ∧ x3.snd = nxN g3 ∧ Ext w'2 w'3 →
∃ (s3 : ByteArray),
w'3.cell? { block := b, off := (0 : Nat) } = some (Value.string s3) ∧
InR IntKind.i64 ((↑x2.fst : Int) + (↑x3.snd : Int)) ∧
∃ (k2 : Nat),
(↑x2.fst : Int) + (↑x3.snd : Int) = (↑k2 : Int) ∧
(0 : Nat) ≤ k2 ∧
k2 ≤ s3.size ∧
∃ (g4 : ByteArray),
#[Value.string (s3.extract (0 : Nat) k2)] = #[Value.string g4] ∧
(U8 w'3 ∧ g4.size ≤ (67108864 : Nat)) ∧
∀ (x4 : Int × Nat) (w'4 : World),
x4.fst = lsR g4 ∧ x4.snd = lsN g4 ∧ Ext w'3 w'4 →
bcase (x3.fst != x2.snd) (∃ (c2 : Unit), Value.bool true = Value.bool false ∧ w'4 = w'4)
(bcase (x4.fst != x2.snd) (∃ (c2 : Unit), Value.bool true = Value.bool false ∧ w'4 = w'4)
(bcase ((↑x3.snd : Int) != (↑x4.snd : Int)) (∃ (c2 : Unit), Value.bool true = Value.bool false ∧ w'4 = w'4)
(bcase (decide ((↑x3.snd : Int) < (1 : Int))) (∃ (c2 : Unit), Value.bool true = Value.bool false ∧ w'4 = w'4)
(bcase (decide ((↑x3.snd : Int) > (4 : Int))) (∃ (c2 : Unit), Value.bool true = Value.bool false ∧ w'4 = w'4)
(bcase ((↑x3.snd : Int) == (1 : Int))
(∃ (s4 : ByteArray),
w'4.cell? { block := b, off := (0 : Nat) } = some (Value.string s4) ∧
∃ (k3 : Nat),
(↑x2.fst : Int) = (↑k3 : Int) ∧
k3 < s4.size ∧
InR IntKind.i32 (↑(s4.data.toList.getD k3 (0 : UInt8)).toNat : Int) ∧
bcase (x2.snd != (↑(s4.data.toList.getD k3 (0 : UInt8)).toNat : Int))
(∃ (c2 : Unit), Value.bool (x2.snd != (65533 : Int)) = Value.bool false ∧ w'4 = w'4)
(∃ (c2 : Unit), Value.bool false = Value.bool false ∧ w'4 = w'4))
(∃ (c2 : Unit), Value.bool false = Value.bool false ∧ w'4 = w'4)))))) ∧
∀ (u1 : Nat → Value) (c2 : Unit) (w'5 : World),
w'5 = w'4 →
InR IntKind.i64 ((↑x2.fst : Int) + (↑x3.snd : Int)) ∧
true = true ∧
(∃ (old : Value), w'5.cell? { block := b5, off := (0 : Nat) } = some old) ∧
w'5.frozen? { block := b5, off := (0 : Nat) } = false ∧
∀ (w19 : World),
Stored w'5 { block := b5, off := (0 : Nat) } (Value.int IntKind.i64 ((↑x2.fst : Int) + (↑x3.snd : Int))) w19 →
∃ (D' : Nat → Prop),
Step D1 W1 w19 D' ∧
D' =
ones
[ptrB (Value.pointer (some { block := b4, off := (0 : Nat) })),
ptrB (Value.pointer (some { block := b5, off := (0 : Nat) })),
ptrB (Value.pointer (some { block := b1, off := (0 : Nat) }))] ∧
w19.heap[ptrB (Value.pointer (some { block := b4, off := (0 : Nat) }))]? =
some (Obj.cells #[Value.int IntKind.i64 ((↑(cnt g) : Int) - (↑(k + (1 : Nat)) : Int))] (3 : TypeId)) ∧
w19.heap[ptrB (Value.pointer (some { block := b5, off := (0 : Nat) }))]? =
some (Obj.cells #[Value.int IntKind.i64 (↑(pos g (k + (1 : Nat))) : Int)] (3 : TypeId)) ∧
∃ (v : Bool),
w19.heap[ptrB (Value.pointer (some { block := b1, off := (0 : Nat) }))]? =
some (Obj.cells #[Value.bool v] (4 : TypeId))) ∧
(∀ (D1 : Nat → Prop) (W1 : World),
(D1 =
ones
[ptrB (Value.pointer (some { block := b4, off := (0 : Nat) })),
ptrB (Value.pointer (some { block := b5, off := (0 : Nat) })),
ptrB (Value.pointer (some { block := b1, off := (0 : Nat) }))] ∧
W1.heap[ptrB (Value.pointer (some { block := b4, off := (0 : Nat) }))]? =
some (Obj.cells #[Value.int IntKind.i64 ((↑(cnt g) : Int) - (↑(lenX xs1) : Int))] (3 : TypeId)) ∧
W1.heap[ptrB (Value.pointer (some { block := b5, off := (0 : Nat) }))]? =
some (Obj.cells #[Value.int IntKind.i64 (↑(pos g (lenX xs1)) : Int)] (3 : TypeId)) ∧
∃ (v : Bool),
W1.heap[ptrB (Value.pointer (some { block := b1, off := (0 : Nat) }))]? =
some (Obj.cells #[Value.bool v] (4 : TypeId))) →
Mid w17 D01 D1 W1 →
∃ (n1 : Int),
W1.cell? { block := b4, off := (0 : Nat) } = some (Value.int IntKind.i64 n1) ∧
bcase (n1 == (0 : Int))
(∃ (n2 : Int),
W1.cell? { block := b5, off := (0 : Nat) } = some (Value.int IntKind.i64 n2) ∧
∃ (s2 : ByteArray),
W1.cell? { block := b, off := (0 : Nat) } = some (Value.string s2) ∧
bcase (n2 == (↑s2.size : Int))
(∃ (g3 : Unit),
(#[] : Array Value) = #[] ∧
U8 W1 ∧
∀ (x2 : Unit) (w'2 : World),
Ext W1 w'2 →
true = true ∧
(∃ (old : Value), w'2.cell? { block := b1, off := (0 : Nat) } = some old) ∧
w'2.frozen? { block := b1, off := (0 : Nat) } = false ∧
∀ (w18 : World),
Stored w'2 { block := b1, off := (0 : Nat) } (Value.bool true) w18 →
∃ (b6 : Bool),
w18.cell? { block := b1, off := (0 : Nat) } = some (Value.bool b6) ∧
∀ (w2 : World), Turn w.heap.size w18 w2 → ∃ (x3 : Unit), Value.bool b6 = Value.bool true ∧ Ext w w2)
(true = true ∧
(∃ (old : Value), W1.cell? { block := b1, off := (0 : Nat) } = some old) ∧
W1.frozen? { block := b1, off := (0 : Nat) } = false ∧
∀ (w18 : World),
Stored W1 { block := b1, off := (0 : Nat) } (Value.bool false) w18 →
∃ (b6 : Bool),
w18.cell? { block := b1, off := (0 : Nat) } = some (Value.bool b6) ∧
∀ (w2 : World), Turn w.heap.size w18 w2 → ∃ (x2 : Unit), Value.bool b6 = Value.bool true ∧ Ext w w2))
(true = true ∧
(∃ (old : Value), W1.cell? { block := b1, off := (0 : Nat) } = some old) ∧
W1.frozen? { block := b1, off := (0 : Nat) } = false ∧
∀ (w18 : World),
Stored W1 { block := b1, off := (0 : Nat) } (Value.bool false) w18 →
∃ (b6 : Bool),
w18.cell? { block := b1, off := (0 : Nat) } = some (Value.bool b6) ∧
∀ (w2 : World), Turn w.heap.size w18 w2 → ∃ (x2 : Unit), Value.bool b6 = Value.bool true ∧ Ext w w2)) ∧
∀ (D1 : Nat → Prop) (W1 : World),
(1 : Nat) = (0 : Nat) →
Mid w17 D01 D1 W1 →
∃ (b6 : Bool),
W1.cell? { block := b1, off := (0 : Nat) } = some (Value.bool b6) ∧
∀ (w2 : World), Turn w.heap.size W1 w2 → ∃ (x2 : Unit), Value.bool b6 = Value.bool true ∧ Ext w w2) ∧
True) :
    (sLawS).Ok Tryd.prog 8 :=
  ok_of_vc sLawS annLBack spLBack (fun _ _ => rfl) (fun _ _ => rfl) hsp Tryd.func8 rfl (n := 1) (fun _ => rfl) (by kernel_rfl) (vcast (by kernel_rfl) h)

end Go.Proofs.YthkcphnkllnfcaaDoor
