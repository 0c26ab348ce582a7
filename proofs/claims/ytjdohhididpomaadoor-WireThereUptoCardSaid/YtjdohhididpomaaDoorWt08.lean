/-
  Texts joined by program: VgXh, VgXd, VgXa, VgSa.
-/
import Derived.Test.YtjdohhididpomaaDoorWt07
import Derived.Test.YtjdohhididpomaaDoorProg
import Derived.KernelRfl
import Derived.Test.YtjdohhididpomaaDoorWt06
set_option linter.unusedVariables false
set_option linter.unusedSimpArgs false

section
set_option linter.unusedVariables false
namespace Go.Proofs.YtjdohhididpomaaDoor
open Go Go.RowKit Vc Ut Tb Cl
set_option maxRecDepth 1000000 in
theorem backG_vc (hsp : SpecsOk Tryd.prog []) (h : ∀ (g : GGl) (w : World),
GlIn w g.A g.g ∧ fitG g.g →
∀ (w1 : World),
Drew w w1 →
∃ (n : Int),
w.cell? ⟨g.A.p, 4, none⟩ = some (Value.int .i64 n) ∧
∃ (n1 : Int),
w.cell? ⟨g.A.p, 0, none⟩ = some (Value.int .i64 n1) ∧
bcase (decide (n ≥ n1))
(∃ (n2 : Int),
w1.cell? ⟨g.A.p, 0, none⟩ = some (Value.int .i64 n2) ∧
InR .i64 (n2 - (1 : Int)) ∧
true = true ∧
(∃ (old : Value), w1.cell? ⟨g.A.p, 4, none⟩ = some old) ∧
w1.frozen? ⟨g.A.p, 4, none⟩ = false ∧
∀ (w11 : World),
Stored w1 ⟨g.A.p, 4, none⟩
(Value.int .i64 (if (0 : Int) > n2 - (1 : Int) then (0 : Int) else n2 - (1 : Int))) w11 →
∃ (x : GlP), Value.tuple #[] = Value.tuple #[] ∧ GlOut w w11 g.A x (backG g.g))
(∃ (x : GlP), Value.tuple #[] = Value.tuple #[] ∧ GlOut w w1 g.A x (backG g.g))) :
    (sBackG).Ok Tryd.prog 40 :=
  ok_of_vc sBackG (annOf []) [] (fun _ _ => rfl) (fun _ _ => rfl) hsp Tryd.func40 rfl (n := 1) (fun _ => rfl) (by kernel_rfl) (vcast (by kernel_rfl) h)
set_option maxRecDepth 1000000 in
theorem downG_vc (hsp : SpecsOk Tryd.prog []) (h : ∀ (g : GGl) (w : World),
GlIn w g.A g.g ∧ fitG g.g →
∀ (w1 : World),
Drew w w1 →
∃ (n : Int),
w.cell? ⟨g.A.p, 5, none⟩ = some (Value.int .i64 n) ∧
InR .i64 (n + (1 : Int)) ∧
∃ (n1 : Int),
w.cell? ⟨g.A.p, 1, none⟩ = some (Value.int .i64 n1) ∧
bcase (decide (n + (1 : Int) < n1))
(∃ (n2 : Int),
w1.cell? ⟨g.A.p, 5, none⟩ = some (Value.int .i64 n2) ∧
InR .i64 (n2 + (1 : Int)) ∧
true = true ∧
(∃ (old : Value), w1.cell? ⟨g.A.p, 5, none⟩ = some old) ∧
w1.frozen? ⟨g.A.p, 5, none⟩ = false ∧
∀ (w11 : World),
Stored w1 ⟨g.A.p, 5, none⟩ (Value.int .i64 (n2 + (1 : Int))) w11 →
∃ (x : GlP), Value.tuple #[] = Value.tuple #[] ∧ GlOut w w11 g.A x (downG g.g))
(∀ (w11 : World),
Drew w1 w11 →
∃ (a3 : Option Addr) (n2 : Nat) (c : Nat),
w1.cell? ⟨g.A.p, 3, none⟩ = some (Value.slice a3 n2 c) ∧
∃ (a4 : Option Addr) (n3 : Nat) (c1 : Nat),
w1.cell? ⟨g.A.p, 3, none⟩ = some (Value.slice a4 n3 c1) ∧
∃ (n4 : Int),
w1.cell? ⟨g.A.p, 0, none⟩ = some (Value.int .i64 n4) ∧
∃ (a5 : Option Addr) (n5 : Nat) (c2 : Nat),
w1.cell? ⟨g.A.p, 3, none⟩ = some (Value.slice a5 n5 c2) ∧
∃ (ln : Nat),
(if (↑n5 : Int) < n4 then (↑n5 : Int) else n4) = (↑ln : Int) ∧
ln ≤ n3 ∧
∀ (ad' : Option Addr),
SlAt a4 ad' c1 ln (6 : Nat) →
∃ (n6 : Nat) (w' : World),
CopyRun Tryd.prog #[(25 : Nat), (25 : Nat)] (3 : Nat) (Value.slice a3 n2 c) (Value.slice ad' (n3 - ln) (c1 - ln)) w11 n6
w' ∧
KO w11 w' ∧
∀ (w12 : World),
Drew w' w12 →
∃ (a8 : Option Addr) (n7 : Nat) (c3 : Nat),
w'.cell? ⟨g.A.p, 3, none⟩ = some (Value.slice a8 n7 c3) ∧
∃ (a9 : Option Addr) (n8 : Nat) (c4 : Nat),
w'.cell? ⟨g.A.p, 3, none⟩ = some (Value.slice a9 n8 c4) ∧
∃ (n9 : Int),
w'.cell? ⟨g.A.p, 0, none⟩ = some (Value.int .i64 n9) ∧
InR .i64 ((↑n8 : Int) - n9) ∧
∃ (ln1 : Nat),
(if (0 : Int) > (↑n8 : Int) - n9 then (0 : Int) else (↑n8 : Int) - n9) = (↑ln1 : Int) ∧
ln1 ≤ n7 ∧
∀ (ad'1 : Option Addr),
SlAt a8 ad'1 c3 ln1 (6 : Nat) →
∃ (w'1 : World),
Sem.run Tryd.prog (Builtin.clear_ #[(25 : Nat)] (0 : Nat) #[Value.slice ad'1 (n7 - ln1) (c3 - ln1)]) w12 =
Result.ok (Value.tuple #[]) w'1 ∧
KO w12 w'1 ∧ ∃ (x : GlP), Value.tuple #[] = Value.tuple #[] ∧ GlOut w w'1 g.A x (downG g.g))) :
    (sDownG).Ok Tryd.prog 41 :=
  ok_of_vc sDownG (annOf []) [] (fun _ _ => rfl) (fun _ _ => rfl) hsp Tryd.func41 rfl (n := 1) (fun _ => rfl) (by kernel_rfl) (vcast (by kernel_rfl) h)
set_option maxRecDepth 1000000 in
theorem layG_vc (hsp : SpecsOk Tryd.prog []) (h : ∀ (g : GLy) (w : World),
GlIn w g.A g.g ∧ fitG g.g ∧ layOk g.g g.i →
∀ (b : Nat) (w1 : World),
New w
(Obj.cells
#[Value.string g.c.t, Value.int .i8 g.c.p, Value.int .i64 g.c.a, Value.int .i64 g.c.n,
Value.bool g.c.r, Value.int .u16 (↑g.c.st : Int)]
(46 : Nat))
b w1 →
∃ (a2 : Option Addr) (n : Nat) (c : Nat),
w1.cell? ⟨g.A.p, 3, none⟩ = some (Value.slice a2 n c) ∧
∃ (k : Nat),
(↑g.i : Int) = (↑k : Int) ∧
k < n ∧
ptrE a2 fun (b1 o : Nat) =>
∃ (s : ByteArray),
w1.cell? ⟨b1, o + k * 6, none⟩ = some (Value.string s) ∧
∃ (n1 : Int),
w1.cell? ⟨b1, o + k * 6 + 1, none⟩ = some (Value.int .i8 n1) ∧
∃ (n2 : Int),
w1.cell? ⟨b1, o + k * 6 + 2, none⟩ = some (Value.int .i64 n2) ∧
∃ (n3 : Int),
w1.cell? ⟨b1, o + k * 6 + 3, none⟩ = some (Value.int .i64 n3) ∧
∃ (b2 : Bool),
w1.cell? ⟨b1, o + k * 6 + 4, none⟩ = some (Value.bool b2) ∧
∃ (n4 : Int),
w1.cell? ⟨b1, o + k * 6 + 5, none⟩ = some (Value.int .u16 n4) ∧
∀ (b3 : Nat) (w11 : World),
New w1
(Obj.cells
#[Value.string s, Value.int .i8 n1, Value.int .i64 n2, Value.int .i64 n3, Value.bool b2,
Value.int .u16 n4]
(46 : Nat))
b3 w11 →
(∃ (n5 : Int),
w11.cell? ⟨b3, 1, none⟩ = some (Value.int .i8 n5) ∧
bcase (n5 == (1 : Int))
(∀ (w12 : World),
Drew w11 w12 →
∃ (a5 : Option Addr) (n6 : Nat) (c1 : Nat),
w11.cell? ⟨g.A.p, 3, none⟩ = some (Value.slice a5 n6 c1) ∧
InR .i64 ((↑g.i : Int) - (1 : Int)) ∧
∃ (a6 : Option Addr) (n7 : Nat) (c2 : Nat),
w11.cell? ⟨g.A.p, 3, none⟩ = some (Value.slice a6 n7 c2) ∧
InR .i64 ((↑g.i : Int) - (1 : Int)) ∧
∃ (k1 : Nat),
(↑g.i : Int) - (1 : Int) = (↑k1 : Int) ∧
k1 < n7 ∧
ptrE a6 fun (b4 o1 : Nat) =>
∃ (n8 : Int),
w11.cell? ⟨b4, o1 + k1 * 6 + 5, none⟩ = some (Value.int .u16 n8) ∧
∃ (k2 : Nat),
(↑g.i : Int) - (1 : Int) = (↑k2 : Int) ∧
k2 < n6 ∧
ptrE a5 fun (b5 o2 : Nat) =>
true = true ∧
(∃ (old : Value), w12.cell? ⟨b5, o2 + k2 * 6, none⟩ = some old) ∧
w12.frozen? ⟨b5, o2 + k2 * 6, none⟩ = false ∧
∀ (w13 : World),
Stored w12 ⟨b5, o2 + k2 * 6, none⟩ (Value.string (ByteArray.mk #[])) w13 →
true = true ∧
(∃ (old : Value), w13.cell? ⟨b5, o2 + k2 * 6 + 1, none⟩ = some old) ∧
w13.frozen? ⟨b5, o2 + k2 * 6 + 1, none⟩ = false ∧
∀ (w14 : World),
Stored w13 ⟨b5, o2 + k2 * 6 + 1, none⟩ (Value.int .i8 0) w14 →
true = true ∧
(∃ (old : Value), w14.cell? ⟨b5, o2 + k2 * 6 + 2, none⟩ = some old) ∧
w14.frozen? ⟨b5, o2 + k2 * 6 + 2, none⟩ = false ∧
∀ (w15 : World),
Stored w14 ⟨b5, o2 + k2 * 6 + 2, none⟩ (Value.int .i64 0) w15 →
true = true ∧
(∃ (old : Value), w15.cell? ⟨b5, o2 + k2 * 6 + 3, none⟩ = some old) ∧
w15.frozen? ⟨b5, o2 + k2 * 6 + 3, none⟩ = false ∧
∀ (w16 : World),
Stored w15 ⟨b5, o2 + k2 * 6 + 3, none⟩ (Value.int .i64 0) w16 →
true = true ∧
(∃ (old : Value), w16.cell? ⟨b5, o2 + k2 * 6 + 4, none⟩ = some old) ∧
w16.frozen? ⟨b5, o2 + k2 * 6 + 4, none⟩ = false ∧
∀ (w17 : World),
Stored w16 ⟨b5, o2 + k2 * 6 + 4, none⟩ (Value.bool false) w17 →
true = true ∧
(∃ (old : Value), w17.cell? ⟨b5, o2 + k2 * 6 + 5, none⟩ = some old) ∧
w17.frozen? ⟨b5, o2 + k2 * 6 + 5, none⟩ = false ∧
∀ (w18 : World),
Stored w17 ⟨b5, o2 + k2 * 6 + 5, none⟩ (Value.int .u16 n8) w18 →
∃ (c3 : GlP × Nat),
Value.pointer (some ⟨b, 0, none⟩) = Value.pointer (some ⟨c3.snd, 0, none⟩) ∧
GlOut w w18 g.A c3.fst (layT g.g g.i) ∧
w18.heap[c3.snd]? =
some
(Obj.cells
#[Value.string g.c.t, Value.int .i8 g.c.p, Value.int .i64 g.c.a, Value.int .i64 g.c.n,
Value.bool g.c.r, Value.int .u16 (↑g.c.st : Int)]
(46 : TypeId)))
(InR .i64 ((↑g.i : Int) + (1 : Int)) ∧
∃ (n6 : Int),
w11.cell? ⟨g.A.p, 0, none⟩ = some (Value.int .i64 n6) ∧
(0 : Int) ≤ (↑g.i : Int) + (1 : Int) ∧
(0 : Int) < n6 ∧
bcase (((↑g.i : Int) + (1 : Int)) % n6 != (0 : Int))
(∃ (a4 : Option Addr) (n7 : Nat) (c1 : Nat),
w11.cell? ⟨g.A.p, 3, none⟩ = some (Value.slice a4 n7 c1) ∧
InR .i64 ((↑g.i : Int) + (1 : Int)) ∧
∃ (k1 : Nat),
(↑g.i : Int) + (1 : Int) = (↑k1 : Int) ∧
k1 < n7 ∧
ptrE a4 fun (b4 o1 : Nat) =>
∃ (n8 : Int),
w11.cell? ⟨b4, o1 + k1 * 6 + 1, none⟩ = some (Value.int .i8 n8) ∧
bcase (n8 == (1 : Int))
(∀ (w12 : World),
Drew w11 w12 →
∃ (a6 : Option Addr) (n9 : Nat) (c2 : Nat),
w11.cell? ⟨g.A.p, 3, none⟩ = some (Value.slice a6 n9 c2) ∧
InR .i64 ((↑g.i : Int) + (1 : Int)) ∧
∃ (a7 : Option Addr) (n10 : Nat) (c3 : Nat),
w11.cell? ⟨g.A.p, 3, none⟩ = some (Value.slice a7 n10 c3) ∧
InR .i64 ((↑g.i : Int) + (1 : Int)) ∧
∃ (k2 : Nat),
(↑g.i : Int) + (1 : Int) = (↑k2 : Int) ∧
k2 < n10 ∧
ptrE a7 fun (b5 o2 : Nat) =>
∃ (n11 : Int),
w11.cell? ⟨b5, o2 + k2 * 6 + 5, none⟩ = some (Value.int .u16 n11) ∧
∃ (k3 : Nat),
(↑g.i : Int) + (1 : Int) = (↑k3 : Int) ∧
k3 < n9 ∧
ptrE a6 fun (b6 o3 : Nat) =>
true = true ∧
(∃ (old : Value), w12.cell? ⟨b6, o3 + k3 * 6, none⟩ = some old) ∧
w12.frozen? ⟨b6, o3 + k3 * 6, none⟩ = false ∧
∀ (w13 : World),
Stored w12 ⟨b6, o3 + k3 * 6, none⟩ (Value.string (ByteArray.mk #[])) w13 →
true = true ∧
(∃ (old : Value), w13.cell? ⟨b6, o3 + k3 * 6 + 1, none⟩ = some old) ∧
w13.frozen? ⟨b6, o3 + k3 * 6 + 1, none⟩ = false ∧
∀ (w14 : World),
Stored w13 ⟨b6, o3 + k3 * 6 + 1, none⟩ (Value.int .i8 0) w14 →
true = true ∧
(∃ (old : Value), w14.cell? ⟨b6, o3 + k3 * 6 + 2, none⟩ = some old) ∧
w14.frozen? ⟨b6, o3 + k3 * 6 + 2, none⟩ = false ∧
∀ (w15 : World),
Stored w14 ⟨b6, o3 + k3 * 6 + 2, none⟩ (Value.int .i64 0) w15 →
true = true ∧
(∃ (old : Value), w15.cell? ⟨b6, o3 + k3 * 6 + 3, none⟩ = some old) ∧
w15.frozen? ⟨b6, o3 + k3 * 6 + 3, none⟩ = false ∧
∀ (w16 : World),
Stored w15 ⟨b6, o3 + k3 * 6 + 3, none⟩ (Value.int .i64 0) w16 →
true = true ∧
(∃ (old : Value), w16.cell? ⟨b6, o3 + k3 * 6 + 4, none⟩ = some old) ∧
w16.frozen? ⟨b6, o3 + k3 * 6 + 4, none⟩ = false ∧
∀ (w17 : World),
Stored w16 ⟨b6, o3 + k3 * 6 + 4, none⟩ (Value.bool false) w17 →
true = true ∧
(∃ (old : Value), w17.cell? ⟨b6, o3 + k3 * 6 + 5, none⟩ = some old) ∧
w17.frozen? ⟨b6, o3 + k3 * 6 + 5, none⟩ = false ∧
∀ (w18 : World),
Stored w17 ⟨b6, o3 + k3 * 6 + 5, none⟩ (Value.int .u16 n11) w18 →
∃ (c4 : GlP × Nat),
Value.pointer (some ⟨b, 0, none⟩) = Value.pointer (some ⟨c4.snd, 0, none⟩) ∧
GlOut w w18 g.A c4.fst (layT g.g g.i) ∧
w18.heap[c4.snd]? =
some
(Obj.cells
#[Value.string g.c.t, Value.int .i8 g.c.p, Value.int .i64 g.c.a, Value.int .i64 g.c.n,
Value.bool g.c.r, Value.int .u16 (↑g.c.st : Int)]
(46 : TypeId)))
(∃ (c2 : GlP × Nat),
Value.pointer (some ⟨b, 0, none⟩) = Value.pointer (some ⟨c2.snd, 0, none⟩) ∧
GlOut w w11 g.A c2.fst (layT g.g g.i) ∧
w11.heap[c2.snd]? =
some
(Obj.cells
#[Value.string g.c.t, Value.int .i8 g.c.p, Value.int .i64 g.c.a, Value.int .i64 g.c.n,
Value.bool g.c.r, Value.int .u16 (↑g.c.st : Int)]
(46 : TypeId))))
(∃ (c1 : GlP × Nat),
Value.pointer (some ⟨b, 0, none⟩) = Value.pointer (some ⟨c1.snd, 0, none⟩) ∧
GlOut w w11 g.A c1.fst (layT g.g g.i) ∧
w11.heap[c1.snd]? =
some
(Obj.cells
#[Value.string g.c.t, Value.int .i8 g.c.p, Value.int .i64 g.c.a, Value.int .i64 g.c.n,
Value.bool g.c.r, Value.int .u16 (↑g.c.st : Int)]
(46 : TypeId))))) ∧
∀ (u : Nat → Value) (c1 : GlP × Nat) (w' : World),
GlOut w w' g.A c1.fst (layT g.g g.i) ∧
w'.heap[c1.snd]? =
some
(Obj.cells
#[Value.string g.c.t, Value.int .i8 g.c.p, Value.int .i64 g.c.a, Value.int .i64 g.c.n,
Value.bool g.c.r, Value.int .u16 (↑g.c.st : Int)]
(46 : TypeId)) →
∀ (w12 : World),
Drew w' w12 →
∃ (a6 : Option Addr) (n5 : Nat) (c2 : Nat),
w'.cell? ⟨g.A.p, 3, none⟩ = some (Value.slice a6 n5 c2) ∧
∃ (s1 : ByteArray),
w'.cell? ⟨c1.snd, 0, none⟩ = some (Value.string s1) ∧
∃ (n6 : Int),
w'.cell? ⟨c1.snd, 1, none⟩ = some (Value.int .i8 n6) ∧
∃ (n7 : Int),
w'.cell? ⟨c1.snd, 2, none⟩ = some (Value.int .i64 n7) ∧
∃ (n8 : Int),
w'.cell? ⟨c1.snd, 3, none⟩ = some (Value.int .i64 n8) ∧
∃ (b4 : Bool),
w'.cell? ⟨c1.snd, 4, none⟩ = some (Value.bool b4) ∧
∃ (n9 : Int),
w'.cell? ⟨c1.snd, 5, none⟩ = some (Value.int .u16 n9) ∧
∃ (k1 : Nat),
(↑g.i : Int) = (↑k1 : Int) ∧
k1 < n5 ∧
ptrE a6 fun (b5 o1 : Nat) =>
true = true ∧
(∃ (old : Value), w12.cell? ⟨b5, o1 + k1 * 6, none⟩ = some old) ∧
w12.frozen? ⟨b5, o1 + k1 * 6, none⟩ = false ∧
∀ (w13 : World),
Stored w12 ⟨b5, o1 + k1 * 6, none⟩ (Value.string s1) w13 →
true = true ∧
(∃ (old : Value), w13.cell? ⟨b5, o1 + k1 * 6 + 1, none⟩ = some old) ∧
w13.frozen? ⟨b5, o1 + k1 * 6 + 1, none⟩ = false ∧
∀ (w14 : World),
Stored w13 ⟨b5, o1 + k1 * 6 + 1, none⟩ (Value.int .i8 n6) w14 →
true = true ∧
(∃ (old : Value), w14.cell? ⟨b5, o1 + k1 * 6 + 2, none⟩ = some old) ∧
w14.frozen? ⟨b5, o1 + k1 * 6 + 2, none⟩ = false ∧
∀ (w15 : World),
Stored w14 ⟨b5, o1 + k1 * 6 + 2, none⟩ (Value.int .i64 n7) w15 →
true = true ∧
(∃ (old : Value), w15.cell? ⟨b5, o1 + k1 * 6 + 3, none⟩ = some old) ∧
w15.frozen? ⟨b5, o1 + k1 * 6 + 3, none⟩ = false ∧
∀ (w16 : World),
Stored w15 ⟨b5, o1 + k1 * 6 + 3, none⟩ (Value.int .i64 n8) w16 →
true = true ∧
(∃ (old : Value), w16.cell? ⟨b5, o1 + k1 * 6 + 4, none⟩ = some old) ∧
w16.frozen? ⟨b5, o1 + k1 * 6 + 4, none⟩ = false ∧
∀ (w17 : World),
Stored w16 ⟨b5, o1 + k1 * 6 + 4, none⟩ (Value.bool b4) w17 →
true = true ∧
(∃ (old : Value), w17.cell? ⟨b5, o1 + k1 * 6 + 5, none⟩ = some old) ∧
w17.frozen? ⟨b5, o1 + k1 * 6 + 5, none⟩ = false ∧
∀ (w18 : World),
Stored w17 ⟨b5, o1 + k1 * 6 + 5, none⟩ (Value.int .u16 n9) w18 →
∃ (x : GlP), Value.tuple #[] = Value.tuple #[] ∧ GlOut w w18 g.A x (layS g.g g.i g.c)) :
    (sLayG).Ok Tryd.prog 53 :=
  ok_of_vc sLayG annLayG [] (fun _ _ => rfl) (fun _ _ => rfl) hsp Tryd.func53 rfl (n := 3) (fun _ => rfl) (by kernel_rfl) (vcast (by kernel_rfl) h)
set_option maxRecDepth 1000000 in
theorem holdG_vc (hsp : SpecsOk Tryd.prog []) (h : ∀ (g : GHo) (w : World),
GlIn w g.A g.g ∧ fitG g.g ∧ g.g.num ≠ [] →
∃ (a1 : Option Addr) (n : Nat) (c : Nat),
w.cell? ⟨g.A.p, 11, none⟩ = some (Value.slice a1 n c) ∧
InR .i64 ((↑n : Int) - (1 : Int)) ∧
bcase (g.r == (63 : Int) && g.f)
(true = true ∧
(∃ (old : Value), w.cell? ⟨g.A.p, 12, none⟩ = some old) ∧
w.frozen? ⟨g.A.p, 12, none⟩ = false ∧
∀ (w1 : World),
Stored w ⟨g.A.p, 12, none⟩ (Value.bool true) w1 →
∃ (x : GlP), Value.tuple #[] = Value.tuple #[] ∧ GlOut w w1 g.A x (holdG g.g g.r g.f))
(bcase (g.r == (59 : Int))
(∃ (a2 : Option Addr) (n1 : Nat) (c1 : Nat),
w.cell? ⟨g.A.p, 11, none⟩ = some (Value.slice a2 n1 c1) ∧
∀ (b : Nat) (w1 : World),
New w (Obj.cells #[Value.int .i64 (-1 : Int)] (3 : Nat)) b w1 →
∃ (a' : Option Addr) (c' : Nat) (w' : World),
AppRun Tryd.prog #[(62 : Nat), (62 : Nat)] (62 : Nat) (Value.slice a2 n1 c1)
(Value.slice (some ⟨b, 0, none⟩) (1 : Nat) (1 : Nat)) w1 a' (n1 + 1) c' w' ∧
KO w1 w' ∧
true = true ∧
(∃ (old : Value), w'.cell? ⟨g.A.p, 11, none⟩ = some old) ∧
w'.frozen? ⟨g.A.p, 11, none⟩ = false ∧
∀ (w11 : World),
Stored w' ⟨g.A.p, 11, none⟩ (Value.slice a' (n1 + 1) c') w11 →
∃ (x : GlP), Value.tuple #[] = Value.tuple #[] ∧ GlOut w w11 g.A x (holdG g.g g.r g.f))
(bcase (decide (g.r ≥ (48 : Int)) && decide (g.r ≤ (57 : Int)))
(∀ (w1 : World),
Drew w w1 →
∃ (a3 : Option Addr) (n1 : Nat) (c1 : Nat),
w.cell? ⟨g.A.p, 11, none⟩ = some (Value.slice a3 n1 c1) ∧
∃ (a4 : Option Addr) (n2 : Nat) (c2 : Nat),
w.cell? ⟨g.A.p, 11, none⟩ = some (Value.slice a4 n2 c2) ∧
∃ (k : Nat),
(↑n : Int) - (1 : Int) = (↑k : Int) ∧
k < n2 ∧
ptrE a4 fun (b o : Nat) =>
∃ (n3 : Int),
w.cell? ⟨b, o + k, none⟩ = some (Value.int .i64 n3) ∧
InR .i64 ((if (0 : Int) > n3 then (0 : Int) else n3) * (10 : Int)) ∧
InR .i32 (g.r - (48 : Int)) ∧
InR .i64 (g.r - (48 : Int)) ∧
Below w1.heap.size w1 w1 ∧
InR .i64 ((if (0 : Int) > n3 then (0 : Int) else n3) * (10 : Int) + (g.r - (48 : Int))) ∧
∃ (k1 : Nat),
(↑n : Int) - (1 : Int) = (↑k1 : Int) ∧
k1 < n1 ∧
ptrE a3 fun (b1 o1 : Nat) =>
true = true ∧
(∃ (old : Value), w1.cell? ⟨b1, o1 + k1, none⟩ = some old) ∧
w1.frozen? ⟨b1, o1 + k1, none⟩ = false ∧
∀ (w11 : World),
Stored w1 ⟨b1, o1 + k1, none⟩
(Value.int IntKind.i64
(if (9999 : Int) < (if (0 : Int) > n3 then (0 : Int) else n3) * (10 : Int) + (g.r - (48 : Int)) then (9999 : Int)
else (if (0 : Int) > n3 then (0 : Int) else n3) * (10 : Int) + (g.r - (48 : Int))))
w11 →
∃ (x : GlP), Value.tuple #[] = Value.tuple #[] ∧ GlOut w w11 g.A x (holdG g.g g.r g.f))
(true = true ∧
(∃ (old : Value), w.cell? ⟨g.A.p, 13, none⟩ = some old) ∧
w.frozen? ⟨g.A.p, 13, none⟩ = false ∧
∀ (w1 : World),
Stored w ⟨g.A.p, 13, none⟩ (Value.bool true) w1 →
∃ (x : GlP), Value.tuple #[] = Value.tuple #[] ∧ GlOut w w1 g.A x (holdG g.g g.r g.f))))) :
    (sHoldG).Ok Tryd.prog 36 :=
  ok_of_vc sHoldG (annOf []) [] (fun _ _ => rfl) (fun _ _ => rfl) hsp Tryd.func36 rfl (n := 3) (fun _ => rfl) (by kernel_rfl) (vcast (by kernel_rfl) h)
set_option maxRecDepth 1000000 in
theorem numG_vc (hsp : SpecsOk Tryd.prog []) (h : ∀ (g : GNmG) (w : World),
w.heap[g.b]? = some (Obj.cells #[Value.slice g.a g.l.length g.c] (62 : TypeId)) ∧
CellsAt w g.a (List.map (Value.int IntKind.i64) g.l) →
∃ (a1 : Option Addr) (n : Nat) (c : Nat),
w.cell? ⟨g.b, 0, none⟩ = some (Value.slice a1 n c) ∧
bcase (decide ((↑g.i : Int) < (↑n : Int)))
(∃ (a2 : Option Addr) (n1 : Nat) (c1 : Nat),
w.cell? ⟨g.b, 0, none⟩ = some (Value.slice a2 n1 c1) ∧
∃ (k : Nat),
(↑g.i : Int) = (↑k : Int) ∧
k < n1 ∧
ptrE a2 fun (b o : Nat) =>
∃ (n2 : Int),
w.cell? ⟨b, o + k, none⟩ = some (Value.int .i64 n2) ∧
∃ (x : Int), Value.int .i64 n2 = Value.int .i64 x ∧ x = nmL g.l g.i ∧ w = w)
(∃ (x : Int), Value.int .i64 (-1 : Int) = Value.int .i64 x ∧ x = nmL g.l g.i ∧ w = w)) :
    (sNumG).Ok Tryd.prog 49 :=
  ok_of_vc sNumG (annOf []) [] (fun _ _ => rfl) (fun _ _ => rfl) hsp Tryd.func49 rfl (n := 2) (fun _ => rfl) (by kernel_rfl) (vcast (by kernel_rfl) h)
set_option maxRecDepth 1000000 in
theorem wearG_vc (hsp : SpecsOk Tryd.prog []) (h : ∀ (g : GGl) (w : World),
GlIn w g.A g.g ∧ fitG g.g →
(∃ (x : WgX), Value.slice g.A.na g.g.num.length g.A.nc = Value.slice x.a (g.g.num.length - x.k) x.c ∧ wgI g w x w) ∧
∀ (u : Nat → Value) (x : WgX) (w' : World),
wgI g w x w' →
bcase (decide ((↑(g.g.num.length - x.k) : Int) > (0 : Int)))
(∃ (k : Nat),
(0 : Int) = (↑k : Int) ∧
k < g.g.num.length - x.k ∧
ptrE x.a fun (b o : Nat) =>
∃ (n : Int),
w'.cell? ⟨b, o + k, none⟩ = some (Value.int .i64 n) ∧
bcase (n == (-1 : Int) || n == (0 : Int))
(true = true ∧
(∃ (old : Value), w'.cell? ⟨g.A.p, 7, none⟩ = some old) ∧
w'.frozen? ⟨g.A.p, 7, none⟩ = false ∧
∀ (w1 : World),
Stored w' ⟨g.A.p, 7, none⟩ (Value.int .u16 0) w1 →
∃ (c : WgX),
Value.slice x.a (g.g.num.length - x.k) x.c = Value.slice c.a (g.g.num.length - c.k) c.c ∧
wgJ g w c w1 ∧ g.g.num.length - c.k ≤ slLen (Value.slice x.a (g.g.num.length - x.k) x.c))
(bcase (n == (1 : Int))
(∃ (n1 : Int),
w'.cell? ⟨g.A.p, 7, none⟩ = some (Value.int .u16 n1) ∧
true = true ∧
(∃ (old : Value), w'.cell? ⟨g.A.p, 7, none⟩ = some old) ∧
w'.frozen? ⟨g.A.p, 7, none⟩ = false ∧
∀ (w1 : World),
Stored w' ⟨g.A.p, 7, none⟩
(Value.int IntKind.u16
(IntKind.u16.wrap (↑(BitVec.ofInt IntKind.u16.bits n1 ||| BitVec.ofInt IntKind.u16.bits (256 : Int)).toNat : Int)))
w1 →
∃ (c : WgX),
Value.slice x.a (g.g.num.length - x.k) x.c = Value.slice c.a (g.g.num.length - c.k) c.c ∧
wgJ g w c w1 ∧ g.g.num.length - c.k ≤ slLen (Value.slice x.a (g.g.num.length - x.k) x.c))
((∃ (c : Nat),
Value.int .i64 n = Value.int .i64 (↑c : Int) ∧
Value.int .i64 n = Value.int .i64 (↑c : Int) ∧
Value.bool (n == (3 : Int)) = Value.bool ((↑c : Int) == (3 : Int)) ∧ w' = w' ∧ n = (↑c : Int)) ∧
∀ (u1 : Nat → Value) (c : Nat) (w'1 : World),
w'1 = w' ∧ n = (↑c : Int) →
bcase ((↑c : Int) == (3 : Int) || (↑c : Int) == (4 : Int))
(∀ (w1 : World),
Drew w'1 w1 →
∃ (n1 : Int),
w'1.cell? ⟨g.A.p, 7, none⟩ = some (Value.int .u16 n1) ∧
InR .i64 ((6 : Int) + (↑c : Int)) ∧
true = true ∧
(∃ (old : Value), w1.cell? ⟨g.A.p, 7, none⟩ = some old) ∧
w1.frozen? ⟨g.A.p, 7, none⟩ = false ∧
∀ (w11 : World),
Stored w1 ⟨g.A.p, 7, none⟩
(Value.int IntKind.u16
(IntKind.u16.wrap
(↑(BitVec.ofInt IntKind.u16.bits n1 |||
BitVec.ofInt IntKind.u16.bits
(IntKind.u16.wrap ((1 : Int) * (2 : Int) ^ min ((6 : Int) + (↑c : Int)).toNat IntKind.u16.bits))).toNat :
Int)))
w11 →
∃ (c1 : WgX),
Value.slice x.a (g.g.num.length - x.k) x.c = Value.slice c1.a (g.g.num.length - c1.k) c1.c ∧
wgJ g w c1 w11 ∧ g.g.num.length - c1.k ≤ slLen (Value.slice x.a (g.g.num.length - x.k) x.c))
(bcase ((↑c : Int) == (7 : Int))
(∃ (n1 : Int),
w'1.cell? ⟨g.A.p, 7, none⟩ = some (Value.int .u16 n1) ∧
true = true ∧
(∃ (old : Value), w'1.cell? ⟨g.A.p, 7, none⟩ = some old) ∧
w'1.frozen? ⟨g.A.p, 7, none⟩ = false ∧
∀ (w1 : World),
Stored w'1 ⟨g.A.p, 7, none⟩
(Value.int IntKind.u16
(IntKind.u16.wrap (↑(BitVec.ofInt IntKind.u16.bits n1 ||| BitVec.ofInt IntKind.u16.bits (2048 : Int)).toNat : Int)))
w1 →
∃ (c1 : WgX),
Value.slice x.a (g.g.num.length - x.k) x.c = Value.slice c1.a (g.g.num.length - c1.k) c1.c ∧
wgJ g w c1 w1 ∧ g.g.num.length - c1.k ≤ slLen (Value.slice x.a (g.g.num.length - x.k) x.c))
(bcase ((↑c : Int) == (38 : Int) || (↑c : Int) == (48 : Int))
(bcase (decide ((↑(g.g.num.length - x.k) : Int) < (3 : Int)))
(∃ (c1 : WgX),
Value.slice x.a (g.g.num.length - x.k) x.c = Value.slice c1.a (g.g.num.length - c1.k) c1.c ∧
wgJ g w c1 w'1 ∧ g.g.num.length - c1.k ≤ slLen (Value.slice x.a (g.g.num.length - x.k) x.c))
(∃ (k1 : Nat),
(1 : Int) = (↑k1 : Int) ∧
k1 < g.g.num.length - x.k ∧
ptrE x.a fun (b1 o1 : Nat) =>
∃ (n1 : Int),
w'1.cell? ⟨b1, o1 + k1, none⟩ = some (Value.int .i64 n1) ∧
bcase (n1 != (5 : Int))
(∃ (c1 : WgX),
Value.slice x.a (g.g.num.length - x.k) x.c = Value.slice c1.a (g.g.num.length - c1.k) c1.c ∧
wgJ g w c1 w'1 ∧ g.g.num.length - c1.k ≤ slLen (Value.slice x.a (g.g.num.length - x.k) x.c))
(∃ (k2 : Nat),
(2 : Int) = (↑k2 : Int) ∧
k2 < g.g.num.length - x.k ∧
ptrE x.a fun (b2 o2 : Nat) =>
∃ (n2 : Int),
w'1.cell? ⟨b2, o2 + k2, none⟩ = some (Value.int .i64 n2) ∧
bcase (decide (n2 < (0 : Int)))
(∃ (c1 : WgX),
Value.slice x.a (g.g.num.length - x.k) x.c = Value.slice c1.a (g.g.num.length - c1.k) c1.c ∧
wgJ g w c1 w'1 ∧ g.g.num.length - c1.k ≤ slLen (Value.slice x.a (g.g.num.length - x.k) x.c))
(bcase ((↑c : Int) == (38 : Int))
(∃ (k3 : Nat),
(2 : Int) = (↑k3 : Int) ∧
k3 < g.g.num.length - x.k ∧
ptrE x.a fun (b3 o3 : Nat) =>
∃ (n3 : Int),
w'1.cell? ⟨b3, o3 + k3, none⟩ = some (Value.int .i64 n3) ∧
bcase (decide (n3 > (255 : Int)))
(∃ (c1 : WgX),
Value.slice x.a (g.g.num.length - x.k) x.c = Value.slice c1.a (g.g.num.length - c1.k) c1.c ∧
wgJ g w c1 w'1 ∧ g.g.num.length - c1.k ≤ slLen (Value.slice x.a (g.g.num.length - x.k) x.c))
(bcase ((↑c : Int) == (48 : Int))
(∃ (k4 : Nat),
(2 : Int) = (↑k4 : Int) ∧
k4 < g.g.num.length - x.k ∧
ptrE x.a fun (b4 o4 : Nat) =>
∃ (n4 : Int),
w'1.cell? ⟨b4, o4 + k4, none⟩ = some (Value.int .i64 n4) ∧
bcase (decide (n4 > (15 : Int)))
(∃ (c1 : WgX),
Value.slice x.a (g.g.num.length - x.k) x.c = Value.slice c1.a (g.g.num.length - c1.k) c1.c ∧
wgJ g w c1 w'1 ∧ g.g.num.length - c1.k ≤ slLen (Value.slice x.a (g.g.num.length - x.k) x.c))
(bcase ((↑c : Int) == (38 : Int))
(∃ (n5 : Int),
w'1.cell? ⟨g.A.p, 7, none⟩ = some (Value.int .u16 n5) ∧
true = true ∧
(∃ (old : Value), w'1.cell? ⟨g.A.p, 7, none⟩ = some old) ∧
w'1.frozen? ⟨g.A.p, 7, none⟩ = false ∧
∀ (w1 : World),
Stored w'1 ⟨g.A.p, 7, none⟩
(Value.int IntKind.u16
(IntKind.u16.wrap (↑(BitVec.ofInt IntKind.u16.bits n5 &&& ~~~BitVec.ofInt IntKind.u16.bits (255 : Int)).toNat : Int)))
w1 →
∀ (w11 : World),
Drew w1 w11 →
∃ (n6 : Int),
w1.cell? ⟨g.A.p, 7, none⟩ = some (Value.int .u16 n6) ∧
∃ (k5 : Nat),
(2 : Int) = (↑k5 : Int) ∧
k5 < g.g.num.length - x.k ∧
ptrE x.a fun (b5 o5 : Nat) =>
∃ (n7 : Int),
w1.cell? ⟨b5, o5 + k5, none⟩ = some (Value.int .i64 n7) ∧
InR .u16 n7 ∧
Below w11.heap.size w11 w11 ∧
true = true ∧
(∃ (old : Value), w11.cell? ⟨g.A.p, 7, none⟩ = some old) ∧
w11.frozen? ⟨g.A.p, 7, none⟩ = false ∧
∀ (w12 : World),
Stored w11 ⟨g.A.p, 7, none⟩
(Value.int IntKind.u16
(IntKind.u16.wrap (↑(BitVec.ofInt IntKind.u16.bits n6 ||| BitVec.ofInt IntKind.u16.bits n7).toNat : Int)))
w12 →
∃ (ln : Nat),
(2 : Int) = (↑ln : Int) ∧
ln ≤ g.g.num.length - x.k ∧
∀ (ad' : Option Addr),
SlAt x.a ad' x.c ln (1 : Nat) →
∃ (c1 : WgX),
Value.slice ad' (g.g.num.length - x.k - ln) (x.c - ln) = Value.slice c1.a (g.g.num.length - c1.k) c1.c ∧
wgJ g w c1 w12 ∧ g.g.num.length - c1.k ≤ slLen (Value.slice x.a (g.g.num.length - x.k) x.c))
(∃ (n5 : Int),
w'1.cell? ⟨g.A.p, 7, none⟩ = some (Value.int .u16 n5) ∧
true = true ∧
(∃ (old : Value), w'1.cell? ⟨g.A.p, 7, none⟩ = some old) ∧
w'1.frozen? ⟨g.A.p, 7, none⟩ = false ∧
∀ (w1 : World),
Stored w'1 ⟨g.A.p, 7, none⟩
(Value.int IntKind.u16
(IntKind.u16.wrap (↑(BitVec.ofInt IntKind.u16.bits n5 &&& BitVec.ofInt IntKind.u16.bits (4095 : Int)).toNat : Int)))
w1 →
∀ (w11 : World),
Drew w1 w11 →
∃ (n6 : Int),
w1.cell? ⟨g.A.p, 7, none⟩ = some (Value.int .u16 n6) ∧
∃ (k5 : Nat),
(2 : Int) = (↑k5 : Int) ∧
k5 < g.g.num.length - x.k ∧
ptrE x.a fun (b5 o5 : Nat) =>
∃ (n7 : Int),
w1.cell? ⟨b5, o5 + k5, none⟩ = some (Value.int .i64 n7) ∧
InR .u16 n7 ∧
Below w11.heap.size w11 w11 ∧
true = true ∧
(∃ (old : Value), w11.cell? ⟨g.A.p, 7, none⟩ = some old) ∧
w11.frozen? ⟨g.A.p, 7, none⟩ = false ∧
∀ (w12 : World),
Stored w11 ⟨g.A.p, 7, none⟩
(Value.int IntKind.u16
(IntKind.u16.wrap
(↑(BitVec.ofInt IntKind.u16.bits n6 |||
BitVec.ofInt IntKind.u16.bits (IntKind.u16.wrap (n7 * (2 : Int) ^ min (Int.toNat (12 : Int)) IntKind.u16.bits))).toNat :
Int)))
w12 →
∃ (ln : Nat),
(2 : Int) = (↑ln : Int) ∧
ln ≤ g.g.num.length - x.k ∧
∀ (ad' : Option Addr),
SlAt x.a ad' x.c ln (1 : Nat) →
∃ (c1 : WgX),
Value.slice ad' (g.g.num.length - x.k - ln) (x.c - ln) = Value.slice c1.a (g.g.num.length - c1.k) c1.c ∧
wgJ g w c1 w12 ∧ g.g.num.length - c1.k ≤ slLen (Value.slice x.a (g.g.num.length - x.k) x.c))))
(bcase ((↑c : Int) == (38 : Int))
(∃ (n4 : Int),
w'1.cell? ⟨g.A.p, 7, none⟩ = some (Value.int .u16 n4) ∧
true = true ∧
(∃ (old : Value), w'1.cell? ⟨g.A.p, 7, none⟩ = some old) ∧
w'1.frozen? ⟨g.A.p, 7, none⟩ = false ∧
∀ (w1 : World),
Stored w'1 ⟨g.A.p, 7, none⟩
(Value.int IntKind.u16
(IntKind.u16.wrap (↑(BitVec.ofInt IntKind.u16.bits n4 &&& ~~~BitVec.ofInt IntKind.u16.bits (255 : Int)).toNat : Int)))
w1 →
∀ (w11 : World),
Drew w1 w11 →
∃ (n5 : Int),
w1.cell? ⟨g.A.p, 7, none⟩ = some (Value.int .u16 n5) ∧
∃ (k4 : Nat),
(2 : Int) = (↑k4 : Int) ∧
k4 < g.g.num.length - x.k ∧
ptrE x.a fun (b4 o4 : Nat) =>
∃ (n6 : Int),
w1.cell? ⟨b4, o4 + k4, none⟩ = some (Value.int .i64 n6) ∧
InR .u16 n6 ∧
Below w11.heap.size w11 w11 ∧
true = true ∧
(∃ (old : Value), w11.cell? ⟨g.A.p, 7, none⟩ = some old) ∧
w11.frozen? ⟨g.A.p, 7, none⟩ = false ∧
∀ (w12 : World),
Stored w11 ⟨g.A.p, 7, none⟩
(Value.int IntKind.u16
(IntKind.u16.wrap (↑(BitVec.ofInt IntKind.u16.bits n5 ||| BitVec.ofInt IntKind.u16.bits n6).toNat : Int)))
w12 →
∃ (ln : Nat),
(2 : Int) = (↑ln : Int) ∧
ln ≤ g.g.num.length - x.k ∧
∀ (ad' : Option Addr),
SlAt x.a ad' x.c ln (1 : Nat) →
∃ (c1 : WgX),
Value.slice ad' (g.g.num.length - x.k - ln) (x.c - ln) = Value.slice c1.a (g.g.num.length - c1.k) c1.c ∧
wgJ g w c1 w12 ∧ g.g.num.length - c1.k ≤ slLen (Value.slice x.a (g.g.num.length - x.k) x.c))
(∃ (n4 : Int),
w'1.cell? ⟨g.A.p, 7, none⟩ = some (Value.int .u16 n4) ∧
true = true ∧
(∃ (old : Value), w'1.cell? ⟨g.A.p, 7, none⟩ = some old) ∧
w'1.frozen? ⟨g.A.p, 7, none⟩ = false ∧
∀ (w1 : World),
Stored w'1 ⟨g.A.p, 7, none⟩
(Value.int IntKind.u16
(IntKind.u16.wrap (↑(BitVec.ofInt IntKind.u16.bits n4 &&& BitVec.ofInt IntKind.u16.bits (4095 : Int)).toNat : Int)))
w1 →
∀ (w11 : World),
Drew w1 w11 →
∃ (n5 : Int),
w1.cell? ⟨g.A.p, 7, none⟩ = some (Value.int .u16 n5) ∧
∃ (k4 : Nat),
(2 : Int) = (↑k4 : Int) ∧
k4 < g.g.num.length - x.k ∧
ptrE x.a fun (b4 o4 : Nat) =>
∃ (n6 : Int),
w1.cell? ⟨b4, o4 + k4, none⟩ = some (Value.int .i64 n6) ∧
InR .u16 n6 ∧
Below w11.heap.size w11 w11 ∧
true = true ∧
(∃ (old : Value), w11.cell? ⟨g.A.p, 7, none⟩ = some old) ∧
w11.frozen? ⟨g.A.p, 7, none⟩ = false ∧
∀ (w12 : World),
Stored w11 ⟨g.A.p, 7, none⟩
(Value.int IntKind.u16
(IntKind.u16.wrap
(↑(BitVec.ofInt IntKind.u16.bits n5 |||
BitVec.ofInt IntKind.u16.bits (IntKind.u16.wrap (n6 * (2 : Int) ^ min (Int.toNat (12 : Int)) IntKind.u16.bits))).toNat :
Int)))
w12 →
∃ (ln : Nat),
(2 : Int) = (↑ln : Int) ∧
ln ≤ g.g.num.length - x.k ∧
∀ (ad' : Option Addr),
SlAt x.a ad' x.c ln (1 : Nat) →
∃ (c1 : WgX),
Value.slice ad' (g.g.num.length - x.k - ln) (x.c - ln) = Value.slice c1.a (g.g.num.length - c1.k) c1.c ∧
wgJ g w c1 w12 ∧ g.g.num.length - c1.k ≤ slLen (Value.slice x.a (g.g.num.length - x.k) x.c)))))
(bcase ((↑c : Int) == (48 : Int))
(∃ (k3 : Nat),
(2 : Int) = (↑k3 : Int) ∧
k3 < g.g.num.length - x.k ∧
ptrE x.a fun (b3 o3 : Nat) =>
∃ (n3 : Int),
w'1.cell? ⟨b3, o3 + k3, none⟩ = some (Value.int .i64 n3) ∧
bcase (decide (n3 > (15 : Int)))
(∃ (c1 : WgX),
Value.slice x.a (g.g.num.length - x.k) x.c = Value.slice c1.a (g.g.num.length - c1.k) c1.c ∧
wgJ g w c1 w'1 ∧ g.g.num.length - c1.k ≤ slLen (Value.slice x.a (g.g.num.length - x.k) x.c))
(bcase ((↑c : Int) == (38 : Int))
(∃ (n4 : Int),
w'1.cell? ⟨g.A.p, 7, none⟩ = some (Value.int .u16 n4) ∧
true = true ∧
(∃ (old : Value), w'1.cell? ⟨g.A.p, 7, none⟩ = some old) ∧
w'1.frozen? ⟨g.A.p, 7, none⟩ = false ∧
∀ (w1 : World),
Stored w'1 ⟨g.A.p, 7, none⟩
(Value.int IntKind.u16
(IntKind.u16.wrap (↑(BitVec.ofInt IntKind.u16.bits n4 &&& ~~~BitVec.ofInt IntKind.u16.bits (255 : Int)).toNat : Int)))
w1 →
∀ (w11 : World),
Drew w1 w11 →
∃ (n5 : Int),
w1.cell? ⟨g.A.p, 7, none⟩ = some (Value.int .u16 n5) ∧
∃ (k4 : Nat),
(2 : Int) = (↑k4 : Int) ∧
k4 < g.g.num.length - x.k ∧
ptrE x.a fun (b4 o4 : Nat) =>
∃ (n6 : Int),
w1.cell? ⟨b4, o4 + k4, none⟩ = some (Value.int .i64 n6) ∧
InR .u16 n6 ∧
Below w11.heap.size w11 w11 ∧
true = true ∧
(∃ (old : Value), w11.cell? ⟨g.A.p, 7, none⟩ = some old) ∧
w11.frozen? ⟨g.A.p, 7, none⟩ = false ∧
∀ (w12 : World),
Stored w11 ⟨g.A.p, 7, none⟩
(Value.int IntKind.u16
(IntKind.u16.wrap (↑(BitVec.ofInt IntKind.u16.bits n5 ||| BitVec.ofInt IntKind.u16.bits n6).toNat : Int)))
w12 →
∃ (ln : Nat),
(2 : Int) = (↑ln : Int) ∧
ln ≤ g.g.num.length - x.k ∧
∀ (ad' : Option Addr),
SlAt x.a ad' x.c ln (1 : Nat) →
∃ (c1 : WgX),
Value.slice ad' (g.g.num.length - x.k - ln) (x.c - ln) = Value.slice c1.a (g.g.num.length - c1.k) c1.c ∧
wgJ g w c1 w12 ∧ g.g.num.length - c1.k ≤ slLen (Value.slice x.a (g.g.num.length - x.k) x.c))
(∃ (n4 : Int),
w'1.cell? ⟨g.A.p, 7, none⟩ = some (Value.int .u16 n4) ∧
true = true ∧
(∃ (old : Value), w'1.cell? ⟨g.A.p, 7, none⟩ = some old) ∧
w'1.frozen? ⟨g.A.p, 7, none⟩ = false ∧
∀ (w1 : World),
Stored w'1 ⟨g.A.p, 7, none⟩
(Value.int IntKind.u16
(IntKind.u16.wrap (↑(BitVec.ofInt IntKind.u16.bits n4 &&& BitVec.ofInt IntKind.u16.bits (4095 : Int)).toNat : Int)))
w1 →
∀ (w11 : World),
Drew w1 w11 →
∃ (n5 : Int),
w1.cell? ⟨g.A.p, 7, none⟩ = some (Value.int .u16 n5) ∧
∃ (k4 : Nat),
(2 : Int) = (↑k4 : Int) ∧
k4 < g.g.num.length - x.k ∧
ptrE x.a fun (b4 o4 : Nat) =>
∃ (n6 : Int),
w1.cell? ⟨b4, o4 + k4, none⟩ = some (Value.int .i64 n6) ∧
InR .u16 n6 ∧
Below w11.heap.size w11 w11 ∧
true = true ∧
(∃ (old : Value), w11.cell? ⟨g.A.p, 7, none⟩ = some old) ∧
w11.frozen? ⟨g.A.p, 7, none⟩ = false ∧
∀ (w12 : World),
Stored w11 ⟨g.A.p, 7, none⟩
(Value.int IntKind.u16
(IntKind.u16.wrap
(↑(BitVec.ofInt IntKind.u16.bits n5 |||
BitVec.ofInt IntKind.u16.bits (IntKind.u16.wrap (n6 * (2 : Int) ^ min (Int.toNat (12 : Int)) IntKind.u16.bits))).toNat :
Int)))
w12 →
∃ (ln : Nat),
(2 : Int) = (↑ln : Int) ∧
ln ≤ g.g.num.length - x.k ∧
∀ (ad' : Option Addr),
SlAt x.a ad' x.c ln (1 : Nat) →
∃ (c1 : WgX),
Value.slice ad' (g.g.num.length - x.k - ln) (x.c - ln) = Value.slice c1.a (g.g.num.length - c1.k) c1.c ∧
wgJ g w c1 w12 ∧ g.g.num.length - c1.k ≤ slLen (Value.slice x.a (g.g.num.length - x.k) x.c))))
(bcase ((↑c : Int) == (38 : Int))
(∃ (n3 : Int),
w'1.cell? ⟨g.A.p, 7, none⟩ = some (Value.int .u16 n3) ∧
true = true ∧
(∃ (old : Value), w'1.cell? ⟨g.A.p, 7, none⟩ = some old) ∧
w'1.frozen? ⟨g.A.p, 7, none⟩ = false ∧
∀ (w1 : World),
Stored w'1 ⟨g.A.p, 7, none⟩
(Value.int IntKind.u16
(IntKind.u16.wrap (↑(BitVec.ofInt IntKind.u16.bits n3 &&& ~~~BitVec.ofInt IntKind.u16.bits (255 : Int)).toNat : Int)))
w1 →
∀ (w11 : World),
Drew w1 w11 →
∃ (n4 : Int),
w1.cell? ⟨g.A.p, 7, none⟩ = some (Value.int .u16 n4) ∧
∃ (k3 : Nat),
(2 : Int) = (↑k3 : Int) ∧
k3 < g.g.num.length - x.k ∧
ptrE x.a fun (b3 o3 : Nat) =>
∃ (n5 : Int),
w1.cell? ⟨b3, o3 + k3, none⟩ = some (Value.int .i64 n5) ∧
InR .u16 n5 ∧
Below w11.heap.size w11 w11 ∧
true = true ∧
(∃ (old : Value), w11.cell? ⟨g.A.p, 7, none⟩ = some old) ∧
w11.frozen? ⟨g.A.p, 7, none⟩ = false ∧
∀ (w12 : World),
Stored w11 ⟨g.A.p, 7, none⟩
(Value.int IntKind.u16
(IntKind.u16.wrap (↑(BitVec.ofInt IntKind.u16.bits n4 ||| BitVec.ofInt IntKind.u16.bits n5).toNat : Int)))
w12 →
∃ (ln : Nat),
(2 : Int) = (↑ln : Int) ∧
ln ≤ g.g.num.length - x.k ∧
∀ (ad' : Option Addr),
SlAt x.a ad' x.c ln (1 : Nat) →
∃ (c1 : WgX),
Value.slice ad' (g.g.num.length - x.k - ln) (x.c - ln) = Value.slice c1.a (g.g.num.length - c1.k) c1.c ∧
wgJ g w c1 w12 ∧ g.g.num.length - c1.k ≤ slLen (Value.slice x.a (g.g.num.length - x.k) x.c))
(∃ (n3 : Int),
w'1.cell? ⟨g.A.p, 7, none⟩ = some (Value.int .u16 n3) ∧
true = true ∧
(∃ (old : Value), w'1.cell? ⟨g.A.p, 7, none⟩ = some old) ∧
w'1.frozen? ⟨g.A.p, 7, none⟩ = false ∧
∀ (w1 : World),
Stored w'1 ⟨g.A.p, 7, none⟩
(Value.int IntKind.u16
(IntKind.u16.wrap (↑(BitVec.ofInt IntKind.u16.bits n3 &&& BitVec.ofInt IntKind.u16.bits (4095 : Int)).toNat : Int)))
w1 →
∀ (w11 : World),
Drew w1 w11 →
∃ (n4 : Int),
w1.cell? ⟨g.A.p, 7, none⟩ = some (Value.int .u16 n4) ∧
∃ (k3 : Nat),
(2 : Int) = (↑k3 : Int) ∧
k3 < g.g.num.length - x.k ∧
ptrE x.a fun (b3 o3 : Nat) =>
∃ (n5 : Int),
w1.cell? ⟨b3, o3 + k3, none⟩ = some (Value.int .i64 n5) ∧
InR .u16 n5 ∧
Below w11.heap.size w11 w11 ∧
true = true ∧
(∃ (old : Value), w11.cell? ⟨g.A.p, 7, none⟩ = some old) ∧
w11.frozen? ⟨g.A.p, 7, none⟩ = false ∧
∀ (w12 : World),
Stored w11 ⟨g.A.p, 7, none⟩
(Value.int IntKind.u16
(IntKind.u16.wrap
(↑(BitVec.ofInt IntKind.u16.bits n4 |||
BitVec.ofInt IntKind.u16.bits (IntKind.u16.wrap (n5 * (2 : Int) ^ min (Int.toNat (12 : Int)) IntKind.u16.bits))).toNat :
Int)))
w12 →
∃ (ln : Nat),
(2 : Int) = (↑ln : Int) ∧
ln ≤ g.g.num.length - x.k ∧
∀ (ad' : Option Addr),
SlAt x.a ad' x.c ln (1 : Nat) →
∃ (c1 : WgX),
Value.slice ad' (g.g.num.length - x.k - ln) (x.c - ln) = Value.slice c1.a (g.g.num.length - c1.k) c1.c ∧
wgJ g w c1 w12 ∧ g.g.num.length - c1.k ≤ slLen (Value.slice x.a (g.g.num.length - x.k) x.c))))))))
(∃ (c1 : WgX),
Value.slice x.a (g.g.num.length - x.k) x.c = Value.slice c1.a (g.g.num.length - c1.k) c1.c ∧
wgJ g w c1 w'1 ∧ g.g.num.length - c1.k ≤ slLen (Value.slice x.a (g.g.num.length - x.k) x.c)))))) ∧
∀ (u1 : Nat → Value) (c : WgX) (w'1 : World),
wgJ g w c w'1 ∧ g.g.num.length - c.k ≤ slLen (Value.slice x.a (g.g.num.length - x.k) x.c) →
∃ (ln : Nat),
(1 : Int) = (↑ln : Int) ∧
ln ≤ g.g.num.length - c.k ∧
∀ (ad' : Option Addr),
SlAt c.a ad' c.c ln (1 : Nat) →
∃ (y : WgX),
Value.slice ad' (g.g.num.length - c.k - ln) (c.c - ln) = Value.slice y.a (g.g.num.length - y.k) y.c ∧
wgI g w y w'1 ∧ g.g.num.length - y.k < g.g.num.length - x.k)
(∃ (x1 : GlP), Value.tuple #[] = Value.tuple #[] ∧ GlOut w w' g.A x1 (styS g.g (wearL g.g.num g.g.sty)))) :
    (sWearG).Ok Tryd.prog 50 :=
  ok_of_vc sWearG annWearG [] (fun _ _ => rfl) (fun _ _ => rfl) hsp Tryd.func50 rfl (n := 2) (fun _ => rfl) (by kernel_rfl) (vcast (by kernel_rfl) h)
set_option maxRecDepth 1000000 in
theorem doesG_vc (hsp : SpecsOk Tryd.prog spDoesG) (h : ∀ (g : GDs) (w : World),
GlIn w g.A g.g ∧ fitG g.g →
∃ (a1 : Option Addr) (n : Nat) (c : Nat),
w.cell? ⟨g.A.p, 11, none⟩ = some (Value.slice a1 n c) ∧
∀ (b : Nat) (w1 : World),
New w (Obj.cells #[Value.slice none (0 : Nat) (0 : Nat)] (62 : Nat)) b w1 →
true = true ∧
(∃ (old : Value), w1.cell? ⟨b, 0, none⟩ = some old) ∧
w1.frozen? ⟨b, 0, none⟩ = false ∧
∀ (w11 : World),
Stored w1 ⟨b, 0, none⟩ (Value.slice a1 n c) w11 →
∃ (b1 : Bool),
w11.cell? ⟨g.A.p, 13, none⟩ = some (Value.bool b1) ∧
bcase b1 (∃ (x : GlP), Value.tuple #[] = Value.tuple #[] ∧ GlOut w w11 g.A x (doesG g.g g.r))
(∃ (b2 : Bool),
w11.cell? ⟨g.A.p, 12, none⟩ = some (Value.bool b2) ∧
bcase b2
(∃ (g1 : GNmG),
#[Value.int .i64 0, Value.pointer (some ⟨b, 0, none⟩)] =
#[Value.int .i64 (↑g1.i : Int), Value.pointer (some ⟨g1.b, 0, none⟩)] ∧
(w11.heap[g1.b]? = some (Obj.cells #[Value.slice g1.a g1.l.length g1.c] (62 : TypeId)) ∧
CellsAt w11 g1.a (List.map (Value.int IntKind.i64) g1.l)) ∧
∀ (x : Int) (w' : World),
x = nmL g1.l g1.i ∧ w' = w11 →
bcase (x == (25 : Int))
(bcase (g.r == (104 : Int))
(true = true ∧
(∃ (old : Value), w'.cell? ⟨g.A.p, 6, none⟩ = some old) ∧
w'.frozen? ⟨g.A.p, 6, none⟩ = false ∧
∀ (w12 : World),
Stored w' ⟨g.A.p, 6, none⟩ (Value.bool (g.r == (108 : Int))) w12 →
∃ (x1 : GlP), Value.tuple #[] = Value.tuple #[] ∧ GlOut w w12 g.A x1 (doesG g.g g.r))
(bcase (g.r == (108 : Int))
(true = true ∧
(∃ (old : Value), w'.cell? ⟨g.A.p, 6, none⟩ = some old) ∧
w'.frozen? ⟨g.A.p, 6, none⟩ = false ∧
∀ (w12 : World),
Stored w' ⟨g.A.p, 6, none⟩ (Value.bool (g.r == (108 : Int))) w12 →
∃ (x1 : GlP), Value.tuple #[] = Value.tuple #[] ∧ GlOut w w12 g.A x1 (doesG g.g g.r))
(∃ (x1 : GlP), Value.tuple #[] = Value.tuple #[] ∧ GlOut w w' g.A x1 (doesG g.g g.r))))
(∃ (x1 : GlP), Value.tuple #[] = Value.tuple #[] ∧ GlOut w w' g.A x1 (doesG g.g g.r)))
(bcase (g.r == (72 : Int))
(∀ (w12 : World),
Drew w11 w12 →
∃ (n1 : Int),
w11.cell? ⟨g.A.p, 1, none⟩ = some (Value.int .i64 n1) ∧
∃ (g1 : GNmG),
#[Value.int .i64 0, Value.pointer (some ⟨b, 0, none⟩)] =
#[Value.int .i64 (↑g1.i : Int), Value.pointer (some ⟨g1.b, 0, none⟩)] ∧
(w12.heap[g1.b]? = some (Obj.cells #[Value.slice g1.a g1.l.length g1.c] (62 : TypeId)) ∧
CellsAt w12 g1.a (List.map (Value.int IntKind.i64) g1.l)) ∧
∀ (x : Int) (w' : World),
x = nmL g1.l g1.i ∧ w' = w12 →
Below w12.heap.size w12 w' ∧
InR .i64 ((if n1 < x then n1 else x) - (1 : Int)) ∧
true = true ∧
(∃ (old : Value), w'.cell? ⟨g.A.p, 5, none⟩ = some old) ∧
w'.frozen? ⟨g.A.p, 5, none⟩ = false ∧
∀ (w13 : World),
Stored w' ⟨g.A.p, 5, none⟩
(Value.int IntKind.i64
(if (0 : Int) > (if n1 < x then n1 else x) - (1 : Int) then (0 : Int) else (if n1 < x then n1 else x) - (1 : Int)))
w13 →
∀ (w14 : World),
Drew w13 w14 →
∃ (n2 : Int),
w13.cell? ⟨g.A.p, 0, none⟩ = some (Value.int .i64 n2) ∧
∃ (g2 : GNmG),
#[Value.int .i64 1, Value.pointer (some ⟨b, 0, none⟩)] =
#[Value.int .i64 (↑g2.i : Int), Value.pointer (some ⟨g2.b, 0, none⟩)] ∧
(w14.heap[g2.b]? = some (Obj.cells #[Value.slice g2.a g2.l.length g2.c] (62 : TypeId)) ∧
CellsAt w14 g2.a (List.map (Value.int IntKind.i64) g2.l)) ∧
∀ (x1 : Int) (w'1 : World),
x1 = nmL g2.l g2.i ∧ w'1 = w14 →
Below w14.heap.size w14 w'1 ∧
InR .i64 ((if n2 < x1 then n2 else x1) - (1 : Int)) ∧
true = true ∧
(∃ (old : Value), w'1.cell? ⟨g.A.p, 4, none⟩ = some old) ∧
w'1.frozen? ⟨g.A.p, 4, none⟩ = false ∧
∀ (w15 : World),
Stored w'1 ⟨g.A.p, 4, none⟩
(Value.int IntKind.i64
(if (0 : Int) > (if n2 < x1 then n2 else x1) - (1 : Int) then (0 : Int) else (if n2 < x1 then n2 else x1) - (1 : Int)))
w15 →
∃ (x2 : GlP), Value.tuple #[] = Value.tuple #[] ∧ GlOut w w15 g.A x2 (doesG g.g g.r))
(bcase (g.r == (74 : Int))
(∃ (g1 : GNmG),
#[Value.int .i64 0, Value.pointer (some ⟨b, 0, none⟩)] =
#[Value.int .i64 (↑g1.i : Int), Value.pointer (some ⟨g1.b, 0, none⟩)] ∧
(w11.heap[g1.b]? = some (Obj.cells #[Value.slice g1.a g1.l.length g1.c] (62 : TypeId)) ∧
CellsAt w11 g1.a (List.map (Value.int IntKind.i64) g1.l)) ∧
∀ (x : Int) (w' : World),
x = nmL g1.l g1.i ∧ w' = w11 →
bcase (x == (2 : Int))
(∃ (a5 : Option Addr) (n1 : Nat) (c1 : Nat),
w'.cell? ⟨g.A.p, 3, none⟩ = some (Value.slice a5 n1 c1) ∧
∃ (w'1 : World),
Sem.run Tryd.prog (Builtin.clear_ #[(25 : Nat)] (0 : Nat) #[Value.slice a5 n1 c1]) w' =
Result.ok (Value.tuple #[]) w'1 ∧
KO w' w'1 ∧
∃ (g2 : GGl),
#[Value.pointer (some ⟨g.A.p, 0, none⟩)] =
#[Value.pointer (some ⟨g2.A.p, 0, none⟩)] ∧
(GlIn w'1 g2.A g2.g ∧ fitG g2.g) ∧
∀ (x1 : GlP) (w'2 : World),
GlOut w'1 w'2 g2.A x1 (backG g2.g) →
∃ (x2 : GlP), Value.tuple #[] = Value.tuple #[] ∧ GlOut w w'2 g.A x2 (doesG g.g g.r))
(bcase (g.r == (109 : Int))
(∃ (a5 : Option Addr) (n1 : Nat) (c1 : Nat),
w'.cell? ⟨b, 0, none⟩ = some (Value.slice a5 n1 c1) ∧
∃ (g2 : GGl),
#[Value.pointer (some ⟨g.A.p, 0, none⟩), Value.slice a5 n1 c1] =
#[Value.pointer (some ⟨g2.A.p, 0, none⟩), Value.slice g2.A.na g2.g.num.length g2.A.nc] ∧
(GlIn w' g2.A g2.g ∧ fitG g2.g) ∧
∀ (x1 : GlP) (w'1 : World),
GlOut w' w'1 g2.A x1 (styS g2.g (wearL g2.g.num g2.g.sty)) →
∃ (x2 : GlP), Value.tuple #[] = Value.tuple #[] ∧ GlOut w w'1 g.A x2 (doesG g.g g.r))
(∃ (x1 : GlP), Value.tuple #[] = Value.tuple #[] ∧ GlOut w w' g.A x1 (doesG g.g g.r))))
(bcase (g.r == (109 : Int))
(∃ (a4 : Option Addr) (n1 : Nat) (c1 : Nat),
w11.cell? ⟨b, 0, none⟩ = some (Value.slice a4 n1 c1) ∧
∃ (g1 : GGl),
#[Value.pointer (some ⟨g.A.p, 0, none⟩), Value.slice a4 n1 c1] =
#[Value.pointer (some ⟨g1.A.p, 0, none⟩), Value.slice g1.A.na g1.g.num.length g1.A.nc] ∧
(GlIn w11 g1.A g1.g ∧ fitG g1.g) ∧
∀ (x : GlP) (w' : World),
GlOut w11 w' g1.A x (styS g1.g (wearL g1.g.num g1.g.sty)) →
∃ (x1 : GlP), Value.tuple #[] = Value.tuple #[] ∧ GlOut w w' g.A x1 (doesG g.g g.r))
(∃ (x : GlP), Value.tuple #[] = Value.tuple #[] ∧ GlOut w w11 g.A x (doesG g.g g.r))))))) :
    (sDoesG).Ok Tryd.prog 37 :=
  ok_of_vc sDoesG (annOf spDoesG) spDoesG (fun _ _ => rfl) (fun _ _ => rfl) hsp Tryd.func37 rfl (n := 2) (fun _ => rfl) (by kernel_rfl) (vcast (by kernel_rfl) h)
end Go.Proofs.YtjdohhididpomaaDoor
end

section
set_option linter.unusedVariables false
namespace Go.Proofs.YtjdohhididpomaaDoor
open Go Go.RowKit Vc Ut Tb Cl
set_option maxRecDepth 1000000 in
theorem say_vc (hsp : SpecsOk Tryd.prog spSay) (h : ∀ (g : GSay) (w : World),
(TeIn w g.p g.t ∧
Row w (3 : TypeId) (1 : Nat) g.la g.l.length (List.map (Value.int IntKind.i64) g.l) g.lc ∧
g.t.b.size ≤ 536870912 ∧
g.l.length ≤ 16 ∧ ∀ (n : Int), n ∈ g.l → (-9223372036854775808 : Int) ≤ n ∧ n ≤ (9223372036854775807 : Int)) →
∃ (a1 : Option Addr) (n : Nat) (c : Nat),
w.cell? ⟨g.p.q, 0, none⟩ = some (Value.slice a1 n c) ∧
∀ (b : Nat) (w1 : World),
New w (Obj.cells #[Value.int .u8 27, Value.int .u8 91] (5 : Nat)) b w1 →
∃ (a' : Option Addr) (c' : Nat) (w' : World),
AppRun Tryd.prog #[(30 : Nat), (30 : Nat)] (30 : Nat) (Value.slice a1 n c)
(Value.slice (some ⟨b, 0, none⟩) (2 : Nat) (2 : Nat)) w1 a' (n + 2) c' w' ∧
KO w1 w' ∧
true = true ∧
(∃ (old : Value), w'.cell? ⟨g.p.q, 0, none⟩ = some old) ∧
w'.frozen? ⟨g.p.q, 0, none⟩ = false ∧
∀ (w11 : World),
Stored w' ⟨g.p.q, 0, none⟩ (Value.slice a' (n + 2) c') w11 →
(∃ (x : Nat × TeP),
Value.int .i64 0 = Value.int .i64 (↑x.fst : Int) ∧
x.fst ≤ g.l.length ∧ TeOut w w11 g.p x.snd (sayP g.t g.l x.fst)) ∧
∀ (u : Nat → Value) (x : Nat × TeP) (w'1 : World),
x.fst ≤ g.l.length ∧ TeOut w w'1 g.p x.snd (sayP g.t g.l x.fst) →
bcase (decide ((↑x.fst : Int) < (↑g.l.length : Int)))
(∃ (k : Nat),
(↑x.fst : Int) = (↑k : Int) ∧
k < g.l.length ∧
ptrE g.la fun (b1 o : Nat) =>
∃ (n1 : Int),
w'1.cell? ⟨b1, o + k, none⟩ = some (Value.int .i64 n1) ∧
bcase (decide ((↑x.fst : Int) > (0 : Int)))
(∃ (a5 : Option Addr) (n2 : Nat) (c1 : Nat),
w'1.cell? ⟨g.p.q, 0, none⟩ = some (Value.slice a5 n2 c1) ∧
∀ (b2 : Nat) (w12 : World),
New w'1 (Obj.cells #[Value.int .u8 59] (5 : Nat)) b2 w12 →
∃ (a'1 : Option Addr) (c'1 : Nat) (w'2 : World),
AppRun Tryd.prog #[(30 : Nat), (30 : Nat)] (30 : Nat) (Value.slice a5 n2 c1)
(Value.slice (some ⟨b2, 0, none⟩) (1 : Nat) (1 : Nat)) w12 a'1 (n2 + 1) c'1 w'2 ∧
KO w12 w'2 ∧
true = true ∧
(∃ (old : Value), w'2.cell? ⟨g.p.q, 0, none⟩ = some old) ∧
w'2.frozen? ⟨g.p.q, 0, none⟩ = false ∧
∀ (w13 : World),
Stored w'2 ⟨g.p.q, 0, none⟩ (Value.slice a'1 (n2 + 1) c'1) w13 →
∃ (c2 : TeP) (i : Nat),
Value.int .i64 (↑x.fst : Int) = Value.int .i64 (↑i : Int) ∧ TeOut w w13 g.p c2 (sayQ g.t g.l i))
(∃ (c1 : TeP) (i : Nat),
Value.int .i64 (↑x.fst : Int) = Value.int .i64 (↑i : Int) ∧ TeOut w w'1 g.p c1 (sayQ g.t g.l i)) ∧
∀ (u1 : Nat → Value) (c1 : TeP) (w'2 : World),
(∃ (i : Nat),
Value.int .i64 (↑x.fst : Int) = Value.int .i64 (↑i : Int) ∧ TeOut w w'2 g.p c1 (sayQ g.t g.l i)) →
∃ (a6 : Option Addr) (n2 : Nat) (c2 : Nat),
w'2.cell? ⟨g.p.q, 0, none⟩ = some (Value.slice a6 n2 c2) ∧
∃ (g1 : GApp),
#[Value.slice a6 n2 c2, Value.int .i64 n1, Value.int .i64 10] =
#[Value.slice g1.ad g1.s.size g1.c, Value.int .i64 g1.i, Value.int .i64 10] ∧
(P10 g1.B w'2 ∧
Row w'2 (5 : TypeId) (1 : Nat) g1.ad g1.s.size (bytesV g1.s) g1.c ∧
(∀ (q : Nat), blk g1.ad = some q → g1.B ≤ q) ∧
g1.B ≤ w'2.heap.size ∧
g1.s.size ≤ 1073741824 ∧ (-9223372036854775808 : Int) ≤ g1.i ∧ g1.i ≤ (9223372036854775807 : Int)) ∧
∀ (x1 : Option Addr × Nat × Nat) (w'3 : World),
x1.snd.fst = (g1.s ++ itoaB g1.i).size ∧
Row w'3 (5 : TypeId) (1 : Nat) x1.fst x1.snd.fst (bytesV (g1.s ++ itoaB g1.i)) x1.snd.snd ∧
(∀ (q : Nat), blk x1.fst = some q → g1.B ≤ q) ∧ Kp g1.B none w'2 w'3 →
true = true ∧
(∃ (old : Value), w'3.cell? ⟨g.p.q, 0, none⟩ = some old) ∧
w'3.frozen? ⟨g.p.q, 0, none⟩ = false ∧
∀ (w12 : World),
Stored w'3 ⟨g.p.q, 0, none⟩ (Value.slice x1.fst x1.snd.fst x1.snd.snd) w12 →
InR .i64 ((↑x.fst : Int) + (1 : Int)) ∧
∃ (y : Nat × TeP),
Value.int .i64 ((↑x.fst : Int) + (1 : Int)) = Value.int .i64 (↑y.fst : Int) ∧
(y.fst ≤ g.l.length ∧ TeOut w w12 g.p y.snd (sayP g.t g.l y.fst)) ∧ g.l.length - y.fst < g.l.length - x.fst)
(∃ (a5 : Option Addr) (n1 : Nat) (c1 : Nat),
w'1.cell? ⟨g.p.q, 0, none⟩ = some (Value.slice a5 n1 c1) ∧
∀ (b1 : Nat) (w12 : World),
New w'1 (Obj.cells #[Value.int .u8 (↑g.c.toNat : Int)] (5 : Nat)) b1 w12 →
∃ (a'1 : Option Addr) (c'1 : Nat) (w'2 : World),
AppRun Tryd.prog #[(30 : Nat), (30 : Nat)] (30 : Nat) (Value.slice a5 n1 c1)
(Value.slice (some ⟨b1, 0, none⟩) (1 : Nat) (1 : Nat)) w12 a'1 (n1 + 1) c'1 w'2 ∧
KO w12 w'2 ∧
true = true ∧
(∃ (old : Value), w'2.cell? ⟨g.p.q, 0, none⟩ = some old) ∧
w'2.frozen? ⟨g.p.q, 0, none⟩ = false ∧
∀ (w13 : World),
Stored w'2 ⟨g.p.q, 0, none⟩ (Value.slice a'1 (n1 + 1) c'1) w13 →
true = true ∧
(∃ (old : Value), w13.cell? ⟨g.p.q, 2, none⟩ = some old) ∧
w13.frozen? ⟨g.p.q, 2, none⟩ = false ∧
∀ (w14 : World),
Stored w13 ⟨g.p.q, 2, none⟩ (Value.string (ByteArray.mk #[])) w14 →
∃ (x1 : TeP), Value.tuple #[] = Value.tuple #[] ∧ TeOut w w14 g.p x1 (sayT g.t g.c g.l))) :
    (sSay).Ok Tryd.prog 21 :=
  ok_of_vc sSay annSay spSay (fun _ _ => rfl) (fun _ _ => rfl) hsp Tryd.func21 rfl (n := 3) (fun _ => rfl) (by kernel_rfl) (vcast (by kernel_rfl) h)
set_option maxRecDepth 1000000 in
theorem move_vc (hsp : SpecsOk Tryd.prog spMove) (h : ∀ (g : GMove) (w : World),
TeIn w g.p g.t ∧ teOk g.t ∧ g.i ≤ 1048576 ∧ g.t.b.size ≤ 536870912 →
∀ (w1 : World),
Drew w w1 →
∃ (n : Int),
w.cell? ⟨g.p.q, 4, none⟩ = some (Value.int .i64 n) ∧
(0 : Int) ≤ (↑g.i : Int) ∧
(0 : Int) < n ∧
InR .i64 ((↑g.i : Int) / n) ∧
InR .i64 ((↑g.i : Int) / n + (1 : Int)) ∧
∃ (n1 : Int),
w.cell? ⟨g.p.q, 4, none⟩ = some (Value.int .i64 n1) ∧
(0 : Int) ≤ (↑g.i : Int) ∧
(0 : Int) < n1 ∧
InR .i64 ((↑g.i : Int) % n1 + (1 : Int)) ∧
∀ (b : Nat) (w11 : World),
New w1
(Obj.cells
#[Value.int .i64 ((↑g.i : Int) / n + (1 : Int)), Value.int .i64 ((↑g.i : Int) % n1 + (1 : Int))]
(3 : Nat))
b w11 →
Below w1.heap.size w1 w11 ∧
∃ (g1 : GSay),
#[Value.pointer (some ⟨g.p.q, 0, none⟩), Value.int .u8 72,
Value.slice (some ⟨b, 0, none⟩) (2 : Nat) (2 : Nat)] =
#[Value.pointer (some ⟨g1.p.q, 0, none⟩), Value.int .u8 (↑g1.c.toNat : Int),
Value.slice g1.la g1.l.length g1.lc] ∧
(TeIn w11 g1.p g1.t ∧
Row w11 (3 : TypeId) (1 : Nat) g1.la g1.l.length (List.map (Value.int IntKind.i64) g1.l) g1.lc ∧
g1.t.b.size ≤ 536870912 ∧
g1.l.length ≤ 16 ∧
∀ (n2 : Int), n2 ∈ g1.l → (-9223372036854775808 : Int) ≤ n2 ∧ n2 ≤ (9223372036854775807 : Int)) ∧
∀ (x : TeP) (w' : World),
TeOut w11 w' g1.p x (sayT g1.t g1.c g1.l) →
true = true ∧
(∃ (old : Value), w'.cell? ⟨g.p.q, 1, none⟩ = some old) ∧
w'.frozen? ⟨g.p.q, 1, none⟩ = false ∧
∀ (w12 : World),
Stored w' ⟨g.p.q, 1, none⟩ (Value.int .i64 (↑g.i : Int)) w12 →
∃ (x1 : TeP), Value.tuple #[] = Value.tuple #[] ∧ TeOut w w12 g.p x1 (moveT g.t (↑g.i : Int))) :
    (sMove).Ok Tryd.prog 25 :=
  ok_of_vc sMove (annOf spMove) spMove (fun _ _ => rfl) (fun _ _ => rfl) hsp Tryd.func25 rfl (n := 2) (fun _ => rfl) (by kernel_rfl) (vcast (by kernel_rfl) h)
set_option maxRecDepth 1000000 in
theorem wear_vc (hsp : SpecsOk Tryd.prog spMove) (h : ∀ (g : GMove) (w : World),
TeIn w g.p g.t ∧ g.i < 65536 ∧ g.t.b.size ≤ 536870912 →
∀ (b : Nat) (w1 : World),
New w (Obj.cells #[Value.int .i64 0] (3 : Nat)) b w1 →
(∃ (x : Nat × Option Addr × Nat),
Value.int .i64 0 = Value.int .i64 (↑x.fst : Int) ∧
Value.slice (some ⟨b, 0, none⟩) (1 : Nat) (1 : Nat) =
Value.slice x.snd.fst ((1 : Nat) + (wearA g.i x.fst).length) x.snd.snd ∧
x.fst ≤ 4 ∧
Made w w1 (3 : TypeId) (1 : Nat) x.snd.fst ((1 : Nat) + (wearA g.i x.fst).length)
(List.map (Value.int IntKind.i64) ([(0 : Int)] ++ wearA g.i x.fst)) x.snd.snd) ∧
∀ (u : Nat → Value) (x : Nat × Option Addr × Nat) (w' : World),
x.fst ≤ 4 ∧
Made w w' (3 : TypeId) (1 : Nat) x.snd.fst ((1 : Nat) + (wearA g.i x.fst).length)
(List.map (Value.int IntKind.i64) ([(0 : Int)] ++ wearA g.i x.fst)) x.snd.snd →
bcase (decide ((↑x.fst : Int) < (4 : Int)))
(∃ (k : Nat),
(↑x.fst : Int) = (↑k : Int) ∧
k < 4 ∧
∃ (n : Int),
(Array.foldl (fun (cs : Array Value) (x : Value × Nat) => cs.setIfInBounds ((3 : Nat) * 1 + x.snd) x.fst)
(Array.foldl (fun (cs : Array Value) (x : Value × Nat) => cs.setIfInBounds ((2 : Nat) * 1 + x.snd) x.fst)
(Array.foldl (fun (cs : Array Value) (x : Value × Nat) => cs.setIfInBounds ((1 : Nat) * 1 + x.snd) x.fst)
(Array.foldl (fun (cs : Array Value) (x : Value × Nat) => cs.setIfInBounds ((0 : Nat) * 1 + x.snd) x.fst)
(Value.agg
#[Value.int .i64 0, Value.int .i64 0, Value.int .i64 0,
Value.int .i64 0]).cells
(Value.int .i64 1).cells.zipIdx)
(Value.int .i64 3).cells.zipIdx)
(Value.int .i64 4).cells.zipIdx)
(Value.int .i64 7).cells.zipIdx)[k]? =
some (Value.int .i64 n) ∧
InR .i64 ((8 : Int) + (↑x.fst : Int)) ∧
bcase
(IntKind.u16.wrap
(↑(BitVec.ofInt IntKind.u16.bits (↑g.i : Int) &&&
BitVec.ofInt IntKind.u16.bits
(IntKind.u16.wrap ((1 : Int) * (2 : Int) ^ min ((8 : Int) + (↑x.fst : Int)).toNat IntKind.u16.bits))).toNat :
Int) !=
(0 : Int))
(∀ (b1 : Nat) (w11 : World),
New w' (Obj.cells #[Value.int .i64 n] (3 : Nat)) b1 w11 →
∃ (a' : Option Addr) (c' : Nat) (w'1 : World),
AppRun Tryd.prog #[(62 : Nat), (62 : Nat)] (62 : Nat)
(Value.slice x.snd.fst ((1 : Nat) + (wearA g.i x.fst).length) x.snd.snd)
(Value.slice (some ⟨b1, 0, none⟩) (1 : Nat) (1 : Nat)) w11 a'
((1 : Nat) + (wearA g.i x.fst).length + 1) c' w'1 ∧
KO w11 w'1 ∧
InR .i64 ((↑x.fst : Int) + (1 : Int)) ∧
∃ (y : Nat × Option Addr × Nat),
Value.int .i64 ((↑x.fst : Int) + (1 : Int)) = Value.int .i64 (↑y.fst : Int) ∧
Value.slice a' ((1 : Nat) + (wearA g.i x.fst).length + 1) c' =
Value.slice y.snd.fst ((1 : Nat) + (wearA g.i y.fst).length) y.snd.snd ∧
(y.fst ≤ 4 ∧
Made w w'1 (3 : TypeId) (1 : Nat) y.snd.fst ((1 : Nat) + (wearA g.i y.fst).length)
(List.map (Value.int IntKind.i64) ([(0 : Int)] ++ wearA g.i y.fst)) y.snd.snd) ∧
(4 : Nat) - y.fst < 4 - x.fst)
(InR .i64 ((↑x.fst : Int) + (1 : Int)) ∧
∃ (y : Nat × Option Addr × Nat),
Value.int .i64 ((↑x.fst : Int) + (1 : Int)) = Value.int .i64 (↑y.fst : Int) ∧
Value.slice x.snd.fst ((1 : Nat) + (wearA g.i x.fst).length) x.snd.snd =
Value.slice y.snd.fst ((1 : Nat) + (wearA g.i y.fst).length) y.snd.snd ∧
(y.fst ≤ 4 ∧
Made w w' (3 : TypeId) (1 : Nat) y.snd.fst ((1 : Nat) + (wearA g.i y.fst).length)
(List.map (Value.int IntKind.i64) ([(0 : Int)] ++ wearA g.i y.fst)) y.snd.snd) ∧
(4 : Nat) - y.fst < 4 - x.fst))
((InR IntKind.i64
(IntKind.u16.wrap
(↑(BitVec.ofInt IntKind.u16.bits (↑g.i : Int) &&& BitVec.ofInt IntKind.u16.bits (255 : Int)).toNat : Int)) ∧
bcase
(IntKind.u16.wrap
(↑(BitVec.ofInt IntKind.u16.bits (↑g.i : Int) &&& BitVec.ofInt IntKind.u16.bits (255 : Int)).toNat : Int) !=
(0 : Int))
(∀ (b1 : Nat) (w11 : World),
New w'
(Obj.cells
#[Value.int .i64 38, Value.int .i64 5,
Value.int IntKind.i64
(IntKind.u16.wrap
(↑(BitVec.ofInt IntKind.u16.bits (↑g.i : Int) &&& BitVec.ofInt IntKind.u16.bits (255 : Int)).toNat : Int))]
(3 : Nat))
b1 w11 →
∃ (a' : Option Addr) (c' : Nat) (w'1 : World),
AppRun Tryd.prog #[(62 : Nat), (62 : Nat)] (62 : Nat)
(Value.slice x.snd.fst ((1 : Nat) + (wearA g.i x.fst).length) x.snd.snd)
(Value.slice (some ⟨b1, 0, none⟩) (3 : Nat) (3 : Nat)) w11 a'
((1 : Nat) + (wearA g.i x.fst).length + 3) c' w'1 ∧
KO w11 w'1 ∧
∃ (c : Option Addr × Nat),
Value.slice a' ((1 : Nat) + (wearA g.i x.fst).length + 3) c' = Value.slice c.fst (wearB g.i).length c.snd ∧
Made w w'1 (3 : TypeId) (1 : Nat) c.fst (wearB g.i).length (List.map (Value.int IntKind.i64) (wearB g.i)) c.snd)
(∃ (c : Option Addr × Nat),
Value.slice x.snd.fst ((1 : Nat) + (wearA g.i x.fst).length) x.snd.snd = Value.slice c.fst (wearB g.i).length c.snd ∧
Made w w' (3 : TypeId) (1 : Nat) c.fst (wearB g.i).length (List.map (Value.int IntKind.i64) (wearB g.i)) c.snd)) ∧
∀ (u1 : Nat → Value) (c : Option Addr × Nat) (w'1 : World),
Made w w'1 (3 : TypeId) (1 : Nat) c.fst (wearB g.i).length (List.map (Value.int IntKind.i64) (wearB g.i)) c.snd →
(InR .i64 ((↑g.i : Int).fdiv ((2 : Int) ^ min (Int.toNat (12 : Int)) IntKind.u16.bits)) ∧
bcase ((↑g.i : Int).fdiv ((2 : Int) ^ min (Int.toNat (12 : Int)) IntKind.u16.bits) != (0 : Int))
(∀ (b1 : Nat) (w11 : World),
New w'1
(Obj.cells
#[Value.int .i64 48, Value.int .i64 5,
Value.int .i64 ((↑g.i : Int).fdiv ((2 : Int) ^ min (Int.toNat (12 : Int)) IntKind.u16.bits))]
(3 : Nat))
b1 w11 →
∃ (a' : Option Addr) (c' : Nat) (w'2 : World),
AppRun Tryd.prog #[(62 : Nat), (62 : Nat)] (62 : Nat) (Value.slice c.fst (wearB g.i).length c.snd)
(Value.slice (some ⟨b1, 0, none⟩) (3 : Nat) (3 : Nat)) w11 a' ((wearB g.i).length + 3) c'
w'2 ∧
KO w11 w'2 ∧
∃ (c1 : Option Addr × Nat),
Value.slice a' ((wearB g.i).length + 3) c' = Value.slice c1.fst (wearN g.i).length c1.snd ∧
Made w w'2 (3 : TypeId) (1 : Nat) c1.fst (wearN g.i).length (List.map (Value.int IntKind.i64) (wearN g.i)) c1.snd)
(∃ (c1 : Option Addr × Nat),
Value.slice c.fst (wearB g.i).length c.snd = Value.slice c1.fst (wearN g.i).length c1.snd ∧
Made w w'1 (3 : TypeId) (1 : Nat) c1.fst (wearN g.i).length (List.map (Value.int IntKind.i64) (wearN g.i)) c1.snd)) ∧
∀ (u2 : Nat → Value) (c1 : Option Addr × Nat) (w'2 : World),
Made w w'2 (3 : TypeId) (1 : Nat) c1.fst (wearN g.i).length (List.map (Value.int IntKind.i64) (wearN g.i)) c1.snd →
∃ (g1 : GSay),
#[Value.pointer (some ⟨g.p.q, 0, none⟩), Value.int .u8 109,
Value.slice c1.fst (wearN g.i).length c1.snd] =
#[Value.pointer (some ⟨g1.p.q, 0, none⟩), Value.int .u8 (↑g1.c.toNat : Int),
Value.slice g1.la g1.l.length g1.lc] ∧
(TeIn w'2 g1.p g1.t ∧
Row w'2 (3 : TypeId) (1 : Nat) g1.la g1.l.length (List.map (Value.int IntKind.i64) g1.l) g1.lc ∧
g1.t.b.size ≤ 536870912 ∧
g1.l.length ≤ 16 ∧ ∀ (n : Int), n ∈ g1.l → (-9223372036854775808 : Int) ≤ n ∧ n ≤ (9223372036854775807 : Int)) ∧
∀ (x1 : TeP) (w'3 : World),
TeOut w'2 w'3 g1.p x1 (sayT g1.t g1.c g1.l) →
true = true ∧
(∃ (old : Value), w'3.cell? ⟨g.p.q, 3, none⟩ = some old) ∧
w'3.frozen? ⟨g.p.q, 3, none⟩ = false ∧
∀ (w11 : World),
Stored w'3 ⟨g.p.q, 3, none⟩ (Value.int .u16 (↑g.i : Int)) w11 →
∃ (x2 : TeP), Value.tuple #[] = Value.tuple #[] ∧ TeOut w w11 g.p x2 (wearT g.t g.i))) :
    (sWear).Ok Tryd.prog 20 :=
  ok_of_vc sWear annWear spMove (fun _ _ => rfl) (fun _ _ => rfl) hsp Tryd.func20 rfl (n := 2) (fun _ => rfl) (by kernel_rfl) (vcast (by kernel_rfl) h)
set_option maxRecDepth 1000000 in
theorem tell_vc (hsp : SpecsOk Tryd.prog spTell) (h : ∀ (g : GTell) (w : World),
TeIn w g.p g.t ∧
teOk g.t ∧
g.i ≤ 1048576 ∧
g.c.st < 65536 ∧
g.t.b.size ≤ 536000000 ∧ g.c.t.size ≤ 16777216 ∧ g.t.last.size ≤ 16777216 →
∀ (b : Nat) (w1 : World),
New w
(Obj.cells
#[Value.string g.c.t, Value.int .i8 g.c.p, Value.int .i64 g.c.a, Value.int .i64 g.c.n,
Value.bool g.c.r, Value.int .u16 (↑g.c.st : Int)]
(46 : Nat))
b w1 →
∃ (s : ByteArray),
w1.cell? ⟨b, 0, none⟩ = some (Value.string s) ∧
∃ (n : Int),
w1.cell? ⟨b, 1, none⟩ = some (Value.int .i8 n) ∧
∃ (n1 : Int),
w1.cell? ⟨b, 2, none⟩ = some (Value.int .i64 n1) ∧
∃ (n2 : Int),
w1.cell? ⟨b, 3, none⟩ = some (Value.int .i64 n2) ∧
∃ (b1 : Bool),
w1.cell? ⟨b, 4, none⟩ = some (Value.bool b1) ∧
∃ (n3 : Int),
w1.cell? ⟨b, 5, none⟩ = some (Value.int .u16 n3) ∧
∃ (g1 : Ce),
#[Value.agg
#[Value.string s, Value.int .i8 n, Value.int .i64 n1, Value.int .i64 n2, Value.bool b1,
Value.int .u16 n3]] =
#[Value.agg
#[Value.string g1.t, Value.int .i8 g1.p, Value.int .i64 g1.a, Value.int .i64 g1.n, Value.bool g1.r,
Value.int .u16 (↑g1.st : Int)]] ∧
True ∧
∀ (x : ByteArray) (w' : World),
x = txC g1 ∧ Ext w1 w' →
(∃ (n4 : Int),
w'.cell? ⟨g.p.q, 1, none⟩ = some (Value.int .i64 n4) ∧
bcase (n4 != (↑g.i : Int))
(∃ (g2 : GMove),
#[Value.pointer (some ⟨g.p.q, 0, none⟩), Value.int .i64 (↑g.i : Int)] =
#[Value.pointer (some ⟨g2.p.q, 0, none⟩), Value.int .i64 (↑g2.i : Int)] ∧
(TeIn w' g2.p g2.t ∧ teOk g2.t ∧ g2.i ≤ 1048576 ∧ g2.t.b.size ≤ 536870912) ∧
∀ (x1 : TeP) (w'1 : World),
TeOut w' w'1 g2.p x1 (moveT g2.t (↑g2.i : Int)) →
∃ (c : TeP × Nat),
Value.pointer (some ⟨b, 0, none⟩) = Value.pointer (some ⟨c.snd, 0, none⟩) ∧
tellI g w (te1 g.t (↑g.i : Int)) c w'1)
(∃ (c : TeP × Nat),
Value.pointer (some ⟨b, 0, none⟩) = Value.pointer (some ⟨c.snd, 0, none⟩) ∧
tellI g w (te1 g.t (↑g.i : Int)) c w')) ∧
∀ (u : Nat → Value) (c : TeP × Nat) (w'1 : World),
tellI g w (te1 g.t (↑g.i : Int)) c w'1 →
(∀ (w11 : World),
Drew w'1 w11 →
∃ (n4 : Int),
w'1.cell? ⟨g.p.q, 3, none⟩ = some (Value.int .u16 n4) ∧
∃ (n5 : Int),
w'1.cell? ⟨c.snd, 5, none⟩ = some (Value.int .u16 n5) ∧
bcase (n4 != n5)
(∃ (n6 : Int),
w11.cell? ⟨c.snd, 5, none⟩ = some (Value.int .u16 n6) ∧
∃ (g2 : GMove),
#[Value.pointer (some ⟨g.p.q, 0, none⟩), Value.int .u16 n6] =
#[Value.pointer (some ⟨g2.p.q, 0, none⟩), Value.int .u16 (↑g2.i : Int)] ∧
(TeIn w11 g2.p g2.t ∧ g2.i < 65536 ∧ g2.t.b.size ≤ 536870912) ∧
∀ (x1 : TeP) (w'2 : World),
TeOut w11 w'2 g2.p x1 (wearT g2.t g2.i) →
∃ (c1 : TeP × Nat),
Value.pointer (some ⟨c.snd, 0, none⟩) = Value.pointer (some ⟨c1.snd, 0, none⟩) ∧
tellI g w (te2 (te1 g.t (↑g.i : Int)) g.c.st) c1 w'2)
(∃ (c1 : TeP × Nat),
Value.pointer (some ⟨c.snd, 0, none⟩) = Value.pointer (some ⟨c1.snd, 0, none⟩) ∧
tellI g w (te2 (te1 g.t (↑g.i : Int)) g.c.st) c1 w11)) ∧
∀ (u1 : Nat → Value) (c1 : TeP × Nat) (w'2 : World),
tellI g w (te2 (te1 g.t (↑g.i : Int)) g.c.st) c1 w'2 →
(∃ (g2 : ByteArray),
#[Value.string x] = #[Value.string g2] ∧
(U8 w'2 ∧ g2.size ≤ 67108864) ∧
∀ (x1 : Int × Nat) (w'3 : World),
x1.fst = nxR g2 ∧ x1.snd = nxN g2 ∧ Ext w'2 w'3 →
∀ (w11 : World),
Drew w'3 w11 →
∃ (s1 : ByteArray),
w'3.cell? ⟨g.p.q, 2, none⟩ = some (Value.string s1) ∧
bcase (!s1.toList == (ByteArray.mk #[]).toList)
(∃ (s2 : ByteArray),
w'3.cell? ⟨g.p.q, 2, none⟩ = some (Value.string s2) ∧
∃ (k : Nat),
(↑x1.snd : Int) = (↑k : Int) ∧
(0 : Nat) ≤ k ∧
k ≤ x.size ∧
s2.size + (x.extract (0 : Nat) k).size ≤ 9223372036854775807 ∧
∃ (g3 : ByteArray),
#[Value.string (s2 ++ x.extract (0 : Nat) k)] = #[Value.string g3] ∧
(U8 w11 ∧ g3.size ≤ 67108864) ∧
∀ (x2 : Nat) (w'4 : World),
x2 = ncl g3 ∧ Ext w11 w'4 →
bcase ((↑x2 : Int) == (1 : Int))
(∃ (g4 : GMove),
#[Value.pointer (some ⟨g.p.q, 0, none⟩), Value.int .i64 (↑g.i : Int)] =
#[Value.pointer (some ⟨g4.p.q, 0, none⟩), Value.int .i64 (↑g4.i : Int)] ∧
(TeIn w'4 g4.p g4.t ∧ teOk g4.t ∧ g4.i ≤ 1048576 ∧ g4.t.b.size ≤ 536870912) ∧
∀ (x3 : TeP) (w'5 : World),
TeOut w'4 w'5 g4.p x3 (moveT g4.t (↑g4.i : Int)) →
∃ (c2 : TeP × Nat),
Value.pointer (some ⟨c1.snd, 0, none⟩) =
Value.pointer (some ⟨c2.snd, 0, none⟩) ∧
tellI g w (te3 (te2 (te1 g.t (↑g.i : Int)) g.c.st) (↑g.i : Int) (txC g.c)) c2 w'5)
(∃ (c2 : TeP × Nat),
Value.pointer (some ⟨c1.snd, 0, none⟩) =
Value.pointer (some ⟨c2.snd, 0, none⟩) ∧
tellI g w (te3 (te2 (te1 g.t (↑g.i : Int)) g.c.st) (↑g.i : Int) (txC g.c)) c2 w'4))
(∃ (c2 : TeP × Nat),
Value.pointer (some ⟨c1.snd, 0, none⟩) =
Value.pointer (some ⟨c2.snd, 0, none⟩) ∧
tellI g w (te3 (te2 (te1 g.t (↑g.i : Int)) g.c.st) (↑g.i : Int) (txC g.c)) c2 w11)) ∧
∀ (u2 : Nat → Value) (c2 : TeP × Nat) (w'3 : World),
tellI g w (te3 (te2 (te1 g.t (↑g.i : Int)) g.c.st) (↑g.i : Int) (txC g.c)) c2 w'3 →
∃ (a6 : Option Addr) (n4 : Nat) (c3 : Nat),
w'3.cell? ⟨g.p.q, 0, none⟩ = some (Value.slice a6 n4 c3) ∧
∃ (a' : Option Addr) (c' : Nat) (w'4 : World),
AppRun Tryd.prog #[(30 : Nat), (9 : Nat)] (30 : Nat) (Value.slice a6 n4 c3) (Value.string x) w'3 a' (n4 + x.size) c'
w'4 ∧
KO w'3 w'4 ∧
true = true ∧
(∃ (old : Value), w'4.cell? ⟨g.p.q, 0, none⟩ = some old) ∧
w'4.frozen? ⟨g.p.q, 0, none⟩ = false ∧
∀ (w11 : World),
Stored w'4 ⟨g.p.q, 0, none⟩ (Value.slice a' (n4 + x.size) c') w11 →
true = true ∧
(∃ (old : Value), w11.cell? ⟨g.p.q, 2, none⟩ = some old) ∧
w11.frozen? ⟨g.p.q, 2, none⟩ = false ∧
∀ (w12 : World),
Stored w11 ⟨g.p.q, 2, none⟩ (Value.string x) w12 →
∃ (b2 : Bool),
w12.cell? ⟨g.p.q, 5, none⟩ = some (Value.bool b2) ∧
∃ (g2 : ByteArray × Bool),
#[Value.string x, Value.bool b2] = #[Value.string g2.fst, Value.bool g2.snd] ∧
(UD w12 ∧ g2.fst.size ≤ 67108864) ∧
∀ (x1 : Nat) (w'5 : World),
x1 = plN g2.fst g2.snd ∧ Ext w12 w'5 →
InR .i64 ((↑g.i : Int) + (↑x1 : Int)) ∧
true = true ∧
(∃ (old : Value), w'5.cell? ⟨g.p.q, 1, none⟩ = some old) ∧
w'5.frozen? ⟨g.p.q, 1, none⟩ = false ∧
∀ (w13 : World),
Stored w'5 ⟨g.p.q, 1, none⟩ (Value.int .i64 ((↑g.i : Int) + (↑x1 : Int))) w13 →
∀ (w14 : World),
Drew w13 w14 →
∃ (n5 : Int),
w13.cell? ⟨g.p.q, 1, none⟩ = some (Value.int .i64 n5) ∧
∃ (n6 : Int),
w13.cell? ⟨g.p.q, 4, none⟩ = some (Value.int .i64 n6) ∧
(0 : Int) ≤ n5 ∧
(0 : Int) < n6 ∧
bcase (n5 % n6 == (0 : Int))
(true = true ∧
(∃ (old : Value), w14.cell? ⟨g.p.q, 1, none⟩ = some old) ∧
w14.frozen? ⟨g.p.q, 1, none⟩ = false ∧
∀ (w15 : World),
Stored w14 ⟨g.p.q, 1, none⟩ (Value.int .i64 (-1 : Int)) w15 →
∃ (x2 : TeP), Value.tuple #[] = Value.tuple #[] ∧ TeOut w w15 g.p x2 (tellT g.t (↑g.i : Int) g.c))
(∃ (x2 : TeP), Value.tuple #[] = Value.tuple #[] ∧ TeOut w w14 g.p x2 (tellT g.t (↑g.i : Int) g.c))) :
    (sTell).Ok Tryd.prog 24 :=
  ok_of_vc sTell annTell spTell (fun _ _ => rfl) (fun _ _ => rfl) hsp Tryd.func24 rfl (n := 3) (fun _ => rfl) (by kernel_rfl) (vcast (by kernel_rfl) h)
end Go.Proofs.YtjdohhididpomaaDoor
end

section
set_option linter.unusedVariables false
namespace Go.Proofs.YtjdohhididpomaaDoor
open Go Go.RowKit Vc Ut Tb Cl
set_option maxRecDepth 1000000 in
theorem textW_vc (hsp : SpecsOk Tryd.prog []) (h : ∀ (g : Ce) (w : World),
True →
∀ (b : Nat) (w1 : World),
New w
(Obj.cells
#[Value.string g.t, Value.int .i8 g.p, Value.int .i64 g.a, Value.int .i64 g.n, Value.bool g.r,
Value.int .u16 (↑g.st : Int)]
(46 : Nat))
b w1 →
∃ (n : Int),
w1.cell? ⟨b, 1, none⟩ = some (Value.int .i8 n) ∧
bcase (n == (0 : Int))
(∃ (s : ByteArray),
w1.cell? ⟨b, 0, none⟩ = some (Value.string s) ∧
bcase (s.toList == (ByteArray.mk #[]).toList)
(∃ (x : ByteArray), Value.string (ByteArray.mk #[(32 : UInt8)]) = Value.string x ∧ x = txC g ∧ Ext w w1)
(∃ (s1 : ByteArray),
w1.cell? ⟨b, 0, none⟩ = some (Value.string s1) ∧
∃ (x : ByteArray), Value.string s1 = Value.string x ∧ x = txC g ∧ Ext w w1))
(∃ (s : ByteArray),
w1.cell? ⟨b, 0, none⟩ = some (Value.string s) ∧
∃ (x : ByteArray), Value.string s = Value.string x ∧ x = txC g ∧ Ext w w1)) :
    (sTextW).Ok Tryd.prog 19 :=
  ok_of_vc sTextW (annOf []) [] (fun _ _ => rfl) (fun _ _ => rfl) hsp Tryd.func19 rfl (n := 1) (fun _ => rfl) (by kernel_rfl) (vcast (by kernel_rfl) h)
set_option maxRecDepth 1000000 in
theorem alikeW_vc (hsp : SpecsOk Tryd.prog spAlikeW) (h : ∀ (g : Ce × Ce) (w : World),
True →
∀ (b : Nat) (w1 : World),
New w
(Obj.cells
#[Value.string g.fst.t, Value.int .i8 g.fst.p, Value.int .i64 g.fst.a, Value.int .i64 g.fst.n,
Value.bool g.fst.r, Value.int .u16 (↑g.fst.st : Int)]
(46 : Nat))
b w1 →
∀ (b1 : Nat) (w11 : World),
New w1
(Obj.cells
#[Value.string g.snd.t, Value.int .i8 g.snd.p, Value.int .i64 g.snd.a, Value.int .i64 g.snd.n,
Value.bool g.snd.r, Value.int .u16 (↑g.snd.st : Int)]
(46 : Nat))
b1 w11 →
∀ (w12 : World),
Drew w11 w12 →
∃ (n : Int),
w11.cell? ⟨b, 1, none⟩ = some (Value.int .i8 n) ∧
∃ (n1 : Int),
w11.cell? ⟨b1, 1, none⟩ = some (Value.int .i8 n1) ∧
bcase (n == n1)
(∃ (n2 : Int),
w11.cell? ⟨b, 5, none⟩ = some (Value.int .u16 n2) ∧
∃ (n3 : Int),
w11.cell? ⟨b1, 5, none⟩ = some (Value.int .u16 n3) ∧
bcase (n2 == n3)
(∃ (s : ByteArray),
w11.cell? ⟨b, 0, none⟩ = some (Value.string s) ∧
∃ (n4 : Int),
w11.cell? ⟨b, 1, none⟩ = some (Value.int .i8 n4) ∧
∃ (n5 : Int),
w11.cell? ⟨b, 2, none⟩ = some (Value.int .i64 n5) ∧
∃ (n6 : Int),
w11.cell? ⟨b, 3, none⟩ = some (Value.int .i64 n6) ∧
∃ (b2 : Bool),
w11.cell? ⟨b, 4, none⟩ = some (Value.bool b2) ∧
∃ (n7 : Int),
w11.cell? ⟨b, 5, none⟩ = some (Value.int .u16 n7) ∧
∃ (s1 : ByteArray),
w11.cell? ⟨b1, 0, none⟩ = some (Value.string s1) ∧
∃ (n8 : Int),
w11.cell? ⟨b1, 1, none⟩ = some (Value.int .i8 n8) ∧
∃ (n9 : Int),
w11.cell? ⟨b1, 2, none⟩ = some (Value.int .i64 n9) ∧
∃ (n10 : Int),
w11.cell? ⟨b1, 3, none⟩ = some (Value.int .i64 n10) ∧
∃ (b3 : Bool),
w11.cell? ⟨b1, 4, none⟩ = some (Value.bool b3) ∧
∃ (n11 : Int),
w11.cell? ⟨b1, 5, none⟩ = some (Value.int .u16 n11) ∧
∃ (g1 : Ce),
#[Value.agg
#[Value.string s, Value.int .i8 n4, Value.int .i64 n5, Value.int .i64 n6, Value.bool b2,
Value.int .u16 n7]] =
#[Value.agg
#[Value.string g1.t, Value.int .i8 g1.p, Value.int .i64 g1.a, Value.int .i64 g1.n, Value.bool g1.r,
Value.int .u16 (↑g1.st : Int)]] ∧
True ∧
∀ (x : ByteArray) (w' : World),
x = txC g1 ∧ Ext w12 w' →
Below w12.heap.size w12 w' ∧
∃ (g2 : Ce),
#[Value.agg
#[Value.string s1, Value.int .i8 n8, Value.int .i64 n9, Value.int .i64 n10, Value.bool b3,
Value.int .u16 n11]] =
#[Value.agg
#[Value.string g2.t, Value.int .i8 g2.p, Value.int .i64 g2.a, Value.int .i64 g2.n, Value.bool g2.r,
Value.int .u16 (↑g2.st : Int)]] ∧
True ∧
∀ (x1 : ByteArray) (w'1 : World),
x1 = txC g2 ∧ Ext w' w'1 →
∃ (x2 : Bool), Value.bool (x.toList == x1.toList) = Value.bool x2 ∧ x2 = alikeB g.fst g.snd ∧ Ext w w'1)
(∃ (x : Bool), Value.bool false = Value.bool x ∧ x = alikeB g.fst g.snd ∧ Ext w w12))
(∃ (x : Bool), Value.bool false = Value.bool x ∧ x = alikeB g.fst g.snd ∧ Ext w w12)) :
    (sAlikeW).Ok Tryd.prog 22 :=
  ok_of_vc sAlikeW (annOf spAlikeW) spAlikeW (fun _ _ => rfl) (fun _ _ => rfl) hsp Tryd.func22 rfl (n := 2) (fun _ => rfl) (by kernel_rfl) (vcast (by kernel_rfl) h)
set_option maxRecDepth 1000000 in
theorem plainW_vc (hsp : SpecsOk Tryd.prog spPlainW) (h : ∀ (g : ByteArray × Bool) (w : World),
UD w ∧ g.fst.size ≤ 67108864 →
∃ (g1 : ByteArray),
#[Value.string g.fst] = #[Value.string g1] ∧
(U8 w ∧ g1.size ≤ 67108864) ∧
∀ (x : Bool) (w' : World),
x = validB g1 ∧ Ext w w' →
bcase (!x)
(∃ (x1 : Nat), Value.int .i64 0 = Value.int .i64 (↑x1 : Int) ∧ x1 = plN g.fst g.snd ∧ Ext w w')
(∃ (g2 : ByteArray),
#[Value.string g.fst] = #[Value.string g2] ∧
(U8 w' ∧ g2.size ≤ 67108864) ∧
∀ (x1 : Nat) (w'1 : World),
x1 = ncl g2 ∧ Ext w' w'1 →
bcase ((↑x1 : Int) != (1 : Int))
(∃ (x2 : Nat), Value.int .i64 0 = Value.int .i64 (↑x2 : Int) ∧ x2 = plN g.fst g.snd ∧ Ext w w'1)
(∃ (g3 : GT6),
#[Value.string g.fst, Value.int .i64 0,
Value.agg
#[Value.int .i64 0, Value.bool g.snd, Value.int .i8 0, Value.bool false,
Value.bool false]] =
#[Value.string g3.s, Value.int .i64 g3.col,
Value.agg
#[Value.int .i64 g3.l.tab, Value.bool g3.l.wide, Value.int .i8 g3.l.want, Value.bool g3.l.join,
Value.bool g3.l.raw]] ∧
(U8 w'1 ∧ DB w'1 ∧ g3.s.size ≤ 67108864) ∧
∀ (x2 : ByteArray × Nat) (w'2 : World),
x2 = textC g3.s g3.col g3.l ∧ Ext w'1 w'2 →
bcase (!x2.fst.toList == g.fst.toList || decide ((↑x2.snd : Int) > (2 : Int)))
(∃ (x3 : Nat), Value.int .i64 0 = Value.int .i64 (↑x3 : Int) ∧ x3 = plN g.fst g.snd ∧ Ext w w'2)
(∃ (x3 : Nat),
Value.int .i64 (↑x2.snd : Int) = Value.int .i64 (↑x3 : Int) ∧ x3 = plN g.fst g.snd ∧ Ext w w'2)))) :
    (sPlainW).Ok Tryd.prog 18 :=
  ok_of_vc sPlainW (annOf spPlainW) spPlainW (fun _ _ => rfl) (fun _ _ => rfl) hsp Tryd.func18 rfl (n := 2) (fun _ => rfl) (by kernel_rfl) (vcast (by kernel_rfl) h)
set_option maxRecDepth 1000000 in
theorem sizeW_vc (hsp : SpecsOk Tryd.prog []) (h : ∀ (g : Int × Int) (w : World),
True →
∃ (x : Bool),
Value.bool
(decide (g.fst ≥ (0 : Int)) &&
(decide (g.fst ≤ (1024 : Int)) && (decide (g.snd ≥ (0 : Int)) && decide (g.snd ≤ (1024 : Int))))) =
Value.bool x ∧
x = sizeB g.fst g.snd ∧ Ext w w) :
    (sSizeW).Ok Tryd.prog 17 :=
  ok_of_vc sSizeW (annOf []) [] (fun _ _ => rfl) (fun _ _ => rfl) hsp Tryd.func17 rfl (n := 2) (fun _ => rfl) (by kernel_rfl) (vcast (by kernel_rfl) h)
set_option maxRecDepth 1000000 in
theorem rightW_vc (hsp : SpecsOk Tryd.prog spRightW) (h : ∀ (g : GGr) (w : World),
UD w ∧ grIn w g.ad g.g.cs →
∀ (b : Nat) (w1 : World),
New w
(Obj.cells
#[Value.int .i64 g.g.w, Value.int .i64 g.g.h, Value.slice g.ad g.g.cs.length g.c,
Value.int .i64 g.g.x, Value.int .i64 g.g.y]
(27 : Nat))
b w1 →
∃ (n : Int),
w1.cell? ⟨b, 0, none⟩ = some (Value.int .i64 n) ∧
∃ (n1 : Int),
w1.cell? ⟨b, 1, none⟩ = some (Value.int .i64 n1) ∧
∃ (g1 : Int × Int),
#[Value.int .i64 n, Value.int .i64 n1] = #[Value.int .i64 g1.fst, Value.int .i64 g1.snd] ∧
True ∧
∀ (x : Bool) (w' : World),
x = sizeB g1.fst g1.snd ∧ Ext w1 w' →
bcase (!x) (∃ (x1 : Bool), Value.bool false = Value.bool x1 ∧ x1 = rightB g.g g.wd ∧ Ext w w')
(∃ (a3 : Option Addr) (n2 : Nat) (c : Nat),
w'.cell? ⟨b, 2, none⟩ = some (Value.slice a3 n2 c) ∧
∃ (n3 : Int),
w'.cell? ⟨b, 0, none⟩ = some (Value.int .i64 n3) ∧
∃ (n4 : Int),
w'.cell? ⟨b, 1, none⟩ = some (Value.int .i64 n4) ∧
InR .i64 (n3 * n4) ∧
bcase ((↑n2 : Int) != n3 * n4) (∃ (x1 : Bool), Value.bool false = Value.bool x1 ∧ x1 = rightB g.g g.wd ∧ Ext w w')
((∃ (n5 : Int),
w'.cell? ⟨b, 3, none⟩ = some (Value.int .i64 n5) ∧
bcase (n5 == (-1 : Int))
(∃ (n6 : Int),
w'.cell? ⟨b, 4, none⟩ = some (Value.int .i64 n6) ∧
∃ (c1 : Unit), Value.bool (n6 == (-1 : Int)) = Value.bool (g.g.x == (-1 : Int) && g.g.y == (-1 : Int)) ∧ w' = w')
(∃ (c1 : Unit), Value.bool false = Value.bool (g.g.x == (-1 : Int) && g.g.y == (-1 : Int)) ∧ w' = w')) ∧
∀ (u : Nat → Value) (c1 : Unit) (w'1 : World),
w'1 = w' →
bcase (!(g.g.x == (-1 : Int) && g.g.y == (-1 : Int)))
(∃ (n5 : Int),
w'1.cell? ⟨b, 3, none⟩ = some (Value.int .i64 n5) ∧
bcase (decide (n5 < (0 : Int))) (∃ (x1 : Bool), Value.bool false = Value.bool x1 ∧ x1 = rightB g.g g.wd ∧ Ext w w'1)
(∃ (n6 : Int),
w'1.cell? ⟨b, 3, none⟩ = some (Value.int .i64 n6) ∧
∃ (n7 : Int),
w'1.cell? ⟨b, 0, none⟩ = some (Value.int .i64 n7) ∧
bcase (decide (n6 ≥ n7)) (∃ (x1 : Bool), Value.bool false = Value.bool x1 ∧ x1 = rightB g.g g.wd ∧ Ext w w'1)
(∃ (n8 : Int),
w'1.cell? ⟨b, 4, none⟩ = some (Value.int .i64 n8) ∧
bcase (decide (n8 < (0 : Int))) (∃ (x1 : Bool), Value.bool false = Value.bool x1 ∧ x1 = rightB g.g g.wd ∧ Ext w w'1)
(∃ (n9 : Int),
w'1.cell? ⟨b, 4, none⟩ = some (Value.int .i64 n9) ∧
∃ (n10 : Int),
w'1.cell? ⟨b, 1, none⟩ = some (Value.int .i64 n10) ∧
bcase (decide (n9 ≥ n10)) (∃ (x1 : Bool), Value.bool false = Value.bool x1 ∧ x1 = rightB g.g g.wd ∧ Ext w w'1)
(∃ (c2 : Unit), w'1 = w'1 ∧ curB g.g = true)))))
(∃ (c2 : Unit), w'1 = w'1 ∧ curB g.g = true) ∧
∀ (u1 : Nat → Value) (c2 : Unit) (w'2 : World),
w'2 = w'1 ∧ curB g.g = true →
(∃ (x1 : Nat),
Value.int .i64 0 = Value.int .i64 (↑x1 : Int) ∧
x1 ≤ g.g.cs.length ∧
rgtL g.g.w.toNat g.wd (List.drop x1 g.g.cs) x1 = rgtL g.g.w.toNat g.wd g.g.cs (0 : Nat) ∧ Ext w'2 w'2) ∧
∀ (u2 : Nat → Value) (x1 : Nat) (w'3 : World),
x1 ≤ g.g.cs.length ∧
rgtL g.g.w.toNat g.wd (List.drop x1 g.g.cs) x1 = rgtL g.g.w.toNat g.wd g.g.cs (0 : Nat) ∧ Ext w'2 w'3 →
∃ (a7 : Option Addr) (n5 : Nat) (c3 : Nat),
w'3.cell? ⟨b, 2, none⟩ = some (Value.slice a7 n5 c3) ∧
bcase (decide ((↑x1 : Int) < (↑n5 : Int)))
(∃ (a8 : Option Addr) (n6 : Nat) (c4 : Nat),
w'3.cell? ⟨b, 2, none⟩ = some (Value.slice a8 n6 c4) ∧
∃ (k : Nat),
(↑x1 : Int) = (↑k : Int) ∧
k < n6 ∧
ptrE a8 fun (b1 o : Nat) =>
∃ (s : ByteArray),
w'3.cell? ⟨b1, o + k * 6, none⟩ = some (Value.string s) ∧
∃ (n7 : Int),
w'3.cell? ⟨b1, o + k * 6 + 1, none⟩ = some (Value.int .i8 n7) ∧
∃ (n8 : Int),
w'3.cell? ⟨b1, o + k * 6 + 2, none⟩ = some (Value.int .i64 n8) ∧
∃ (n9 : Int),
w'3.cell? ⟨b1, o + k * 6 + 3, none⟩ = some (Value.int .i64 n9) ∧
∃ (b2 : Bool),
w'3.cell? ⟨b1, o + k * 6 + 4, none⟩ = some (Value.bool b2) ∧
∃ (n10 : Int),
w'3.cell? ⟨b1, o + k * 6 + 5, none⟩ = some (Value.int .u16 n10) ∧
∀ (b3 : Nat) (w11 : World),
New w'3
(Obj.cells
#[Value.string s, Value.int .i8 n7, Value.int .i64 n8, Value.int .i64 n9, Value.bool b2,
Value.int .u16 n10]
(46 : Nat))
b3 w11 →
∃ (s1 : ByteArray),
w11.cell? ⟨b3, 0, none⟩ = some (Value.string s1) ∧
∃ (n11 : Int),
w11.cell? ⟨b3, 1, none⟩ = some (Value.int .i8 n11) ∧
∃ (n12 : Int),
w11.cell? ⟨b3, 2, none⟩ = some (Value.int .i64 n12) ∧
∃ (n13 : Int),
w11.cell? ⟨b3, 3, none⟩ = some (Value.int .i64 n13) ∧
∃ (b4 : Bool),
w11.cell? ⟨b3, 4, none⟩ = some (Value.bool b4) ∧
∃ (n14 : Int),
w11.cell? ⟨b3, 5, none⟩ = some (Value.int .u16 n14) ∧
∃ (g2 : Ce),
#[Value.agg
#[Value.string s1, Value.int .i8 n11, Value.int .i64 n12, Value.int .i64 n13, Value.bool b4,
Value.int .u16 n14]] =
#[Value.agg
#[Value.string g2.t, Value.int .i8 g2.p, Value.int .i64 g2.a, Value.int .i64 g2.n, Value.bool g2.r,
Value.int .u16 (↑g2.st : Int)]] ∧
True ∧
∀ (x2 : ByteArray) (w'4 : World),
x2 = txC g2 ∧ Ext w11 w'4 →
∃ (g3 : ByteArray × Bool),
#[Value.string x2, Value.bool g.wd] = #[Value.string g3.fst, Value.bool g3.snd] ∧
(UD w'4 ∧ g3.fst.size ≤ 67108864) ∧
∀ (x3 : Nat) (w'5 : World),
x3 = plN g3.fst g3.snd ∧ Ext w'4 w'5 →
∃ (n15 : Int),
w'5.cell? ⟨b3, 1, none⟩ = some (Value.int .i8 n15) ∧
bcase (n15 != (0 : Int)) (∃ (x4 : Bool), Value.bool false = Value.bool x4 ∧ x4 = rightB g.g g.wd ∧ Ext w w'5)
(bcase ((↑x3 : Int) == (0 : Int)) (∃ (x4 : Bool), Value.bool false = Value.bool x4 ∧ x4 = rightB g.g g.wd ∧ Ext w w'5)
(bcase ((↑x3 : Int) == (2 : Int))
(InR .i64 ((↑x1 : Int) + (1 : Int)) ∧
∀ (w12 : World),
Drew w'5 w12 →
∃ (n16 : Int),
w'5.cell? ⟨b, 0, none⟩ = some (Value.int .i64 n16) ∧
(0 : Int) ≤ (↑x1 : Int) + (1 : Int) ∧
(0 : Int) < n16 ∧
bcase (((↑x1 : Int) + (1 : Int)) % n16 == (0 : Int))
(∃ (x4 : Bool), Value.bool false = Value.bool x4 ∧ x4 = rightB g.g g.wd ∧ Ext w w12)
(∃ (a13 : Option Addr) (n17 : Nat) (c5 : Nat),
w'5.cell? ⟨b, 2, none⟩ = some (Value.slice a13 n17 c5) ∧
∃ (k1 : Nat),
(↑x1 : Int) + (1 : Int) = (↑k1 : Int) ∧
k1 < n17 ∧
ptrE a13 fun (b5 o1 : Nat) =>
∃ (s2 : ByteArray),
w'5.cell? ⟨b5, o1 + k1 * 6, none⟩ = some (Value.string s2) ∧
∃ (n18 : Int),
w'5.cell? ⟨b5, o1 + k1 * 6 + 1, none⟩ = some (Value.int .i8 n18) ∧
∃ (n19 : Int),
w'5.cell? ⟨b5, o1 + k1 * 6 + 2, none⟩ = some (Value.int .i64 n19) ∧
∃ (n20 : Int),
w'5.cell? ⟨b5, o1 + k1 * 6 + 3, none⟩ = some (Value.int .i64 n20) ∧
∃ (b6 : Bool),
w'5.cell? ⟨b5, o1 + k1 * 6 + 4, none⟩ = some (Value.bool b6) ∧
∃ (n21 : Int),
w'5.cell? ⟨b5, o1 + k1 * 6 + 5, none⟩ = some (Value.int .u16 n21) ∧
∃ (n22 : Int),
w'5.cell? ⟨b3, 5, none⟩ = some (Value.int .u16 n22) ∧
∃ (a14 : Option Addr) (n23 : Nat) (c6 : Nat),
w'5.cell? ⟨b, 2, none⟩ = some (Value.slice a14 n23 c6) ∧
∃ (k2 : Nat),
(↑x1 : Int) + (1 : Int) = (↑k2 : Int) ∧
k2 < n23 ∧
ptrE a14 fun (b7 o2 : Nat) =>
∃ (n24 : Int),
w'5.cell? ⟨b7, o2 + k2 * 6 + 2, none⟩ = some (Value.int .i64 n24) ∧
∃ (a15 : Option Addr) (n25 : Nat) (c7 : Nat),
w'5.cell? ⟨b, 2, none⟩ = some (Value.slice a15 n25 c7) ∧
∃ (k3 : Nat),
(↑x1 : Int) + (1 : Int) = (↑k3 : Int) ∧
k3 < n25 ∧
ptrE a15 fun (b8 o3 : Nat) =>
∃ (n26 : Int),
w'5.cell? ⟨b8, o3 + k3 * 6 + 3, none⟩ = some (Value.int .i64 n26) ∧
∃ (a16 : Option Addr) (n27 : Nat) (c8 : Nat),
w'5.cell? ⟨b, 2, none⟩ = some (Value.slice a16 n27 c8) ∧
∃ (k4 : Nat),
(↑x1 : Int) + (1 : Int) = (↑k4 : Int) ∧
k4 < n27 ∧
ptrE a16 fun (b9 o4 : Nat) =>
∃ (b10 : Bool),
w'5.cell? ⟨b9, o4 + k4 * 6 + 4, none⟩ = some (Value.bool b10) ∧
bcase
(!(s2.toList == (ByteArray.mk #[]).toList &&
(n18 == (1 : Int) && (n19 == n24 && (n20 == n26 && (b6 == b10 && (n21 == n22 && true)))))))
(∃ (x4 : Bool), Value.bool false = Value.bool x4 ∧ x4 = rightB g.g g.wd ∧ Ext w w12)
(InR .i64 ((↑x1 : Int) + (1 : Int) + (1 : Int)) ∧
∃ (y : Nat),
Value.int .i64 ((↑x1 : Int) + (1 : Int) + (1 : Int)) = Value.int .i64 (↑y : Int) ∧
(y ≤ g.g.cs.length ∧
rgtL g.g.w.toNat g.wd (List.drop y g.g.cs) y = rgtL g.g.w.toNat g.wd g.g.cs (0 : Nat) ∧ Ext w'2 w12) ∧
g.g.cs.length - y < g.g.cs.length - x1)))
(InR .i64 ((↑x1 : Int) + (1 : Int)) ∧
∃ (y : Nat),
Value.int .i64 ((↑x1 : Int) + (1 : Int)) = Value.int .i64 (↑y : Int) ∧
(y ≤ g.g.cs.length ∧
rgtL g.g.w.toNat g.wd (List.drop y g.g.cs) y = rgtL g.g.w.toNat g.wd g.g.cs (0 : Nat) ∧ Ext w'2 w'5) ∧
g.g.cs.length - y < g.g.cs.length - x1))))
(∃ (x2 : Bool), Value.bool true = Value.bool x2 ∧ x2 = rightB g.g g.wd ∧ Ext w w'3)))) :
    (sRightW).Ok Tryd.prog 9 :=
  ok_of_vc sRightW annRightW spRightW (fun _ _ => rfl) (fun _ _ => rfl) hsp Tryd.func9 rfl (n := 2) (fun _ => rfl) (by kernel_rfl) (vcast (by kernel_rfl) h)
set_option maxRecDepth 1000000 in
theorem sameW_vc (hsp : SpecsOk Tryd.prog spSameW) (h : ∀ (g : GGg) (w : World),
grIn w g.a1 g.g1.cs ∧ grIn w g.a2 g.g2.cs →
∀ (b : Nat) (w1 : World),
New w
(Obj.cells
#[Value.int .i64 g.g1.w, Value.int .i64 g.g1.h, Value.slice g.a1 g.g1.cs.length g.c1,
Value.int .i64 g.g1.x, Value.int .i64 g.g1.y]
(27 : Nat))
b w1 →
∀ (b1 : Nat) (w11 : World),
New w1
(Obj.cells
#[Value.int .i64 g.g2.w, Value.int .i64 g.g2.h, Value.slice g.a2 g.g2.cs.length g.c2,
Value.int .i64 g.g2.x, Value.int .i64 g.g2.y]
(27 : Nat))
b1 w11 →
∃ (n : Int),
w11.cell? ⟨b, 0, none⟩ = some (Value.int .i64 n) ∧
∃ (n1 : Int),
w11.cell? ⟨b1, 0, none⟩ = some (Value.int .i64 n1) ∧
bcase (n != n1) (∃ (x : Bool), Value.bool false = Value.bool x ∧ x = sameB g.g1 g.g2 ∧ Ext w w11)
(∃ (n2 : Int),
w11.cell? ⟨b, 1, none⟩ = some (Value.int .i64 n2) ∧
∃ (n3 : Int),
w11.cell? ⟨b1, 1, none⟩ = some (Value.int .i64 n3) ∧
bcase (n2 != n3) (∃ (x : Bool), Value.bool false = Value.bool x ∧ x = sameB g.g1 g.g2 ∧ Ext w w11)
(∃ (n4 : Int),
w11.cell? ⟨b, 3, none⟩ = some (Value.int .i64 n4) ∧
∃ (n5 : Int),
w11.cell? ⟨b1, 3, none⟩ = some (Value.int .i64 n5) ∧
bcase (n4 != n5) (∃ (x : Bool), Value.bool false = Value.bool x ∧ x = sameB g.g1 g.g2 ∧ Ext w w11)
(∃ (n6 : Int),
w11.cell? ⟨b, 4, none⟩ = some (Value.int .i64 n6) ∧
∃ (n7 : Int),
w11.cell? ⟨b1, 4, none⟩ = some (Value.int .i64 n7) ∧
bcase (n6 != n7) (∃ (x : Bool), Value.bool false = Value.bool x ∧ x = sameB g.g1 g.g2 ∧ Ext w w11)
(∃ (a3 : Option Addr) (n8 : Nat) (c : Nat),
w11.cell? ⟨b, 2, none⟩ = some (Value.slice a3 n8 c) ∧
∃ (a4 : Option Addr) (n9 : Nat) (c1 : Nat),
w11.cell? ⟨b1, 2, none⟩ = some (Value.slice a4 n9 c1) ∧
bcase ((↑n8 : Int) != (↑n9 : Int)) (∃ (x : Bool), Value.bool false = Value.bool x ∧ x = sameB g.g1 g.g2 ∧ Ext w w11)
(∃ (a5 : Option Addr) (n10 : Nat) (c2 : Nat),
w11.cell? ⟨b, 2, none⟩ = some (Value.slice a5 n10 c2) ∧
(∃ (x : Nat),
Value.int .i64 0 = Value.int .i64 (↑x : Int) ∧
x ≤ g.g1.cs.length ∧ samL (List.drop x g.g1.cs) (List.drop x g.g2.cs) = samL g.g1.cs g.g2.cs ∧ Ext w11 w11) ∧
∀ (u : Nat → Value) (x : Nat) (w' : World),
x ≤ g.g1.cs.length ∧ samL (List.drop x g.g1.cs) (List.drop x g.g2.cs) = samL g.g1.cs g.g2.cs ∧ Ext w11 w' →
bcase (decide ((↑x : Int) < (↑n10 : Int)))
(∀ (w12 : World),
Drew w' w12 →
∃ (a8 : Option Addr) (n11 : Nat) (c3 : Nat),
w'.cell? ⟨b, 2, none⟩ = some (Value.slice a8 n11 c3) ∧
∃ (k : Nat),
(↑x : Int) = (↑k : Int) ∧
k < n11 ∧
ptrE a8 fun (b2 o : Nat) =>
∃ (s : ByteArray),
w'.cell? ⟨b2, o + k * 6, none⟩ = some (Value.string s) ∧
∃ (n12 : Int),
w'.cell? ⟨b2, o + k * 6 + 1, none⟩ = some (Value.int .i8 n12) ∧
∃ (n13 : Int),
w'.cell? ⟨b2, o + k * 6 + 2, none⟩ = some (Value.int .i64 n13) ∧
∃ (n14 : Int),
w'.cell? ⟨b2, o + k * 6 + 3, none⟩ = some (Value.int .i64 n14) ∧
∃ (b3 : Bool),
w'.cell? ⟨b2, o + k * 6 + 4, none⟩ = some (Value.bool b3) ∧
∃ (n15 : Int),
w'.cell? ⟨b2, o + k * 6 + 5, none⟩ = some (Value.int .u16 n15) ∧
∃ (a9 : Option Addr) (n16 : Nat) (c4 : Nat),
w'.cell? ⟨b1, 2, none⟩ = some (Value.slice a9 n16 c4) ∧
∃ (k1 : Nat),
(↑x : Int) = (↑k1 : Int) ∧
k1 < n16 ∧
ptrE a9 fun (b4 o1 : Nat) =>
∃ (s1 : ByteArray),
w'.cell? ⟨b4, o1 + k1 * 6, none⟩ = some (Value.string s1) ∧
∃ (n17 : Int),
w'.cell? ⟨b4, o1 + k1 * 6 + 1, none⟩ = some (Value.int .i8 n17) ∧
∃ (n18 : Int),
w'.cell? ⟨b4, o1 + k1 * 6 + 2, none⟩ = some (Value.int .i64 n18) ∧
∃ (n19 : Int),
w'.cell? ⟨b4, o1 + k1 * 6 + 3, none⟩ = some (Value.int .i64 n19) ∧
∃ (b5 : Bool),
w'.cell? ⟨b4, o1 + k1 * 6 + 4, none⟩ = some (Value.bool b5) ∧
∃ (n20 : Int),
w'.cell? ⟨b4, o1 + k1 * 6 + 5, none⟩ = some (Value.int .u16 n20) ∧
∃ (g1 : Ce × Ce),
#[Value.agg
#[Value.string s, Value.int .i8 n12, Value.int .i64 n13, Value.int .i64 n14, Value.bool b3,
Value.int .u16 n15],
Value.agg
#[Value.string s1, Value.int .i8 n17, Value.int .i64 n18, Value.int .i64 n19, Value.bool b5,
Value.int .u16 n20]] =
#[Value.agg
#[Value.string g1.fst.t, Value.int .i8 g1.fst.p, Value.int .i64 g1.fst.a, Value.int .i64 g1.fst.n,
Value.bool g1.fst.r, Value.int .u16 (↑g1.fst.st : Int)],
Value.agg
#[Value.string g1.snd.t, Value.int .i8 g1.snd.p, Value.int .i64 g1.snd.a, Value.int .i64 g1.snd.n,
Value.bool g1.snd.r, Value.int .u16 (↑g1.snd.st : Int)]] ∧
True ∧
∀ (x1 : Bool) (w'1 : World),
x1 = alikeB g1.fst g1.snd ∧ Ext w12 w'1 →
bcase (!x1) (∃ (x2 : Bool), Value.bool false = Value.bool x2 ∧ x2 = sameB g.g1 g.g2 ∧ Ext w w'1)
(InR .i64 ((↑x : Int) + (1 : Int)) ∧
∃ (y : Nat),
Value.int .i64 ((↑x : Int) + (1 : Int)) = Value.int .i64 (↑y : Int) ∧
(y ≤ g.g1.cs.length ∧ samL (List.drop y g.g1.cs) (List.drop y g.g2.cs) = samL g.g1.cs g.g2.cs ∧ Ext w11 w'1) ∧
g.g1.cs.length - y < g.g1.cs.length - x))
(∃ (x1 : Bool), Value.bool true = Value.bool x1 ∧ x1 = sameB g.g1 g.g2 ∧ Ext w w'))))))) :
    (sSameW).Ok Tryd.prog 14 :=
  ok_of_vc sSameW annSameW spSameW (fun _ _ => rfl) (fun _ _ => rfl) hsp Tryd.func14 rfl (n := 2) (fun _ => rfl) (by kernel_rfl) (vcast (by kernel_rfl) h)
end Go.Proofs.YtjdohhididpomaaDoor
end

section
set_option linter.unusedVariables false
namespace Go.Proofs.YtjdohhididpomaaDoor
open Go Go.RowKit Vc Ut Tb Cl
set_option maxRecDepth 1000000 in
theorem stop_vc (hsp : SpecsOk Tryd.prog []) (h : ∀ (g : Int × Lk) (w : World),
True →
∀ (b : Nat) (w1 : World),
New w
(Obj.cells
#[Value.int .i64 g.snd.tab, Value.bool g.snd.wide, Value.int .i8 g.snd.want, Value.bool g.snd.join,
Value.bool g.snd.raw]
(75 : Nat))
b w1 →
∃ (n : Int),
w1.cell? ⟨b, 0, none⟩ = some (Value.int .i64 n) ∧
bcase (decide (n < (1 : Int)) || decide (n > (16 : Int)))
(((0 : Int) ≤ if (0 : Int) > g.fst then (0 : Int) else g.fst) ∧
(0 : Int) < (8 : Int) ∧
InR .i64 ((8 : Int) - (if (0 : Int) > g.fst then (0 : Int) else g.fst) % (8 : Int)) ∧
∃ (x : Nat),
Value.int .i64 ((8 : Int) - (if (0 : Int) > g.fst then (0 : Int) else g.fst) % (8 : Int)) =
Value.int .i64 (↑x : Int) ∧
x = stopN g.fst g.snd.tab ∧ Ext w w1)
(((0 : Int) ≤ if (0 : Int) > g.fst then (0 : Int) else g.fst) ∧
(0 : Int) < n ∧
InR .i64 (n - (if (0 : Int) > g.fst then (0 : Int) else g.fst) % n) ∧
∃ (x : Nat),
Value.int .i64 (n - (if (0 : Int) > g.fst then (0 : Int) else g.fst) % n) = Value.int .i64 (↑x : Int) ∧
x = stopN g.fst g.snd.tab ∧ Ext w w1)) :
    (sStop).Ok Tryd.prog 61 :=
  ok_of_vc sStop (annOf []) [] (fun _ _ => rfl) (fun _ _ => rfl) hsp Tryd.func61 rfl (n := 2) (fun _ => rfl) (by kernel_rfl) (vcast (by kernel_rfl) h)
set_option maxRecDepth 1000000 in
theorem flag_vc (hsp : SpecsOk Tryd.prog []) (h : ∀ (g : Int) (w : World),
True →
∃ (x : Bool),
Value.bool (decide ((127462 : Int) ≤ g) && decide (g ≤ (127487 : Int))) = Value.bool x ∧ x = regB g ∧ Ext w w) :
    ((sRB regB)).Ok Tryd.prog 65 :=
  ok_of_vc (sRB regB) (annOf []) [] (fun _ _ => rfl) (fun _ _ => rfl) hsp Tryd.func65 rfl (n := 1) (fun _ => rfl) (by kernel_rfl) (vcast (by kernel_rfl) h)
set_option maxRecDepth 1000000 in
theorem oneT_vc (hsp : SpecsOk Tryd.prog spOneP) (h : ∀ (g : GK6) (w : World),
lateB (sg g.k (0 : Nat)) = true ∧
DB w ∧
g.k.size ≤ 67108864 ∧
ncl g.k = (1 : Nat) ∧
isBad g.k (0 : Nat) = false ∧ cnt g.k ≤ g.c ∧ CellsAt w g.a (List.map (Value.int IntKind.i32) (runes g.k)) →
∀ (b : Nat) (w1 : World),
New w
(Obj.cells
#[Value.int .i64 g.l.tab, Value.bool g.l.wide, Value.int .i8 g.l.want, Value.bool g.l.join,
Value.bool g.l.raw]
(75 : Nat))
b w1 →
∃ (k : Nat),
(0 : Int) = (↑k : Int) ∧
k < cnt g.k ∧
ptrE g.a fun (b1 o : Nat) =>
∃ (n : Int),
w1.cell? ⟨b1, o + k, none⟩ = some (Value.int .i32 n) ∧
bcase (decide ((↑(cnt g.k) : Int) > (1 : Int)))
(∃ (k1 : Nat),
(1 : Int) = (↑k1 : Int) ∧
k1 < cnt g.k ∧
ptrE g.a fun (b2 o1 : Nat) =>
∃ (n1 : Int),
w1.cell? ⟨b2, o1 + k1, none⟩ = some (Value.int .i32 n1) ∧
∃ (c : Unit), Value.int .i32 n1 = Value.int .i32 (secR g.k) ∧ w1 = w1)
(∃ (c : Unit), Value.int .i32 0 = Value.int .i32 (secR g.k) ∧ w1 = w1) ∧
∀ (u : Nat → Value) (c : Unit) (w' : World),
w' = w1 →
bcase (n == (9 : Int))
(∃ (n1 : Int),
w'.cell? ⟨b, 0, none⟩ = some (Value.int .i64 n1) ∧
∃ (b2 : Bool),
w'.cell? ⟨b, 1, none⟩ = some (Value.bool b2) ∧
∃ (n2 : Int),
w'.cell? ⟨b, 2, none⟩ = some (Value.int .i8 n2) ∧
∃ (b3 : Bool),
w'.cell? ⟨b, 3, none⟩ = some (Value.bool b3) ∧
∃ (b4 : Bool),
w'.cell? ⟨b, 4, none⟩ = some (Value.bool b4) ∧
∃ (g1 : Int × Lk),
#[Value.int .i64 g.col,
Value.agg #[Value.int .i64 n1, Value.bool b2, Value.int .i8 n2, Value.bool b3, Value.bool b4]] =
#[Value.int .i64 g1.fst,
Value.agg
#[Value.int .i64 g1.snd.tab, Value.bool g1.snd.wide, Value.int .i8 g1.snd.want, Value.bool g1.snd.join,
Value.bool g1.snd.raw]] ∧
True ∧
∀ (x : Nat) (w'1 : World),
x = stopN g1.fst g1.snd.tab ∧ Ext w' w'1 →
∃ (g2 : Nat),
#[Value.string (ByteArray.mk #[(32 : UInt8)]), Value.int .i64 (↑x : Int)] =
#[Value.string (ByteArray.mk #[(32 : UInt8)]), Value.int .i64 (↑g2 : Int)] ∧
g2 ≤ 16 ∧
∀ (x1 : ByteArray) (w'2 : World),
x1 = blankS g2 ∧ Ext w'1 w'2 →
∃ (x2 : ByteArray × Nat),
Value.tuple #[Value.string x1, Value.int .i64 (↑x : Int)] =
Value.tuple #[Value.string x2.fst, Value.int .i64 (↑x2.snd : Int)] ∧
x2 = oneC g.k g.col g.l ∧ Ext w w'2)
(bcase (n == (10 : Int) || secR g.k == (10 : Int))
(∃ (x : ByteArray × Nat),
Value.tuple #[Value.string (ByteArray.mk #[]), Value.int .i64 0] =
Value.tuple #[Value.string x.fst, Value.int .i64 (↑x.snd : Int)] ∧
x = oneC g.k g.col g.l ∧ Ext w w')
(bcase (decide (n < (32 : Int)) || n == (127 : Int))
(∀ (b2 : Nat) (w11 : World),
New w'
(Obj.cells
#[Value.int IntKind.i32
(IntKind.i32.wrap (↑(BitVec.ofInt IntKind.i32.bits n ^^^ BitVec.ofInt IntKind.i32.bits (64 : Int)).toNat : Int))]
(21 : Nat))
b2 w11 →
∃ (zs : List Int),
RunesIn w11 (some ⟨b2, 0, none⟩) (1 : Nat) zs ∧
(ByteArray.mk #[(94 : UInt8)]).size + (runesBytes zs).size ≤ 9223372036854775807 ∧
∃ (x : ByteArray × Nat),
Value.tuple #[Value.string ((ByteArray.mk #[(94 : UInt8)]) ++ runesBytes zs), Value.int .i64 2] =
Value.tuple #[Value.string x.fst, Value.int .i64 (↑x.snd : Int)] ∧
x = oneC g.k g.col g.l ∧ Ext w w11)
(bcase (decide ((128 : Int) ≤ n) && decide (n ≤ (159 : Int)))
(∃ (b2 : Bool),
w'.cell? ⟨b, 4, none⟩ = some (Value.bool b2) ∧
bcase (!b2)
(∃ (x : ByteArray × Nat),
Value.tuple #[Value.string (ByteArray.mk #[]), Value.int .i64 0] =
Value.tuple #[Value.string x.fst, Value.int .i64 (↑x.snd : Int)] ∧
x = oneC g.k g.col g.l ∧ Ext w w')
(∃ (g1 : Nat),
#[Value.int .i32 n] = #[Value.int .i32 (↑g1 : Int)] ∧
(DB w' ∧ (16 : Nat) ≤ g1 ∧ g1 ≤ 1114111) ∧
∀ (x : ByteArray) (w'1 : World),
x = nameS g1 ∧ Ext w' w'1 →
∃ (x1 : ByteArray × Nat),
Value.tuple #[Value.string x, Value.int .i64 (↑x.size : Int)] =
Value.tuple #[Value.string x1.fst, Value.int .i64 (↑x1.snd : Int)] ∧
x1 = oneC g.k g.col g.l ∧ Ext w w'1))
(bcase (n == (8232 : Int))
(bcase (n == (8232 : Int))
(∃ (b2 : Bool),
w'.cell? ⟨b, 4, none⟩ = some (Value.bool b2) ∧
bcase (!b2)
(∃ (x : ByteArray × Nat),
Value.tuple #[Value.string (ByteArray.mk #[]), Value.int .i64 0] =
Value.tuple #[Value.string x.fst, Value.int .i64 (↑x.snd : Int)] ∧
x = oneC g.k g.col g.l ∧ Ext w w')
(∃ (g1 : Nat),
#[Value.int .i32 n] = #[Value.int .i32 (↑g1 : Int)] ∧
(DB w' ∧ (16 : Nat) ≤ g1 ∧ g1 ≤ 1114111) ∧
∀ (x : ByteArray) (w'1 : World),
x = nameS g1 ∧ Ext w' w'1 →
∃ (x1 : ByteArray × Nat),
Value.tuple #[Value.string x, Value.int .i64 (↑x.size : Int)] =
Value.tuple #[Value.string x1.fst, Value.int .i64 (↑x1.snd : Int)] ∧
x1 = oneC g.k g.col g.l ∧ Ext w w'1))
(∃ (g1 : Int),
#[Value.int .i32 n] = #[Value.int .i32 g1] ∧
True ∧
∀ (x : Int) (w'1 : World),
x = kindR g1 ∧ Ext w' w'1 →
bcase (x == (2 : Int) || (n == (8204 : Int) || n == (8205 : Int)))
(∃ (hn : Nat),
(if (31 : Int) < (↑(cnt g.k) : Int) then (31 : Int) else (↑(cnt g.k) : Int)) = (↑hn : Int) ∧
hn ≤ g.c ∧
∃ (zs : List Int),
RunesIn w'1 g.a hn zs ∧
(ByteArray.mk #[(226 : UInt8), (151 : UInt8), (140 : UInt8)]).size + (runesBytes zs).size ≤ 9223372036854775807 ∧
∃ (x1 : ByteArray × Nat),
Value.tuple
#[Value.string ((ByteArray.mk #[(226 : UInt8), (151 : UInt8), (140 : UInt8)]) ++ runesBytes zs),
Value.int .i64 1] =
Value.tuple #[Value.string x1.fst, Value.int .i64 (↑x1.snd : Int)] ∧
x1 = oneC g.k g.col g.l ∧ Ext w w'1)
(∃ (b2 : Bool),
w'1.cell? ⟨b, 1, none⟩ = some (Value.bool b2) ∧
∃ (g2 : Int × Bool),
#[Value.int .i32 n, Value.bool b2] = #[Value.int .i32 g2.fst, Value.bool g2.snd] ∧
True ∧
∀ (x1 : Int) (w'2 : World),
x1 = wideR g2.fst g2.snd ∧ Ext w'1 w'2 →
(∃ (g3 : Int),
#[Value.int .i32 n] = #[Value.int .i32 g3] ∧
True ∧
∀ (x2 : Bool) (w'3 : World),
x2 = regB g3 ∧ Ext w'2 w'3 →
bcase x2
(∃ (g4 : Int),
#[Value.int .i32 (secR g.k)] = #[Value.int .i32 g4] ∧
True ∧
∀ (x3 : Bool) (w'4 : World),
x3 = regB g4 ∧ Ext w'3 w'4 →
bcase x3 (∃ (c1 : Unit), Value.bool x3 = Value.bool (twoB g.k g.l) ∧ Ext w'2 w'4)
(∃ (g5 : Int),
#[Value.int .i32 n] = #[Value.int .i32 g5] ∧
True ∧
∀ (x4 : Int) (w'5 : World),
x4 = kindR g5 ∧ Ext w'4 w'5 →
bcase (x4 == (7 : Int))
(bcase (x1 == (1 : Int))
(∃ (c1 : Unit), Value.bool (secR g.k == (65039 : Int)) = Value.bool (twoB g.k g.l) ∧ Ext w'2 w'5)
(∃ (c1 : Unit), Value.bool false = Value.bool (twoB g.k g.l) ∧ Ext w'2 w'5))
(∃ (c1 : Unit), Value.bool false = Value.bool (twoB g.k g.l) ∧ Ext w'2 w'5)))
(∃ (g4 : Int),
#[Value.int .i32 n] = #[Value.int .i32 g4] ∧
True ∧
∀ (x3 : Int) (w'4 : World),
x3 = kindR g4 ∧ Ext w'3 w'4 →
bcase (x3 == (7 : Int))
(bcase (x1 == (1 : Int))
(∃ (c1 : Unit), Value.bool (secR g.k == (65039 : Int)) = Value.bool (twoB g.k g.l) ∧ Ext w'2 w'4)
(∃ (c1 : Unit), Value.bool false = Value.bool (twoB g.k g.l) ∧ Ext w'2 w'4))
(∃ (c1 : Unit), Value.bool false = Value.bool (twoB g.k g.l) ∧ Ext w'2 w'4))) ∧
∀ (u1 : Nat → Value) (c1 : Unit) (w'3 : World),
Ext w'2 w'3 →
bcase (twoB g.k g.l)
(∃ (x2 : ByteArray × Nat),
Value.tuple #[Value.string g.k, Value.int .i64 2] =
Value.tuple #[Value.string x2.fst, Value.int .i64 (↑x2.snd : Int)] ∧
x2 = oneC g.k g.col g.l ∧ Ext w w'3)
(bcase (x1 == (0 : Int))
(∃ (x2 : ByteArray × Nat),
Value.tuple #[Value.string (ByteArray.mk #[]), Value.int .i64 0] =
Value.tuple #[Value.string x2.fst, Value.int .i64 (↑x2.snd : Int)] ∧
x2 = oneC g.k g.col g.l ∧ Ext w w'3)
(∃ (x2 : ByteArray × Nat),
Value.tuple #[Value.string g.k, Value.int .i64 x1] =
Value.tuple #[Value.string x2.fst, Value.int .i64 (↑x2.snd : Int)] ∧
x2 = oneC g.k g.col g.l ∧ Ext w w'3)))))
(bcase (n == (8233 : Int))
(bcase (n == (8233 : Int))
(∃ (b2 : Bool),
w'.cell? ⟨b, 4, none⟩ = some (Value.bool b2) ∧
bcase (!b2)
(∃ (x : ByteArray × Nat),
Value.tuple #[Value.string (ByteArray.mk #[]), Value.int .i64 0] =
Value.tuple #[Value.string x.fst, Value.int .i64 (↑x.snd : Int)] ∧
x = oneC g.k g.col g.l ∧ Ext w w')
(∃ (g1 : Nat),
#[Value.int .i32 n] = #[Value.int .i32 (↑g1 : Int)] ∧
(DB w' ∧ (16 : Nat) ≤ g1 ∧ g1 ≤ 1114111) ∧
∀ (x : ByteArray) (w'1 : World),
x = nameS g1 ∧ Ext w' w'1 →
∃ (x1 : ByteArray × Nat),
Value.tuple #[Value.string x, Value.int .i64 (↑x.size : Int)] =
Value.tuple #[Value.string x1.fst, Value.int .i64 (↑x1.snd : Int)] ∧
x1 = oneC g.k g.col g.l ∧ Ext w w'1))
(∃ (g1 : Int),
#[Value.int .i32 n] = #[Value.int .i32 g1] ∧
True ∧
∀ (x : Int) (w'1 : World),
x = kindR g1 ∧ Ext w' w'1 →
bcase (x == (2 : Int) || (n == (8204 : Int) || n == (8205 : Int)))
(∃ (hn : Nat),
(if (31 : Int) < (↑(cnt g.k) : Int) then (31 : Int) else (↑(cnt g.k) : Int)) = (↑hn : Int) ∧
hn ≤ g.c ∧
∃ (zs : List Int),
RunesIn w'1 g.a hn zs ∧
(ByteArray.mk #[(226 : UInt8), (151 : UInt8), (140 : UInt8)]).size + (runesBytes zs).size ≤ 9223372036854775807 ∧
∃ (x1 : ByteArray × Nat),
Value.tuple
#[Value.string ((ByteArray.mk #[(226 : UInt8), (151 : UInt8), (140 : UInt8)]) ++ runesBytes zs),
Value.int .i64 1] =
Value.tuple #[Value.string x1.fst, Value.int .i64 (↑x1.snd : Int)] ∧
x1 = oneC g.k g.col g.l ∧ Ext w w'1)
(∃ (b2 : Bool),
w'1.cell? ⟨b, 1, none⟩ = some (Value.bool b2) ∧
∃ (g2 : Int × Bool),
#[Value.int .i32 n, Value.bool b2] = #[Value.int .i32 g2.fst, Value.bool g2.snd] ∧
True ∧
∀ (x1 : Int) (w'2 : World),
x1 = wideR g2.fst g2.snd ∧ Ext w'1 w'2 →
(∃ (g3 : Int),
#[Value.int .i32 n] = #[Value.int .i32 g3] ∧
True ∧
∀ (x2 : Bool) (w'3 : World),
x2 = regB g3 ∧ Ext w'2 w'3 →
bcase x2
(∃ (g4 : Int),
#[Value.int .i32 (secR g.k)] = #[Value.int .i32 g4] ∧
True ∧
∀ (x3 : Bool) (w'4 : World),
x3 = regB g4 ∧ Ext w'3 w'4 →
bcase x3 (∃ (c1 : Unit), Value.bool x3 = Value.bool (twoB g.k g.l) ∧ Ext w'2 w'4)
(∃ (g5 : Int),
#[Value.int .i32 n] = #[Value.int .i32 g5] ∧
True ∧
∀ (x4 : Int) (w'5 : World),
x4 = kindR g5 ∧ Ext w'4 w'5 →
bcase (x4 == (7 : Int))
(bcase (x1 == (1 : Int))
(∃ (c1 : Unit), Value.bool (secR g.k == (65039 : Int)) = Value.bool (twoB g.k g.l) ∧ Ext w'2 w'5)
(∃ (c1 : Unit), Value.bool false = Value.bool (twoB g.k g.l) ∧ Ext w'2 w'5))
(∃ (c1 : Unit), Value.bool false = Value.bool (twoB g.k g.l) ∧ Ext w'2 w'5)))
(∃ (g4 : Int),
#[Value.int .i32 n] = #[Value.int .i32 g4] ∧
True ∧
∀ (x3 : Int) (w'4 : World),
x3 = kindR g4 ∧ Ext w'3 w'4 →
bcase (x3 == (7 : Int))
(bcase (x1 == (1 : Int))
(∃ (c1 : Unit), Value.bool (secR g.k == (65039 : Int)) = Value.bool (twoB g.k g.l) ∧ Ext w'2 w'4)
(∃ (c1 : Unit), Value.bool false = Value.bool (twoB g.k g.l) ∧ Ext w'2 w'4))
(∃ (c1 : Unit), Value.bool false = Value.bool (twoB g.k g.l) ∧ Ext w'2 w'4))) ∧
∀ (u1 : Nat → Value) (c1 : Unit) (w'3 : World),
Ext w'2 w'3 →
bcase (twoB g.k g.l)
(∃ (x2 : ByteArray × Nat),
Value.tuple #[Value.string g.k, Value.int .i64 2] =
Value.tuple #[Value.string x2.fst, Value.int .i64 (↑x2.snd : Int)] ∧
x2 = oneC g.k g.col g.l ∧ Ext w w'3)
(bcase (x1 == (0 : Int))
(∃ (x2 : ByteArray × Nat),
Value.tuple #[Value.string (ByteArray.mk #[]), Value.int .i64 0] =
Value.tuple #[Value.string x2.fst, Value.int .i64 (↑x2.snd : Int)] ∧
x2 = oneC g.k g.col g.l ∧ Ext w w'3)
(∃ (x2 : ByteArray × Nat),
Value.tuple #[Value.string g.k, Value.int .i64 x1] =
Value.tuple #[Value.string x2.fst, Value.int .i64 (↑x2.snd : Int)] ∧
x2 = oneC g.k g.col g.l ∧ Ext w w'3)))))
(∃ (g1 : Int),
#[Value.int .i32 n] = #[Value.int .i32 g1] ∧
True ∧
∀ (x : Int) (w'1 : World),
x = kindR g1 ∧ Ext w' w'1 →
bcase (x == (1 : Int))
(bcase (n != (8204 : Int))
(bcase (n != (8205 : Int))
(∃ (b2 : Bool),
w'1.cell? ⟨b, 4, none⟩ = some (Value.bool b2) ∧
bcase (!b2)
(∃ (x1 : ByteArray × Nat),
Value.tuple #[Value.string (ByteArray.mk #[]), Value.int .i64 0] =
Value.tuple #[Value.string x1.fst, Value.int .i64 (↑x1.snd : Int)] ∧
x1 = oneC g.k g.col g.l ∧ Ext w w'1)
(∃ (g2 : Nat),
#[Value.int .i32 n] = #[Value.int .i32 (↑g2 : Int)] ∧
(DB w'1 ∧ (16 : Nat) ≤ g2 ∧ g2 ≤ 1114111) ∧
∀ (x1 : ByteArray) (w'2 : World),
x1 = nameS g2 ∧ Ext w'1 w'2 →
∃ (x2 : ByteArray × Nat),
Value.tuple #[Value.string x1, Value.int .i64 (↑x1.size : Int)] =
Value.tuple #[Value.string x2.fst, Value.int .i64 (↑x2.snd : Int)] ∧
x2 = oneC g.k g.col g.l ∧ Ext w w'2))
(∃ (g2 : Int),
#[Value.int .i32 n] = #[Value.int .i32 g2] ∧
True ∧
∀ (x1 : Int) (w'2 : World),
x1 = kindR g2 ∧ Ext w'1 w'2 →
bcase (x1 == (2 : Int) || (n == (8204 : Int) || n == (8205 : Int)))
(∃ (hn : Nat),
(if (31 : Int) < (↑(cnt g.k) : Int) then (31 : Int) else (↑(cnt g.k) : Int)) = (↑hn : Int) ∧
hn ≤ g.c ∧
∃ (zs : List Int),
RunesIn w'2 g.a hn zs ∧
(ByteArray.mk #[(226 : UInt8), (151 : UInt8), (140 : UInt8)]).size + (runesBytes zs).size ≤ 9223372036854775807 ∧
∃ (x2 : ByteArray × Nat),
Value.tuple
#[Value.string ((ByteArray.mk #[(226 : UInt8), (151 : UInt8), (140 : UInt8)]) ++ runesBytes zs),
Value.int .i64 1] =
Value.tuple #[Value.string x2.fst, Value.int .i64 (↑x2.snd : Int)] ∧
x2 = oneC g.k g.col g.l ∧ Ext w w'2)
(∃ (b2 : Bool),
w'2.cell? ⟨b, 1, none⟩ = some (Value.bool b2) ∧
∃ (g3 : Int × Bool),
#[Value.int .i32 n, Value.bool b2] = #[Value.int .i32 g3.fst, Value.bool g3.snd] ∧
True ∧
∀ (x2 : Int) (w'3 : World),
x2 = wideR g3.fst g3.snd ∧ Ext w'2 w'3 →
(∃ (g4 : Int),
#[Value.int .i32 n] = #[Value.int .i32 g4] ∧
True ∧
∀ (x3 : Bool) (w'4 : World),
x3 = regB g4 ∧ Ext w'3 w'4 →
bcase x3
(∃ (g5 : Int),
#[Value.int .i32 (secR g.k)] = #[Value.int .i32 g5] ∧
True ∧
∀ (x4 : Bool) (w'5 : World),
x4 = regB g5 ∧ Ext w'4 w'5 →
bcase x4 (∃ (c1 : Unit), Value.bool x4 = Value.bool (twoB g.k g.l) ∧ Ext w'3 w'5)
(∃ (g6 : Int),
#[Value.int .i32 n] = #[Value.int .i32 g6] ∧
True ∧
∀ (x5 : Int) (w'6 : World),
x5 = kindR g6 ∧ Ext w'5 w'6 →
bcase (x5 == (7 : Int))
(bcase (x2 == (1 : Int))
(∃ (c1 : Unit), Value.bool (secR g.k == (65039 : Int)) = Value.bool (twoB g.k g.l) ∧ Ext w'3 w'6)
(∃ (c1 : Unit), Value.bool false = Value.bool (twoB g.k g.l) ∧ Ext w'3 w'6))
(∃ (c1 : Unit), Value.bool false = Value.bool (twoB g.k g.l) ∧ Ext w'3 w'6)))
(∃ (g5 : Int),
#[Value.int .i32 n] = #[Value.int .i32 g5] ∧
True ∧
∀ (x4 : Int) (w'5 : World),
x4 = kindR g5 ∧ Ext w'4 w'5 →
bcase (x4 == (7 : Int))
(bcase (x2 == (1 : Int))
(∃ (c1 : Unit), Value.bool (secR g.k == (65039 : Int)) = Value.bool (twoB g.k g.l) ∧ Ext w'3 w'5)
(∃ (c1 : Unit), Value.bool false = Value.bool (twoB g.k g.l) ∧ Ext w'3 w'5))
(∃ (c1 : Unit), Value.bool false = Value.bool (twoB g.k g.l) ∧ Ext w'3 w'5))) ∧
∀ (u1 : Nat → Value) (c1 : Unit) (w'4 : World),
Ext w'3 w'4 →
bcase (twoB g.k g.l)
(∃ (x3 : ByteArray × Nat),
Value.tuple #[Value.string g.k, Value.int .i64 2] =
Value.tuple #[Value.string x3.fst, Value.int .i64 (↑x3.snd : Int)] ∧
x3 = oneC g.k g.col g.l ∧ Ext w w'4)
(bcase (x2 == (0 : Int))
(∃ (x3 : ByteArray × Nat),
Value.tuple #[Value.string (ByteArray.mk #[]), Value.int .i64 0] =
Value.tuple #[Value.string x3.fst, Value.int .i64 (↑x3.snd : Int)] ∧
x3 = oneC g.k g.col g.l ∧ Ext w w'4)
(∃ (x3 : ByteArray × Nat),
Value.tuple #[Value.string g.k, Value.int .i64 x2] =
Value.tuple #[Value.string x3.fst, Value.int .i64 (↑x3.snd : Int)] ∧
x3 = oneC g.k g.col g.l ∧ Ext w w'4)))))
(∃ (g2 : Int),
#[Value.int .i32 n] = #[Value.int .i32 g2] ∧
True ∧
∀ (x1 : Int) (w'2 : World),
x1 = kindR g2 ∧ Ext w'1 w'2 →
bcase (x1 == (2 : Int) || (n == (8204 : Int) || n == (8205 : Int)))
(∃ (hn : Nat),
(if (31 : Int) < (↑(cnt g.k) : Int) then (31 : Int) else (↑(cnt g.k) : Int)) = (↑hn : Int) ∧
hn ≤ g.c ∧
∃ (zs : List Int),
RunesIn w'2 g.a hn zs ∧
(ByteArray.mk #[(226 : UInt8), (151 : UInt8), (140 : UInt8)]).size + (runesBytes zs).size ≤ 9223372036854775807 ∧
∃ (x2 : ByteArray × Nat),
Value.tuple
#[Value.string ((ByteArray.mk #[(226 : UInt8), (151 : UInt8), (140 : UInt8)]) ++ runesBytes zs),
Value.int .i64 1] =
Value.tuple #[Value.string x2.fst, Value.int .i64 (↑x2.snd : Int)] ∧
x2 = oneC g.k g.col g.l ∧ Ext w w'2)
(∃ (b2 : Bool),
w'2.cell? ⟨b, 1, none⟩ = some (Value.bool b2) ∧
∃ (g3 : Int × Bool),
#[Value.int .i32 n, Value.bool b2] = #[Value.int .i32 g3.fst, Value.bool g3.snd] ∧
True ∧
∀ (x2 : Int) (w'3 : World),
x2 = wideR g3.fst g3.snd ∧ Ext w'2 w'3 →
(∃ (g4 : Int),
#[Value.int .i32 n] = #[Value.int .i32 g4] ∧
True ∧
∀ (x3 : Bool) (w'4 : World),
x3 = regB g4 ∧ Ext w'3 w'4 →
bcase x3
(∃ (g5 : Int),
#[Value.int .i32 (secR g.k)] = #[Value.int .i32 g5] ∧
True ∧
∀ (x4 : Bool) (w'5 : World),
x4 = regB g5 ∧ Ext w'4 w'5 →
bcase x4 (∃ (c1 : Unit), Value.bool x4 = Value.bool (twoB g.k g.l) ∧ Ext w'3 w'5)
(∃ (g6 : Int),
#[Value.int .i32 n] = #[Value.int .i32 g6] ∧
True ∧
∀ (x5 : Int) (w'6 : World),
x5 = kindR g6 ∧ Ext w'5 w'6 →
bcase (x5 == (7 : Int))
(bcase (x2 == (1 : Int))
(∃ (c1 : Unit), Value.bool (secR g.k == (65039 : Int)) = Value.bool (twoB g.k g.l) ∧ Ext w'3 w'6)
(∃ (c1 : Unit), Value.bool false = Value.bool (twoB g.k g.l) ∧ Ext w'3 w'6))
(∃ (c1 : Unit), Value.bool false = Value.bool (twoB g.k g.l) ∧ Ext w'3 w'6)))
(∃ (g5 : Int),
#[Value.int .i32 n] = #[Value.int .i32 g5] ∧
True ∧
∀ (x4 : Int) (w'5 : World),
x4 = kindR g5 ∧ Ext w'4 w'5 →
bcase (x4 == (7 : Int))
(bcase (x2 == (1 : Int))
(∃ (c1 : Unit), Value.bool (secR g.k == (65039 : Int)) = Value.bool (twoB g.k g.l) ∧ Ext w'3 w'5)
(∃ (c1 : Unit), Value.bool false = Value.bool (twoB g.k g.l) ∧ Ext w'3 w'5))
(∃ (c1 : Unit), Value.bool false = Value.bool (twoB g.k g.l) ∧ Ext w'3 w'5))) ∧
∀ (u1 : Nat → Value) (c1 : Unit) (w'4 : World),
Ext w'3 w'4 →
bcase (twoB g.k g.l)
(∃ (x3 : ByteArray × Nat),
Value.tuple #[Value.string g.k, Value.int .i64 2] =
Value.tuple #[Value.string x3.fst, Value.int .i64 (↑x3.snd : Int)] ∧
x3 = oneC g.k g.col g.l ∧ Ext w w'4)
(bcase (x2 == (0 : Int))
(∃ (x3 : ByteArray × Nat),
Value.tuple #[Value.string (ByteArray.mk #[]), Value.int .i64 0] =
Value.tuple #[Value.string x3.fst, Value.int .i64 (↑x3.snd : Int)] ∧
x3 = oneC g.k g.col g.l ∧ Ext w w'4)
(∃ (x3 : ByteArray × Nat),
Value.tuple #[Value.string g.k, Value.int .i64 x2] =
Value.tuple #[Value.string x3.fst, Value.int .i64 (↑x3.snd : Int)] ∧
x3 = oneC g.k g.col g.l ∧ Ext w w'4)))))
(∃ (g2 : Int),
#[Value.int .i32 n] = #[Value.int .i32 g2] ∧
True ∧
∀ (x1 : Int) (w'2 : World),
x1 = kindR g2 ∧ Ext w'1 w'2 →
bcase (x1 == (2 : Int) || (n == (8204 : Int) || n == (8205 : Int)))
(∃ (hn : Nat),
(if (31 : Int) < (↑(cnt g.k) : Int) then (31 : Int) else (↑(cnt g.k) : Int)) = (↑hn : Int) ∧
hn ≤ g.c ∧
∃ (zs : List Int),
RunesIn w'2 g.a hn zs ∧
(ByteArray.mk #[(226 : UInt8), (151 : UInt8), (140 : UInt8)]).size + (runesBytes zs).size ≤ 9223372036854775807 ∧
∃ (x2 : ByteArray × Nat),
Value.tuple
#[Value.string ((ByteArray.mk #[(226 : UInt8), (151 : UInt8), (140 : UInt8)]) ++ runesBytes zs),
Value.int .i64 1] =
Value.tuple #[Value.string x2.fst, Value.int .i64 (↑x2.snd : Int)] ∧
x2 = oneC g.k g.col g.l ∧ Ext w w'2)
(∃ (b2 : Bool),
w'2.cell? ⟨b, 1, none⟩ = some (Value.bool b2) ∧
∃ (g3 : Int × Bool),
#[Value.int .i32 n, Value.bool b2] = #[Value.int .i32 g3.fst, Value.bool g3.snd] ∧
True ∧
∀ (x2 : Int) (w'3 : World),
x2 = wideR g3.fst g3.snd ∧ Ext w'2 w'3 →
(∃ (g4 : Int),
#[Value.int .i32 n] = #[Value.int .i32 g4] ∧
True ∧
∀ (x3 : Bool) (w'4 : World),
x3 = regB g4 ∧ Ext w'3 w'4 →
bcase x3
(∃ (g5 : Int),
#[Value.int .i32 (secR g.k)] = #[Value.int .i32 g5] ∧
True ∧
∀ (x4 : Bool) (w'5 : World),
x4 = regB g5 ∧ Ext w'4 w'5 →
bcase x4 (∃ (c1 : Unit), Value.bool x4 = Value.bool (twoB g.k g.l) ∧ Ext w'3 w'5)
(∃ (g6 : Int),
#[Value.int .i32 n] = #[Value.int .i32 g6] ∧
True ∧
∀ (x5 : Int) (w'6 : World),
x5 = kindR g6 ∧ Ext w'5 w'6 →
bcase (x5 == (7 : Int))
(bcase (x2 == (1 : Int))
(∃ (c1 : Unit), Value.bool (secR g.k == (65039 : Int)) = Value.bool (twoB g.k g.l) ∧ Ext w'3 w'6)
(∃ (c1 : Unit), Value.bool false = Value.bool (twoB g.k g.l) ∧ Ext w'3 w'6))
(∃ (c1 : Unit), Value.bool false = Value.bool (twoB g.k g.l) ∧ Ext w'3 w'6)))
(∃ (g5 : Int),
#[Value.int .i32 n] = #[Value.int .i32 g5] ∧
True ∧
∀ (x4 : Int) (w'5 : World),
x4 = kindR g5 ∧ Ext w'4 w'5 →
bcase (x4 == (7 : Int))
(bcase (x2 == (1 : Int))
(∃ (c1 : Unit), Value.bool (secR g.k == (65039 : Int)) = Value.bool (twoB g.k g.l) ∧ Ext w'3 w'5)
(∃ (c1 : Unit), Value.bool false = Value.bool (twoB g.k g.l) ∧ Ext w'3 w'5))
(∃ (c1 : Unit), Value.bool false = Value.bool (twoB g.k g.l) ∧ Ext w'3 w'5))) ∧
∀ (u1 : Nat → Value) (c1 : Unit) (w'4 : World),
Ext w'3 w'4 →
bcase (twoB g.k g.l)
(∃ (x3 : ByteArray × Nat),
Value.tuple #[Value.string g.k, Value.int .i64 2] =
Value.tuple #[Value.string x3.fst, Value.int .i64 (↑x3.snd : Int)] ∧
x3 = oneC g.k g.col g.l ∧ Ext w w'4)
(bcase (x2 == (0 : Int))
(∃ (x3 : ByteArray × Nat),
Value.tuple #[Value.string (ByteArray.mk #[]), Value.int .i64 0] =
Value.tuple #[Value.string x3.fst, Value.int .i64 (↑x3.snd : Int)] ∧
x3 = oneC g.k g.col g.l ∧ Ext w w'4)
(∃ (x3 : ByteArray × Nat),
Value.tuple #[Value.string g.k, Value.int .i64 x2] =
Value.tuple #[Value.string x3.fst, Value.int .i64 (↑x3.snd : Int)] ∧
x3 = oneC g.k g.col g.l ∧ Ext w w'4))))))))))) :
    ((sOneL true)).Ok Tryd.prog 45 :=
  ok_of_vc (sOneL true) annOneT spOneP (fun _ _ => rfl) (fun _ _ => rfl) hsp Tryd.func45 rfl (n := 4) (fun _ => rfl) (by kernel_rfl) (vcast (by kernel_rfl) h)
set_option maxRecDepth 1000000 in
theorem oneF_vc (hsp : SpecsOk Tryd.prog spOneP) (h : ∀ (g : GK6) (w : World),
lateB (sg g.k (0 : Nat)) = false ∧
DB w ∧
g.k.size ≤ 67108864 ∧
ncl g.k = (1 : Nat) ∧
isBad g.k (0 : Nat) = false ∧ cnt g.k ≤ g.c ∧ CellsAt w g.a (List.map (Value.int IntKind.i32) (runes g.k)) →
∀ (b : Nat) (w1 : World),
New w
(Obj.cells
#[Value.int .i64 g.l.tab, Value.bool g.l.wide, Value.int .i8 g.l.want, Value.bool g.l.join,
Value.bool g.l.raw]
(75 : Nat))
b w1 →
∃ (k : Nat),
(0 : Int) = (↑k : Int) ∧
k < cnt g.k ∧
ptrE g.a fun (b1 o : Nat) =>
∃ (n : Int),
w1.cell? ⟨b1, o + k, none⟩ = some (Value.int .i32 n) ∧
bcase (decide ((↑(cnt g.k) : Int) > (1 : Int)))
(∃ (k1 : Nat),
(1 : Int) = (↑k1 : Int) ∧
k1 < cnt g.k ∧
ptrE g.a fun (b2 o1 : Nat) =>
∃ (n1 : Int),
w1.cell? ⟨b2, o1 + k1, none⟩ = some (Value.int .i32 n1) ∧
∃ (c : Unit), Value.int .i32 n1 = Value.int .i32 (secR g.k) ∧ w1 = w1)
(∃ (c : Unit), Value.int .i32 0 = Value.int .i32 (secR g.k) ∧ w1 = w1) ∧
∀ (u : Nat → Value) (c : Unit) (w' : World),
w' = w1 →
bcase (n == (9 : Int))
(∃ (n1 : Int),
w'.cell? ⟨b, 0, none⟩ = some (Value.int .i64 n1) ∧
∃ (b2 : Bool),
w'.cell? ⟨b, 1, none⟩ = some (Value.bool b2) ∧
∃ (n2 : Int),
w'.cell? ⟨b, 2, none⟩ = some (Value.int .i8 n2) ∧
∃ (b3 : Bool),
w'.cell? ⟨b, 3, none⟩ = some (Value.bool b3) ∧
∃ (b4 : Bool),
w'.cell? ⟨b, 4, none⟩ = some (Value.bool b4) ∧
∃ (g1 : Int × Lk),
#[Value.int .i64 g.col,
Value.agg #[Value.int .i64 n1, Value.bool b2, Value.int .i8 n2, Value.bool b3, Value.bool b4]] =
#[Value.int .i64 g1.fst,
Value.agg
#[Value.int .i64 g1.snd.tab, Value.bool g1.snd.wide, Value.int .i8 g1.snd.want, Value.bool g1.snd.join,
Value.bool g1.snd.raw]] ∧
True ∧
∀ (x : Nat) (w'1 : World),
x = stopN g1.fst g1.snd.tab ∧ Ext w' w'1 →
∃ (g2 : Nat),
#[Value.string (ByteArray.mk #[(32 : UInt8)]), Value.int .i64 (↑x : Int)] =
#[Value.string (ByteArray.mk #[(32 : UInt8)]), Value.int .i64 (↑g2 : Int)] ∧
g2 ≤ 16 ∧
∀ (x1 : ByteArray) (w'2 : World),
x1 = blankS g2 ∧ Ext w'1 w'2 →
∃ (x2 : ByteArray × Nat),
Value.tuple #[Value.string x1, Value.int .i64 (↑x : Int)] =
Value.tuple #[Value.string x2.fst, Value.int .i64 (↑x2.snd : Int)] ∧
x2 = oneC g.k g.col g.l ∧ Ext w w'2)
(bcase (n == (10 : Int) || secR g.k == (10 : Int))
(∃ (x : ByteArray × Nat),
Value.tuple #[Value.string (ByteArray.mk #[]), Value.int .i64 0] =
Value.tuple #[Value.string x.fst, Value.int .i64 (↑x.snd : Int)] ∧
x = oneC g.k g.col g.l ∧ Ext w w')
(bcase (decide (n < (32 : Int)) || n == (127 : Int))
(∀ (b2 : Nat) (w11 : World),
New w'
(Obj.cells
#[Value.int IntKind.i32
(IntKind.i32.wrap (↑(BitVec.ofInt IntKind.i32.bits n ^^^ BitVec.ofInt IntKind.i32.bits (64 : Int)).toNat : Int))]
(21 : Nat))
b2 w11 →
∃ (zs : List Int),
RunesIn w11 (some ⟨b2, 0, none⟩) (1 : Nat) zs ∧
(ByteArray.mk #[(94 : UInt8)]).size + (runesBytes zs).size ≤ 9223372036854775807 ∧
∃ (x : ByteArray × Nat),
Value.tuple #[Value.string ((ByteArray.mk #[(94 : UInt8)]) ++ runesBytes zs), Value.int .i64 2] =
Value.tuple #[Value.string x.fst, Value.int .i64 (↑x.snd : Int)] ∧
x = oneC g.k g.col g.l ∧ Ext w w11)
(bcase (decide ((128 : Int) ≤ n) && decide (n ≤ (159 : Int)))
(∃ (b2 : Bool),
w'.cell? ⟨b, 4, none⟩ = some (Value.bool b2) ∧
bcase (!b2)
(∃ (x : ByteArray × Nat),
Value.tuple #[Value.string (ByteArray.mk #[]), Value.int .i64 0] =
Value.tuple #[Value.string x.fst, Value.int .i64 (↑x.snd : Int)] ∧
x = oneC g.k g.col g.l ∧ Ext w w')
(∃ (g1 : Nat),
#[Value.int .i32 n] = #[Value.int .i32 (↑g1 : Int)] ∧
(DB w' ∧ (16 : Nat) ≤ g1 ∧ g1 ≤ 1114111) ∧
∀ (x : ByteArray) (w'1 : World),
x = nameS g1 ∧ Ext w' w'1 →
∃ (x1 : ByteArray × Nat),
Value.tuple #[Value.string x, Value.int .i64 (↑x.size : Int)] =
Value.tuple #[Value.string x1.fst, Value.int .i64 (↑x1.snd : Int)] ∧
x1 = oneC g.k g.col g.l ∧ Ext w w'1))
((bcase (n == (8232 : Int))
(∃ (c1 : Unit), Value.bool (n == (8232 : Int)) = Value.bool (lateB (sg g.k (0 : Nat))) ∧ Ext w' w')
(bcase (n == (8233 : Int))
(∃ (c1 : Unit), Value.bool (n == (8233 : Int)) = Value.bool (lateB (sg g.k (0 : Nat))) ∧ Ext w' w')
(∃ (g1 : Int),
#[Value.int .i32 n] = #[Value.int .i32 g1] ∧
True ∧
∀ (x : Int) (w'1 : World),
x = kindR g1 ∧ Ext w' w'1 →
bcase (x == (1 : Int))
(bcase (n != (8204 : Int))
(∃ (c1 : Unit), Value.bool (n != (8205 : Int)) = Value.bool (lateB (sg g.k (0 : Nat))) ∧ Ext w' w'1)
(∃ (c1 : Unit), Value.bool false = Value.bool (lateB (sg g.k (0 : Nat))) ∧ Ext w' w'1))
(∃ (c1 : Unit), Value.bool false = Value.bool (lateB (sg g.k (0 : Nat))) ∧ Ext w' w'1))) ∧
∀ (u1 : Nat → Value) (c1 : Unit) (w'1 : World),
Ext w' w'1 →
bcase (lateB (sg g.k (0 : Nat)))
(∃ (b2 : Bool),
w'1.cell? ⟨b, 4, none⟩ = some (Value.bool b2) ∧
bcase (!b2)
(∃ (x : ByteArray × Nat),
Value.tuple #[Value.string (ByteArray.mk #[]), Value.int .i64 0] =
Value.tuple #[Value.string x.fst, Value.int .i64 (↑x.snd : Int)] ∧
x = oneC g.k g.col g.l ∧ Ext w w'1)
(∃ (g1 : Nat),
#[Value.int .i32 n] = #[Value.int .i32 (↑g1 : Int)] ∧
(DB w'1 ∧ (16 : Nat) ≤ g1 ∧ g1 ≤ 1114111) ∧
∀ (x : ByteArray) (w'2 : World),
x = nameS g1 ∧ Ext w'1 w'2 →
∃ (x1 : ByteArray × Nat),
Value.tuple #[Value.string x, Value.int .i64 (↑x.size : Int)] =
Value.tuple #[Value.string x1.fst, Value.int .i64 (↑x1.snd : Int)] ∧
x1 = oneC g.k g.col g.l ∧ Ext w w'2))
(∃ (c2 : Unit), Value.bool (lateB (sg g.k (0 : Nat))) = Value.bool (lateB (sg g.k (0 : Nat))) ∧ Ext w' w'1)) ∧
∀ (u1 : Nat → Value) (c1 : Unit) (w'1 : World),
Ext w' w'1 →
∃ (g1 : Int),
#[Value.int .i32 n] = #[Value.int .i32 g1] ∧
True ∧
∀ (x : Int) (w'2 : World),
x = kindR g1 ∧ Ext w'1 w'2 →
bcase (x == (2 : Int) || (n == (8204 : Int) || n == (8205 : Int)))
(∃ (hn : Nat),
(if (31 : Int) < (↑(cnt g.k) : Int) then (31 : Int) else (↑(cnt g.k) : Int)) = (↑hn : Int) ∧
hn ≤ g.c ∧
∃ (zs : List Int),
RunesIn w'2 g.a hn zs ∧
(ByteArray.mk #[(226 : UInt8), (151 : UInt8), (140 : UInt8)]).size + (runesBytes zs).size ≤ 9223372036854775807 ∧
∃ (x1 : ByteArray × Nat),
Value.tuple
#[Value.string ((ByteArray.mk #[(226 : UInt8), (151 : UInt8), (140 : UInt8)]) ++ runesBytes zs),
Value.int .i64 1] =
Value.tuple #[Value.string x1.fst, Value.int .i64 (↑x1.snd : Int)] ∧
x1 = oneC g.k g.col g.l ∧ Ext w w'2)
(∃ (b2 : Bool),
w'2.cell? ⟨b, 1, none⟩ = some (Value.bool b2) ∧
∃ (g2 : Int × Bool),
#[Value.int .i32 n, Value.bool b2] = #[Value.int .i32 g2.fst, Value.bool g2.snd] ∧
True ∧
∀ (x1 : Int) (w'3 : World),
x1 = wideR g2.fst g2.snd ∧ Ext w'2 w'3 →
(∃ (g3 : Int),
#[Value.int .i32 n] = #[Value.int .i32 g3] ∧
True ∧
∀ (x2 : Bool) (w'4 : World),
x2 = regB g3 ∧ Ext w'3 w'4 →
bcase x2
(∃ (g4 : Int),
#[Value.int .i32 (secR g.k)] = #[Value.int .i32 g4] ∧
True ∧
∀ (x3 : Bool) (w'5 : World),
x3 = regB g4 ∧ Ext w'4 w'5 →
bcase x3 (∃ (c2 : Unit), Value.bool x3 = Value.bool (twoB g.k g.l) ∧ Ext w'3 w'5)
(∃ (g5 : Int),
#[Value.int .i32 n] = #[Value.int .i32 g5] ∧
True ∧
∀ (x4 : Int) (w'6 : World),
x4 = kindR g5 ∧ Ext w'5 w'6 →
bcase (x4 == (7 : Int))
(bcase (x1 == (1 : Int))
(∃ (c2 : Unit), Value.bool (secR g.k == (65039 : Int)) = Value.bool (twoB g.k g.l) ∧ Ext w'3 w'6)
(∃ (c2 : Unit), Value.bool false = Value.bool (twoB g.k g.l) ∧ Ext w'3 w'6))
(∃ (c2 : Unit), Value.bool false = Value.bool (twoB g.k g.l) ∧ Ext w'3 w'6)))
(∃ (g4 : Int),
#[Value.int .i32 n] = #[Value.int .i32 g4] ∧
True ∧
∀ (x3 : Int) (w'5 : World),
x3 = kindR g4 ∧ Ext w'4 w'5 →
bcase (x3 == (7 : Int))
(bcase (x1 == (1 : Int))
(∃ (c2 : Unit), Value.bool (secR g.k == (65039 : Int)) = Value.bool (twoB g.k g.l) ∧ Ext w'3 w'5)
(∃ (c2 : Unit), Value.bool false = Value.bool (twoB g.k g.l) ∧ Ext w'3 w'5))
(∃ (c2 : Unit), Value.bool false = Value.bool (twoB g.k g.l) ∧ Ext w'3 w'5))) ∧
∀ (u2 : Nat → Value) (c2 : Unit) (w'4 : World),
Ext w'3 w'4 →
bcase (twoB g.k g.l)
(∃ (x2 : ByteArray × Nat),
Value.tuple #[Value.string g.k, Value.int .i64 2] =
Value.tuple #[Value.string x2.fst, Value.int .i64 (↑x2.snd : Int)] ∧
x2 = oneC g.k g.col g.l ∧ Ext w w'4)
(bcase (x1 == (0 : Int))
(∃ (x2 : ByteArray × Nat),
Value.tuple #[Value.string (ByteArray.mk #[]), Value.int .i64 0] =
Value.tuple #[Value.string x2.fst, Value.int .i64 (↑x2.snd : Int)] ∧
x2 = oneC g.k g.col g.l ∧ Ext w w'4)
(∃ (x2 : ByteArray × Nat),
Value.tuple #[Value.string g.k, Value.int .i64 x1] =
Value.tuple #[Value.string x2.fst, Value.int .i64 (↑x2.snd : Int)] ∧
x2 = oneC g.k g.col g.l ∧ Ext w w'4)))))))) :
    ((sOneL false)).Ok Tryd.prog 45 :=
  ok_of_vc (sOneL false) annOneF spOneP (fun _ _ => rfl) (fun _ _ => rfl) hsp Tryd.func45 rfl (n := 4) (fun _ => rfl) (by kernel_rfl) (vcast (by kernel_rfl) h)
set_option maxRecDepth 1000000 in
theorem textP_vc (hsp : SpecsOk Tryd.prog spTextP) (h : ∀ (g : GT6) (w : World),
U8 w ∧ DB w ∧ g.s.size ≤ 67108864 →
∀ (b : Nat) (w1 : World),
New w
(Obj.cells
#[Value.int .i64 g.l.tab, Value.bool g.l.wide, Value.int .i8 g.l.want, Value.bool g.l.join,
Value.bool g.l.raw]
(75 : Nat))
b w1 →
∃ (g1 : ByteArray),
#[Value.string g.s] = #[Value.string g1] ∧
(U8 w1 ∧ g1.size ≤ 67108864) ∧
∀ (x : Nat) (w' : World),
x = nextL g1 ∧ Ext w1 w' →
∃ (k : Nat),
(↑x : Int) = (↑k : Int) ∧
(0 : Nat) ≤ k ∧
k ≤ g.s.size ∧
bcase ((g.s.extract (0 : Nat) k).toList == (ByteArray.mk #[]).toList)
(∃ (x1 : ByteArray × Nat),
Value.tuple #[Value.string (ByteArray.mk #[]), Value.int .i64 0] =
Value.tuple #[Value.string x1.fst, Value.int .i64 (↑x1.snd : Int)] ∧
x1 = textC g.s g.col g.l ∧ Ext w w')
(∃ (g2 : ByteArray),
#[Value.string (g.s.extract (0 : Nat) k)] = #[Value.string g2] ∧
(U8 w' ∧ g2.size ≤ 67108864) ∧
∀ (x1 : Int × Nat) (w'1 : World),
x1.fst = nxR g2 ∧ x1.snd = nxN g2 ∧ Ext w' w'1 →
bcase (x1.fst == (65533 : Int) && (↑x1.snd : Int) == (1 : Int))
(∀ (w11 : World),
Drew w'1 w11 →
∃ (k1 : Nat),
(0 : Int) = (↑k1 : Int) ∧
k1 < (g.s.extract (0 : Nat) k).size ∧
∃ (k2 : Nat),
(↑((#[].extract (0 : Nat) (0 : Nat) ++ g.s.data.extract (0 : Nat) ((0 : Nat) + (k - (0 : Nat))) ++
#[].extract ((0 : Nat) + min (k - (0 : Nat)) (g.s.data.size - (0 : Nat)))).toList.getD
k1 (0 : UInt8)).toNat :
Int).fdiv
((2 : Int) ^ min (Int.toNat (4 : Int)) IntKind.u8.bits) =
(↑k2 : Int) ∧
k2 <
(ByteArray.mk #[(48 : UInt8), (49 : UInt8), (50 : UInt8), (51 : UInt8), (52 : UInt8), (53 : UInt8), (54 : UInt8), (55 : UInt8),
(56 : UInt8), (57 : UInt8), (97 : UInt8), (98 : UInt8), (99 : UInt8), (100 : UInt8), (101 : UInt8),
(102 : UInt8)]).size ∧
∃ (k3 : Nat),
(0 : Int) = (↑k3 : Int) ∧
k3 < (g.s.extract (0 : Nat) k).size ∧
∃ (k4 : Nat),
IntKind.u8.wrap
(↑(BitVec.ofInt IntKind.u8.bits
(↑((#[].extract (0 : Nat) (0 : Nat) ++ g.s.data.extract (0 : Nat) ((0 : Nat) + (k - (0 : Nat))) ++
#[].extract ((0 : Nat) + min (k - (0 : Nat)) (g.s.data.size - (0 : Nat)))).toList.getD
k3 (0 : UInt8)).toNat :
Int) &&&
BitVec.ofInt IntKind.u8.bits (15 : Int)).toNat :
Int) =
(↑k4 : Int) ∧
k4 <
(ByteArray.mk #[(48 : UInt8), (49 : UInt8), (50 : UInt8), (51 : UInt8), (52 : UInt8), (53 : UInt8), (54 : UInt8), (55 : UInt8),
(56 : UInt8), (57 : UInt8), (97 : UInt8), (98 : UInt8), (99 : UInt8), (100 : UInt8), (101 : UInt8),
(102 : UInt8)]).size ∧
∀ (b1 : Nat) (w12 : World),
New w11
(Obj.cells
#[Value.int IntKind.u8
(↑([(48 : UInt8), (49 : UInt8), (50 : UInt8), (51 : UInt8), (52 : UInt8), (53 : UInt8), (54 : UInt8), (55 : UInt8),
(56 : UInt8), (57 : UInt8), (97 : UInt8), (98 : UInt8), (99 : UInt8), (100 : UInt8), (101 : UInt8), (102 : UInt8)].getD
k2 (0 : UInt8)).toNat :
Int),
Value.int IntKind.u8
(↑([(48 : UInt8), (49 : UInt8), (50 : UInt8), (51 : UInt8), (52 : UInt8), (53 : UInt8), (54 : UInt8), (55 : UInt8),
(56 : UInt8), (57 : UInt8), (97 : UInt8), (98 : UInt8), (99 : UInt8), (100 : UInt8), (101 : UInt8), (102 : UInt8)].getD
k4 (0 : UInt8)).toNat :
Int)]
(5 : Nat))
b1 w12 →
∃ (str : ByteArray),
BytesIn w12 (some ⟨b1, 0, none⟩) (2 : Nat) str ∧
(ByteArray.mk #[(60 : UInt8)]).size + str.size ≤ 9223372036854775807 ∧
((ByteArray.mk #[(60 : UInt8)]) ++ str).size + (ByteArray.mk #[(62 : UInt8)]).size ≤ 9223372036854775807 ∧
∃ (x2 : ByteArray × Nat),
Value.tuple
#[Value.string ((ByteArray.mk #[(60 : UInt8)]) ++ str ++ (ByteArray.mk #[(62 : UInt8)])), Value.int .i64 4] =
Value.tuple #[Value.string x2.fst, Value.int .i64 (↑x2.snd : Int)] ∧
x2 = textC g.s g.col g.l ∧ Ext w w12)
((runesV (g.s.extract (0 : Nat) k)).length ≤ 70368744177664 ∧
∀ (c b1 : Nat) (w11 : World),
NewRunes w'1 (g.s.extract (0 : Nat) k) (21 : Nat) c b1 w11 →
∃ (n : Int),
w11.cell? ⟨b, 0, none⟩ = some (Value.int .i64 n) ∧
∃ (b2 : Bool),
w11.cell? ⟨b, 1, none⟩ = some (Value.bool b2) ∧
∃ (n1 : Int),
w11.cell? ⟨b, 2, none⟩ = some (Value.int .i8 n1) ∧
∃ (b3 : Bool),
w11.cell? ⟨b, 3, none⟩ = some (Value.bool b3) ∧
∃ (b4 : Bool),
w11.cell? ⟨b, 4, none⟩ = some (Value.bool b4) ∧
∃ (g3 : GK6),
#[Value.string (g.s.extract (0 : Nat) k),
Value.slice (some ⟨b1, 0, none⟩) (runesV (g.s.extract (0 : Nat) k)).length c,
Value.int .i64 g.col,
Value.agg #[Value.int .i64 n, Value.bool b2, Value.int .i8 n1, Value.bool b3, Value.bool b4]] =
#[Value.string g3.k, Value.slice g3.a (cnt g3.k) g3.c, Value.int .i64 g3.col,
Value.agg
#[Value.int .i64 g3.l.tab, Value.bool g3.l.wide, Value.int .i8 g3.l.want, Value.bool g3.l.join,
Value.bool g3.l.raw]] ∧
(DB w11 ∧
g3.k.size ≤ 67108864 ∧
ncl g3.k = (1 : Nat) ∧
isBad g3.k (0 : Nat) = false ∧ cnt g3.k ≤ g3.c ∧ CellsAt w11 g3.a (List.map (Value.int IntKind.i32) (runes g3.k))) ∧
∀ (x2 : ByteArray × Nat) (w'2 : World),
x2 = oneC g3.k g3.col g3.l ∧ Ext w11 w'2 →
∃ (x3 : ByteArray × Nat),
Value.tuple #[Value.string x2.fst, Value.int .i64 (↑x2.snd : Int)] =
Value.tuple #[Value.string x3.fst, Value.int .i64 (↑x3.snd : Int)] ∧
x3 = textC g.s g.col g.l ∧ Ext w w'2))) :
    (sTextC).Ok Tryd.prog 31 :=
  ok_of_vc sTextC (annOf spTextP) spTextP (fun _ _ => rfl) (fun _ _ => rfl) hsp Tryd.func31 rfl (n := 3) (fun _ => rfl) (by kernel_rfl) (vcast (by kernel_rfl) h)
end Go.Proofs.YtjdohhididpomaaDoor
end
