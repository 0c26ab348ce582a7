/-
  Verification conditions, printed by a program out of the specifications beside this text: each theorem says that the condition suffices. (Lean's kernel compares the printed condition with what 'wpE' computes.)
-/
import Derived.Test.YtliihpdhoimmoaaSpC
import Derived.Test.YtliihpdhoimmoaaProg
import Derived.KernelRfl
set_option linter.unusedVariables false
namespace Go.Proofs.Ytliihpdhoimmoaa
open Go Go.RowKit Vc Tb

set_option maxRecDepth 1000000 in
theorem lent_vc (hsp : SpecsOk Try.prog []) (h : ∀ (g : GSl) (w : World),
GSl.at IntKind.i32 g w →
InR IntKind.i64 ((↑g.xs.length : Int) + (2 : Int)) ∧
∃ (n : Nat),
∃ (m : Nat),
(0 : Int) = (↑n : Int) ∧
(↑g.xs.length : Int) + (2 : Int) = (↑m : Int) ∧
n ≤ m ∧
(4 : Nat) * m ≤ (281474976710656 : Nat) ∧
m ≤ (9223372036854775807 : Nat) ∧
∀ (b : Nat) (w1 : World),
New w (Obj.cells (mkRow (Value.int IntKind.i32 (0 : Int)).cells m) (21 : Nat)) b w1 →
∃ (a' : Option Addr),
∃ (c' : Nat),
∃ (w' : World),
AppRun Try.prog #[(22 : Nat), (22 : Nat)] (22 : Nat) (Value.slice (some { block := b, off := (0 : Nat) }) n m)
(Value.slice g.ad g.xs.length g.c) w1 a' (n + g.xs.length) c' w' ∧
KO w1 w' ∧
∀ (b1 : Nat) (w11 : World),
New w' (Obj.cells #[Value.int IntKind.i32 (-9 : Int), Value.int IntKind.i32 (-9 : Int)] (21 : Nat)) b1 w11 →
∃ (a'1 : Option Addr),
∃ (c'1 : Nat),
∃ (w'1 : World),
AppRun Try.prog #[(22 : Nat), (22 : Nat)] (22 : Nat) (Value.slice a' (n + g.xs.length) c')
(Value.slice (some { block := b1, off := (0 : Nat) }) (2 : Nat) (2 : Nat)) w11 a'1 (n + g.xs.length + (2 : Nat)) c'1
w'1 ∧
KO w11 w'1 ∧
∃ (hn : Nat),
(↑g.xs.length : Int) = (↑hn : Int) ∧
hn ≤ c'1 ∧
∃ (x : Nat × Nat),
Value.slice a'1 hn c'1 = Value.slice (some { block := x.fst, off := (0 : Nat) }) x.snd (x.snd + (2 : Nat)) ∧
x.snd = g.xs.length ∧
Made w w'1 (21 : TypeId) (1 : Nat) (some { block := x.fst, off := (0 : Nat) }) (g.xs.length + (2 : Nat))
(List.map (Value.int IntKind.i32) (g.xs ++ [(-9 : Int), (-9 : Int)])) (g.xs.length + (2 : Nat))) :
    (sLent).Ok Try.prog 11 :=
  ok_of_vc sLent (fun g _ => annNone [] g) [] (fun _ _ => rfl) (fun _ _ => rfl) hsp Try.func11 rfl (n := 1) (fun _ => rfl) (by kernel_rfl) (vcast (by kernel_rfl) h)

set_option maxRecDepth 1000000 in
theorem kept_vc (hsp : SpecsOk Try.prog []) (h : ∀ (g : GKept) (w : World),
CellsAt w g.ad (List.map (Value.int IntKind.i32) (g.g.xs ++ [(-9 : Int), (-9 : Int)])) ∧ GSl.at IntKind.i32 g.g w →
InR IntKind.i64 ((↑g.g.xs.length : Int) + (2 : Int)) ∧
∃ (hn : Nat),
(↑g.g.xs.length : Int) + (2 : Int) = (↑hn : Int) ∧
hn ≤ g.g.xs.length + (2 : Nat) ∧
(∃ (x : Nat),
Value.int IntKind.i64 (0 : Int) = Value.int IntKind.i64 (↑x : Int) ∧ x ≤ g.g.xs.length + (2 : Nat) ∧ Ext w w) ∧
∀ (u : Nat → Value) (x : Nat) (w' : World),
x ≤ g.g.xs.length + (2 : Nat) ∧ Ext w w' →
bcase (decide ((↑x : Int) < (↑hn : Int)))
(∀ (w1 : World),
Drew w' w1 →
bcase (decide ((↑x : Int) < (↑g.g.xs.length : Int)))
(∃ (k : Nat),
(↑x : Int) = (↑k : Int) ∧
k < hn ∧
ptrE g.ad fun (b o : Nat) =>
∃ (n : Int),
w'.cell? { block := b, off := o + k } = some (Value.int IntKind.i32 n) ∧
∃ (k1 : Nat),
(↑x : Int) = (↑k1 : Int) ∧
k1 < g.g.xs.length ∧
ptrE g.g.ad fun (b1 o1 : Nat) =>
∃ (n1 : Int),
w'.cell? { block := b1, off := o1 + k1 } = some (Value.int IntKind.i32 n1) ∧
bcase (n != n1) (∃ (x1 : Unit), Value.bool false = Value.bool true ∧ Ext w w1)
(bcase (decide ((↑x : Int) ≥ (↑g.g.xs.length : Int)))
(∃ (k2 : Nat),
(↑x : Int) = (↑k2 : Int) ∧
k2 < hn ∧
ptrE g.ad fun (b2 o2 : Nat) =>
∃ (n2 : Int),
w'.cell? { block := b2, off := o2 + k2 } = some (Value.int IntKind.i32 n2) ∧
bcase (n2 != (-9 : Int)) (∃ (x1 : Unit), Value.bool false = Value.bool true ∧ Ext w w1)
(InR IntKind.i64 ((↑x : Int) + (1 : Int)) ∧
∃ (y : Nat),
Value.int IntKind.i64 ((↑x : Int) + (1 : Int)) = Value.int IntKind.i64 (↑y : Int) ∧
(y ≤ g.g.xs.length + (2 : Nat) ∧ Ext w w1) ∧ g.g.xs.length + (2 : Nat) - y < g.g.xs.length + (2 : Nat) - x))
(InR IntKind.i64 ((↑x : Int) + (1 : Int)) ∧
∃ (y : Nat),
Value.int IntKind.i64 ((↑x : Int) + (1 : Int)) = Value.int IntKind.i64 (↑y : Int) ∧
(y ≤ g.g.xs.length + (2 : Nat) ∧ Ext w w1) ∧ g.g.xs.length + (2 : Nat) - y < g.g.xs.length + (2 : Nat) - x)))
(bcase (decide ((↑x : Int) ≥ (↑g.g.xs.length : Int)))
(∃ (k : Nat),
(↑x : Int) = (↑k : Int) ∧
k < hn ∧
ptrE g.ad fun (b o : Nat) =>
∃ (n : Int),
w'.cell? { block := b, off := o + k } = some (Value.int IntKind.i32 n) ∧
bcase (n != (-9 : Int)) (∃ (x1 : Unit), Value.bool false = Value.bool true ∧ Ext w w1)
(InR IntKind.i64 ((↑x : Int) + (1 : Int)) ∧
∃ (y : Nat),
Value.int IntKind.i64 ((↑x : Int) + (1 : Int)) = Value.int IntKind.i64 (↑y : Int) ∧
(y ≤ g.g.xs.length + (2 : Nat) ∧ Ext w w1) ∧ g.g.xs.length + (2 : Nat) - y < g.g.xs.length + (2 : Nat) - x))
(InR IntKind.i64 ((↑x : Int) + (1 : Int)) ∧
∃ (y : Nat),
Value.int IntKind.i64 ((↑x : Int) + (1 : Int)) = Value.int IntKind.i64 (↑y : Int) ∧
(y ≤ g.g.xs.length + (2 : Nat) ∧ Ext w w1) ∧ g.g.xs.length + (2 : Nat) - y < g.g.xs.length + (2 : Nat) - x)))
(∃ (x1 : Unit), Value.bool ((↑g.g.xs.length : Int) == (↑g.g.xs.length : Int)) = Value.bool true ∧ Ext w w')) :
    (sKept).Ok Try.prog 14 :=
  ok_of_vc sKept annKept [] (fun _ _ => rfl) (fun _ _ => rfl) hsp Try.func14 rfl (n := 2) (fun _ => rfl) (by kernel_rfl) (vcast (by kernel_rfl) h)

set_option maxRecDepth 1000000 in
theorem fresh8_vc (hsp : SpecsOk Try.prog []) (h : ∀ (g : GFresh) (w : World),
Row w (27 : TypeId) (1 : Nat) g.a g.n g.va g.ca ∧
Row w (27 : TypeId) (1 : Nat) g.b g.n g.vb g.cb ∧
(∀ (q : Nat), blk g.a = some q → blk g.b ≠ some q) ∧ g.n ≤ (35184372087808 : Nat) →
(∃ (x : Nat),
Value.int IntKind.i64 (0 : Int) = Value.int IntKind.i64 (↑x : Int) ∧
x ≤ g.n ∧
Row w (27 : TypeId) (1 : Nat) g.a g.n (List.replicate x (Value.int IntKind.i8 g.one) ++ List.drop x g.va) g.ca ∧
Fr g.S w w ∧ Row w (27 : TypeId) (1 : Nat) g.b g.n g.vb g.cb) ∧
∀ (u : Nat → Value) (x : Nat) (w' : World),
x ≤ g.n ∧
Row w' (27 : TypeId) (1 : Nat) g.a g.n (List.replicate x (Value.int IntKind.i8 g.one) ++ List.drop x g.va) g.ca ∧
Fr g.S w w' ∧ Row w' (27 : TypeId) (1 : Nat) g.b g.n g.vb g.cb →
bcase (decide ((↑x : Int) < (↑g.n : Int)))
(∃ (k : Nat),
(↑x : Int) = (↑k : Int) ∧
k < g.n ∧
ptrE g.a fun (b o : Nat) =>
true = true ∧
(∃ (old : Value), w'.cell? { block := b, off := o + k } = some old) ∧
w'.frozen? { block := b, off := o + k } = false ∧
∀ (w1 : World),
Stored w' { block := b, off := o + k } (Value.int IntKind.i8 g.one) w1 →
InR IntKind.i64 ((↑x : Int) + (1 : Int)) ∧
∃ (y : Nat),
Value.int IntKind.i64 ((↑x : Int) + (1 : Int)) = Value.int IntKind.i64 (↑y : Int) ∧
(y ≤ g.n ∧
Row w1 (27 : TypeId) (1 : Nat) g.a g.n (List.replicate y (Value.int IntKind.i8 g.one) ++ List.drop y g.va) g.ca ∧
Fr g.S w w1 ∧ Row w1 (27 : TypeId) (1 : Nat) g.b g.n g.vb g.cb) ∧
g.n - y < g.n - x)
((∃ (x1 : Nat),
Value.int IntKind.i64 (0 : Int) = Value.int IntKind.i64 (↑x1 : Int) ∧
x1 ≤ g.n ∧
Row w' (27 : TypeId) (1 : Nat) g.b g.n (List.replicate x1 (Value.int IntKind.i8 g.two) ++ List.drop x1 g.vb) g.cb ∧
Fr g.S w w' ∧ Row w' (27 : TypeId) (1 : Nat) g.a g.n (List.replicate g.n (Value.int IntKind.i8 g.one)) g.ca) ∧
∀ (u1 : Nat → Value) (x1 : Nat) (w'1 : World),
x1 ≤ g.n ∧
Row w'1 (27 : TypeId) (1 : Nat) g.b g.n (List.replicate x1 (Value.int IntKind.i8 g.two) ++ List.drop x1 g.vb) g.cb ∧
Fr g.S w w'1 ∧ Row w'1 (27 : TypeId) (1 : Nat) g.a g.n (List.replicate g.n (Value.int IntKind.i8 g.one)) g.ca →
bcase (decide ((↑x1 : Int) < (↑g.n : Int)))
(∃ (k : Nat),
(↑x1 : Int) = (↑k : Int) ∧
k < g.n ∧
ptrE g.b fun (b o : Nat) =>
true = true ∧
(∃ (old : Value), w'1.cell? { block := b, off := o + k } = some old) ∧
w'1.frozen? { block := b, off := o + k } = false ∧
∀ (w1 : World),
Stored w'1 { block := b, off := o + k } (Value.int IntKind.i8 g.two) w1 →
InR IntKind.i64 ((↑x1 : Int) + (1 : Int)) ∧
∃ (y : Nat),
Value.int IntKind.i64 ((↑x1 : Int) + (1 : Int)) = Value.int IntKind.i64 (↑y : Int) ∧
(y ≤ g.n ∧
Row w1 (27 : TypeId) (1 : Nat) g.b g.n (List.replicate y (Value.int IntKind.i8 g.two) ++ List.drop y g.vb) g.cb ∧
Fr g.S w w1 ∧ Row w1 (27 : TypeId) (1 : Nat) g.a g.n (List.replicate g.n (Value.int IntKind.i8 g.one)) g.ca) ∧
g.n - y < g.n - x1)
((∃ (x2 : XFresh),
Value.int IntKind.i64 (0 : Int) = Value.int IntKind.i64 (↑x2.i : Int) ∧
Value.slice g.a g.n g.ca = Value.slice x2.x (g.n + x2.i) x2.cx ∧
Value.slice g.b g.n g.cb = Value.slice x2.y (g.n + x2.i) x2.cy ∧
x2.i ≤ (40 : Nat) ∧
Grown1 w w'1 (27 : TypeId) (Value.int IntKind.i8 g.one) g.a g.n x2.x (g.n + x2.i) x2.cx ∧
Grown1 w w'1 (27 : TypeId) (Value.int IntKind.i8 g.two) g.b g.n x2.y (g.n + x2.i) x2.cy ∧
(∀ (b : Nat), blk x2.x = some b → blk x2.y ≠ some b) ∧ Fr g.S w w'1) ∧
∀ (u2 : Nat → Value) (x2 : XFresh) (w'2 : World),
x2.i ≤ (40 : Nat) ∧
Grown1 w w'2 (27 : TypeId) (Value.int IntKind.i8 g.one) g.a g.n x2.x (g.n + x2.i) x2.cx ∧
Grown1 w w'2 (27 : TypeId) (Value.int IntKind.i8 g.two) g.b g.n x2.y (g.n + x2.i) x2.cy ∧
(∀ (b : Nat), blk x2.x = some b → blk x2.y ≠ some b) ∧ Fr g.S w w'2 →
bcase (decide ((↑x2.i : Int) < (40 : Int)))
(∀ (b : Nat) (w1 : World),
New w'2 (Obj.cells #[Value.int IntKind.i8 g.one] (27 : Nat)) b w1 →
∃ (a' : Option Addr),
∃ (c' : Nat),
∃ (w'3 : World),
AppRun Try.prog #[(23 : Nat), (23 : Nat)] (23 : Nat) (Value.slice x2.x (g.n + x2.i) x2.cx)
(Value.slice (some { block := b, off := (0 : Nat) }) (1 : Nat) (1 : Nat)) w1 a' (g.n + x2.i + (1 : Nat)) c' w'3 ∧
KO w1 w'3 ∧
∀ (b1 : Nat) (w11 : World),
New w'3 (Obj.cells #[Value.int IntKind.i8 g.two] (27 : Nat)) b1 w11 →
∃ (a'1 : Option Addr),
∃ (c'1 : Nat),
∃ (w'4 : World),
AppRun Try.prog #[(23 : Nat), (23 : Nat)] (23 : Nat) (Value.slice x2.y (g.n + x2.i) x2.cy)
(Value.slice (some { block := b1, off := (0 : Nat) }) (1 : Nat) (1 : Nat)) w11 a'1 (g.n + x2.i + (1 : Nat)) c'1 w'4 ∧
KO w11 w'4 ∧
InR IntKind.i64 ((↑x2.i : Int) + (1 : Int)) ∧
∃ (y : XFresh),
Value.int IntKind.i64 ((↑x2.i : Int) + (1 : Int)) = Value.int IntKind.i64 (↑y.i : Int) ∧
Value.slice a' (g.n + x2.i + (1 : Nat)) c' = Value.slice y.x (g.n + y.i) y.cx ∧
Value.slice a'1 (g.n + x2.i + (1 : Nat)) c'1 = Value.slice y.y (g.n + y.i) y.cy ∧
(y.i ≤ (40 : Nat) ∧
Grown1 w w'4 (27 : TypeId) (Value.int IntKind.i8 g.one) g.a g.n y.x (g.n + y.i) y.cx ∧
Grown1 w w'4 (27 : TypeId) (Value.int IntKind.i8 g.two) g.b g.n y.y (g.n + y.i) y.cy ∧
(∀ (b2 : Nat), blk y.x = some b2 → blk y.y ≠ some b2) ∧ Fr g.S w w'4) ∧
(40 : Nat) - y.i < (40 : Nat) - x2.i)
((∃ (x3 : Nat),
Value.int IntKind.i64 (0 : Int) = Value.int IntKind.i64 (↑x3 : Int) ∧ x3 ≤ g.n + (40 : Nat) ∧ Ext w'2 w'2) ∧
∀ (u3 : Nat → Value) (x3 : Nat) (w'3 : World),
x3 ≤ g.n + (40 : Nat) ∧ Ext w'2 w'3 →
bcase (decide ((↑x3 : Int) < (↑(g.n + x2.i) : Int)))
(∃ (k : Nat),
(↑x3 : Int) = (↑k : Int) ∧
k < g.n + x2.i ∧
ptrE x2.x fun (b o : Nat) =>
∃ (n : Int),
w'3.cell? { block := b, off := o + k } = some (Value.int IntKind.i8 n) ∧
bcase (n != g.one) (∃ (x4 : Unit), Value.bool false = Value.bool true ∧ Fr g.S w w'3)
(∃ (k1 : Nat),
(↑x3 : Int) = (↑k1 : Int) ∧
k1 < g.n + x2.i ∧
ptrE x2.y fun (b1 o1 : Nat) =>
∃ (n1 : Int),
w'3.cell? { block := b1, off := o1 + k1 } = some (Value.int IntKind.i8 n1) ∧
bcase (n1 != g.two) (∃ (x4 : Unit), Value.bool false = Value.bool true ∧ Fr g.S w w'3)
(InR IntKind.i64 ((↑x3 : Int) + (1 : Int)) ∧
∃ (y : Nat),
Value.int IntKind.i64 ((↑x3 : Int) + (1 : Int)) = Value.int IntKind.i64 (↑y : Int) ∧
(y ≤ g.n + (40 : Nat) ∧ Ext w'2 w'3) ∧ g.n + (40 : Nat) - y < g.n + (40 : Nat) - x3)))
((∃ (x4 : Nat), Value.int IntKind.i64 (0 : Int) = Value.int IntKind.i64 (↑x4 : Int) ∧ x4 ≤ g.n ∧ Ext w'3 w'3) ∧
∀ (u4 : Nat → Value) (x4 : Nat) (w'4 : World),
x4 ≤ g.n ∧ Ext w'3 w'4 →
bcase (decide ((↑x4 : Int) < (↑g.n : Int)))
(∃ (k : Nat),
(↑x4 : Int) = (↑k : Int) ∧
k < g.n ∧
ptrE g.a fun (b o : Nat) =>
∃ (n : Int),
w'4.cell? { block := b, off := o + k } = some (Value.int IntKind.i8 n) ∧
bcase (n != g.one) (∃ (x5 : Unit), Value.bool false = Value.bool true ∧ Fr g.S w w'4)
(∃ (k1 : Nat),
(↑x4 : Int) = (↑k1 : Int) ∧
k1 < g.n ∧
ptrE g.b fun (b1 o1 : Nat) =>
∃ (n1 : Int),
w'4.cell? { block := b1, off := o1 + k1 } = some (Value.int IntKind.i8 n1) ∧
bcase (n1 != g.two) (∃ (x5 : Unit), Value.bool false = Value.bool true ∧ Fr g.S w w'4)
(InR IntKind.i64 ((↑x4 : Int) + (1 : Int)) ∧
∃ (y : Nat),
Value.int IntKind.i64 ((↑x4 : Int) + (1 : Int)) = Value.int IntKind.i64 (↑y : Int) ∧
(y ≤ g.n ∧ Ext w'3 w'4) ∧ g.n - y < g.n - x4)))
(∃ (x5 : Unit), Value.bool true = Value.bool true ∧ Fr g.S w w'4)))))) :
    ((sFresh .i8 27)).Ok Try.prog 15 :=
  ok_of_vc (sFresh .i8 27) (annFresh .i8 27) [] (fun _ _ => rfl) (fun _ _ => rfl) hsp Try.func15 rfl (n := 4) (fun _ => rfl) (by kernel_rfl) (vcast (by kernel_rfl) h)

set_option maxRecDepth 1000000 in
theorem fresh32_vc (hsp : SpecsOk Try.prog []) (h : ∀ (g : GFresh) (w : World),
Row w (21 : TypeId) (1 : Nat) g.a g.n g.va g.ca ∧
Row w (21 : TypeId) (1 : Nat) g.b g.n g.vb g.cb ∧
(∀ (q : Nat), blk g.a = some q → blk g.b ≠ some q) ∧ g.n ≤ (35184372087808 : Nat) →
(∃ (x : Nat),
Value.int IntKind.i64 (0 : Int) = Value.int IntKind.i64 (↑x : Int) ∧
x ≤ g.n ∧
Row w (21 : TypeId) (1 : Nat) g.a g.n (List.replicate x (Value.int IntKind.i32 g.one) ++ List.drop x g.va) g.ca ∧
Fr g.S w w ∧ Row w (21 : TypeId) (1 : Nat) g.b g.n g.vb g.cb) ∧
∀ (u : Nat → Value) (x : Nat) (w' : World),
x ≤ g.n ∧
Row w' (21 : TypeId) (1 : Nat) g.a g.n (List.replicate x (Value.int IntKind.i32 g.one) ++ List.drop x g.va) g.ca ∧
Fr g.S w w' ∧ Row w' (21 : TypeId) (1 : Nat) g.b g.n g.vb g.cb →
bcase (decide ((↑x : Int) < (↑g.n : Int)))
(∃ (k : Nat),
(↑x : Int) = (↑k : Int) ∧
k < g.n ∧
ptrE g.a fun (b o : Nat) =>
true = true ∧
(∃ (old : Value), w'.cell? { block := b, off := o + k } = some old) ∧
w'.frozen? { block := b, off := o + k } = false ∧
∀ (w1 : World),
Stored w' { block := b, off := o + k } (Value.int IntKind.i32 g.one) w1 →
InR IntKind.i64 ((↑x : Int) + (1 : Int)) ∧
∃ (y : Nat),
Value.int IntKind.i64 ((↑x : Int) + (1 : Int)) = Value.int IntKind.i64 (↑y : Int) ∧
(y ≤ g.n ∧
Row w1 (21 : TypeId) (1 : Nat) g.a g.n (List.replicate y (Value.int IntKind.i32 g.one) ++ List.drop y g.va) g.ca ∧
Fr g.S w w1 ∧ Row w1 (21 : TypeId) (1 : Nat) g.b g.n g.vb g.cb) ∧
g.n - y < g.n - x)
((∃ (x1 : Nat),
Value.int IntKind.i64 (0 : Int) = Value.int IntKind.i64 (↑x1 : Int) ∧
x1 ≤ g.n ∧
Row w' (21 : TypeId) (1 : Nat) g.b g.n (List.replicate x1 (Value.int IntKind.i32 g.two) ++ List.drop x1 g.vb) g.cb ∧
Fr g.S w w' ∧ Row w' (21 : TypeId) (1 : Nat) g.a g.n (List.replicate g.n (Value.int IntKind.i32 g.one)) g.ca) ∧
∀ (u1 : Nat → Value) (x1 : Nat) (w'1 : World),
x1 ≤ g.n ∧
Row w'1 (21 : TypeId) (1 : Nat) g.b g.n (List.replicate x1 (Value.int IntKind.i32 g.two) ++ List.drop x1 g.vb) g.cb ∧
Fr g.S w w'1 ∧ Row w'1 (21 : TypeId) (1 : Nat) g.a g.n (List.replicate g.n (Value.int IntKind.i32 g.one)) g.ca →
bcase (decide ((↑x1 : Int) < (↑g.n : Int)))
(∃ (k : Nat),
(↑x1 : Int) = (↑k : Int) ∧
k < g.n ∧
ptrE g.b fun (b o : Nat) =>
true = true ∧
(∃ (old : Value), w'1.cell? { block := b, off := o + k } = some old) ∧
w'1.frozen? { block := b, off := o + k } = false ∧
∀ (w1 : World),
Stored w'1 { block := b, off := o + k } (Value.int IntKind.i32 g.two) w1 →
InR IntKind.i64 ((↑x1 : Int) + (1 : Int)) ∧
∃ (y : Nat),
Value.int IntKind.i64 ((↑x1 : Int) + (1 : Int)) = Value.int IntKind.i64 (↑y : Int) ∧
(y ≤ g.n ∧
Row w1 (21 : TypeId) (1 : Nat) g.b g.n (List.replicate y (Value.int IntKind.i32 g.two) ++ List.drop y g.vb) g.cb ∧
Fr g.S w w1 ∧ Row w1 (21 : TypeId) (1 : Nat) g.a g.n (List.replicate g.n (Value.int IntKind.i32 g.one)) g.ca) ∧
g.n - y < g.n - x1)
((∃ (x2 : XFresh),
Value.int IntKind.i64 (0 : Int) = Value.int IntKind.i64 (↑x2.i : Int) ∧
Value.slice g.a g.n g.ca = Value.slice x2.x (g.n + x2.i) x2.cx ∧
Value.slice g.b g.n g.cb = Value.slice x2.y (g.n + x2.i) x2.cy ∧
x2.i ≤ (40 : Nat) ∧
Grown1 w w'1 (21 : TypeId) (Value.int IntKind.i32 g.one) g.a g.n x2.x (g.n + x2.i) x2.cx ∧
Grown1 w w'1 (21 : TypeId) (Value.int IntKind.i32 g.two) g.b g.n x2.y (g.n + x2.i) x2.cy ∧
(∀ (b : Nat), blk x2.x = some b → blk x2.y ≠ some b) ∧ Fr g.S w w'1) ∧
∀ (u2 : Nat → Value) (x2 : XFresh) (w'2 : World),
x2.i ≤ (40 : Nat) ∧
Grown1 w w'2 (21 : TypeId) (Value.int IntKind.i32 g.one) g.a g.n x2.x (g.n + x2.i) x2.cx ∧
Grown1 w w'2 (21 : TypeId) (Value.int IntKind.i32 g.two) g.b g.n x2.y (g.n + x2.i) x2.cy ∧
(∀ (b : Nat), blk x2.x = some b → blk x2.y ≠ some b) ∧ Fr g.S w w'2 →
bcase (decide ((↑x2.i : Int) < (40 : Int)))
(∀ (b : Nat) (w1 : World),
New w'2 (Obj.cells #[Value.int IntKind.i32 g.one] (21 : Nat)) b w1 →
∃ (a' : Option Addr),
∃ (c' : Nat),
∃ (w'3 : World),
AppRun Try.prog #[(22 : Nat), (22 : Nat)] (22 : Nat) (Value.slice x2.x (g.n + x2.i) x2.cx)
(Value.slice (some { block := b, off := (0 : Nat) }) (1 : Nat) (1 : Nat)) w1 a' (g.n + x2.i + (1 : Nat)) c' w'3 ∧
KO w1 w'3 ∧
∀ (b1 : Nat) (w11 : World),
New w'3 (Obj.cells #[Value.int IntKind.i32 g.two] (21 : Nat)) b1 w11 →
∃ (a'1 : Option Addr),
∃ (c'1 : Nat),
∃ (w'4 : World),
AppRun Try.prog #[(22 : Nat), (22 : Nat)] (22 : Nat) (Value.slice x2.y (g.n + x2.i) x2.cy)
(Value.slice (some { block := b1, off := (0 : Nat) }) (1 : Nat) (1 : Nat)) w11 a'1 (g.n + x2.i + (1 : Nat)) c'1 w'4 ∧
KO w11 w'4 ∧
InR IntKind.i64 ((↑x2.i : Int) + (1 : Int)) ∧
∃ (y : XFresh),
Value.int IntKind.i64 ((↑x2.i : Int) + (1 : Int)) = Value.int IntKind.i64 (↑y.i : Int) ∧
Value.slice a' (g.n + x2.i + (1 : Nat)) c' = Value.slice y.x (g.n + y.i) y.cx ∧
Value.slice a'1 (g.n + x2.i + (1 : Nat)) c'1 = Value.slice y.y (g.n + y.i) y.cy ∧
(y.i ≤ (40 : Nat) ∧
Grown1 w w'4 (21 : TypeId) (Value.int IntKind.i32 g.one) g.a g.n y.x (g.n + y.i) y.cx ∧
Grown1 w w'4 (21 : TypeId) (Value.int IntKind.i32 g.two) g.b g.n y.y (g.n + y.i) y.cy ∧
(∀ (b2 : Nat), blk y.x = some b2 → blk y.y ≠ some b2) ∧ Fr g.S w w'4) ∧
(40 : Nat) - y.i < (40 : Nat) - x2.i)
((∃ (x3 : Nat),
Value.int IntKind.i64 (0 : Int) = Value.int IntKind.i64 (↑x3 : Int) ∧ x3 ≤ g.n + (40 : Nat) ∧ Ext w'2 w'2) ∧
∀ (u3 : Nat → Value) (x3 : Nat) (w'3 : World),
x3 ≤ g.n + (40 : Nat) ∧ Ext w'2 w'3 →
bcase (decide ((↑x3 : Int) < (↑(g.n + x2.i) : Int)))
(∃ (k : Nat),
(↑x3 : Int) = (↑k : Int) ∧
k < g.n + x2.i ∧
ptrE x2.x fun (b o : Nat) =>
∃ (n : Int),
w'3.cell? { block := b, off := o + k } = some (Value.int IntKind.i32 n) ∧
bcase (n != g.one) (∃ (x4 : Unit), Value.bool false = Value.bool true ∧ Fr g.S w w'3)
(∃ (k1 : Nat),
(↑x3 : Int) = (↑k1 : Int) ∧
k1 < g.n + x2.i ∧
ptrE x2.y fun (b1 o1 : Nat) =>
∃ (n1 : Int),
w'3.cell? { block := b1, off := o1 + k1 } = some (Value.int IntKind.i32 n1) ∧
bcase (n1 != g.two) (∃ (x4 : Unit), Value.bool false = Value.bool true ∧ Fr g.S w w'3)
(InR IntKind.i64 ((↑x3 : Int) + (1 : Int)) ∧
∃ (y : Nat),
Value.int IntKind.i64 ((↑x3 : Int) + (1 : Int)) = Value.int IntKind.i64 (↑y : Int) ∧
(y ≤ g.n + (40 : Nat) ∧ Ext w'2 w'3) ∧ g.n + (40 : Nat) - y < g.n + (40 : Nat) - x3)))
((∃ (x4 : Nat), Value.int IntKind.i64 (0 : Int) = Value.int IntKind.i64 (↑x4 : Int) ∧ x4 ≤ g.n ∧ Ext w'3 w'3) ∧
∀ (u4 : Nat → Value) (x4 : Nat) (w'4 : World),
x4 ≤ g.n ∧ Ext w'3 w'4 →
bcase (decide ((↑x4 : Int) < (↑g.n : Int)))
(∃ (k : Nat),
(↑x4 : Int) = (↑k : Int) ∧
k < g.n ∧
ptrE g.a fun (b o : Nat) =>
∃ (n : Int),
w'4.cell? { block := b, off := o + k } = some (Value.int IntKind.i32 n) ∧
bcase (n != g.one) (∃ (x5 : Unit), Value.bool false = Value.bool true ∧ Fr g.S w w'4)
(∃ (k1 : Nat),
(↑x4 : Int) = (↑k1 : Int) ∧
k1 < g.n ∧
ptrE g.b fun (b1 o1 : Nat) =>
∃ (n1 : Int),
w'4.cell? { block := b1, off := o1 + k1 } = some (Value.int IntKind.i32 n1) ∧
bcase (n1 != g.two) (∃ (x5 : Unit), Value.bool false = Value.bool true ∧ Fr g.S w w'4)
(InR IntKind.i64 ((↑x4 : Int) + (1 : Int)) ∧
∃ (y : Nat),
Value.int IntKind.i64 ((↑x4 : Int) + (1 : Int)) = Value.int IntKind.i64 (↑y : Int) ∧
(y ≤ g.n ∧ Ext w'3 w'4) ∧ g.n - y < g.n - x4)))
(∃ (x5 : Unit), Value.bool true = Value.bool true ∧ Fr g.S w w'4)))))) :
    ((sFresh .i32 21)).Ok Try.prog 20 :=
  ok_of_vc (sFresh .i32 21) (annFresh .i32 21) [] (fun _ _ => rfl) (fun _ _ => rfl) hsp Try.func20 rfl (n := 4) (fun _ => rfl) (by kernel_rfl) (vcast (by kernel_rfl) h)

set_option maxRecDepth 1000000 in
theorem letters_vc (hsp : SpecsOk Try.prog []) (h : ∀ (g : Unit) (w : World),
True →
∀ (b : Nat) (w1 : World),
New w
(Obj.cells
#[Value.int IntKind.i32 (1569 : Int), Value.int IntKind.i32 (65152 : Int), Value.int IntKind.i32 (1570 : Int),
Value.int IntKind.i32 (65153 : Int), Value.int IntKind.i32 (1571 : Int), Value.int IntKind.i32 (65155 : Int),
Value.int IntKind.i32 (1572 : Int), Value.int IntKind.i32 (65157 : Int), Value.int IntKind.i32 (1573 : Int),
Value.int IntKind.i32 (65159 : Int), Value.int IntKind.i32 (1574 : Int), Value.int IntKind.i32 (65161 : Int),
Value.int IntKind.i32 (1575 : Int), Value.int IntKind.i32 (65165 : Int), Value.int IntKind.i32 (1576 : Int),
Value.int IntKind.i32 (65167 : Int), Value.int IntKind.i32 (1577 : Int), Value.int IntKind.i32 (65171 : Int),
Value.int IntKind.i32 (1578 : Int), Value.int IntKind.i32 (65173 : Int), Value.int IntKind.i32 (1579 : Int),
Value.int IntKind.i32 (65177 : Int), Value.int IntKind.i32 (1580 : Int), Value.int IntKind.i32 (65181 : Int),
Value.int IntKind.i32 (1581 : Int), Value.int IntKind.i32 (65185 : Int), Value.int IntKind.i32 (1582 : Int),
Value.int IntKind.i32 (65189 : Int), Value.int IntKind.i32 (1583 : Int), Value.int IntKind.i32 (65193 : Int),
Value.int IntKind.i32 (1584 : Int), Value.int IntKind.i32 (65195 : Int), Value.int IntKind.i32 (1585 : Int),
Value.int IntKind.i32 (65197 : Int), Value.int IntKind.i32 (1586 : Int), Value.int IntKind.i32 (65199 : Int),
Value.int IntKind.i32 (1587 : Int), Value.int IntKind.i32 (65201 : Int), Value.int IntKind.i32 (1588 : Int),
Value.int IntKind.i32 (65205 : Int), Value.int IntKind.i32 (1589 : Int), Value.int IntKind.i32 (65209 : Int),
Value.int IntKind.i32 (1590 : Int), Value.int IntKind.i32 (65213 : Int), Value.int IntKind.i32 (1591 : Int),
Value.int IntKind.i32 (65217 : Int), Value.int IntKind.i32 (1592 : Int), Value.int IntKind.i32 (65221 : Int),
Value.int IntKind.i32 (1593 : Int), Value.int IntKind.i32 (65225 : Int), Value.int IntKind.i32 (1594 : Int),
Value.int IntKind.i32 (65229 : Int), Value.int IntKind.i32 (1601 : Int), Value.int IntKind.i32 (65233 : Int),
Value.int IntKind.i32 (1602 : Int), Value.int IntKind.i32 (65237 : Int), Value.int IntKind.i32 (1603 : Int),
Value.int IntKind.i32 (65241 : Int), Value.int IntKind.i32 (1604 : Int), Value.int IntKind.i32 (65245 : Int),
Value.int IntKind.i32 (1605 : Int), Value.int IntKind.i32 (65249 : Int), Value.int IntKind.i32 (1606 : Int),
Value.int IntKind.i32 (65253 : Int), Value.int IntKind.i32 (1607 : Int), Value.int IntKind.i32 (65257 : Int),
Value.int IntKind.i32 (1608 : Int), Value.int IntKind.i32 (65261 : Int), Value.int IntKind.i32 (1609 : Int),
Value.int IntKind.i32 (65263 : Int), Value.int IntKind.i32 (1610 : Int), Value.int IntKind.i32 (65265 : Int)]
(43 : Nat))
b w1 →
∃ (x : Nat),
Value.slice (some { block := b, off := (0 : Nat) }) (36 : Nat) (36 : Nat) =
Value.slice (some { block := x, off := (0 : Nat) }) (36 : Nat) (36 : Nat) ∧
CellsAt w1 (some { block := x, off := (0 : Nat) }) lettersV ∧ Ext w w1) :
    (sLetters).Ok Try.prog 30 :=
  ok_of_vc sLetters (fun g _ => annNone [] g) [] (fun _ _ => rfl) (fun _ _ => rfl) hsp Try.func30 rfl (n := 0) (fun _ => rfl) (by kernel_rfl) (vcast (by kernel_rfl) h)

set_option maxRecDepth 1000000 in
theorem rshape_vc (hsp : SpecsOk Try.prog spRShape) (h : ∀ (g : Int × Int) (w : World),
True →
∃ (g1 : Unit),
(#[] : Array Value) = #[] ∧
True ∧
∀ (x : Nat) (w' : World),
CellsAt w' (some { block := x, off := (0 : Nat) }) lettersV ∧ Ext w w' →
(∃ (x1 : Nat),
Value.int IntKind.i64 (0 : Int) = Value.int IntKind.i64 (↑x1 : Int) ∧
x1 ≤ (36 : Nat) ∧ lookK letterK g.fst = lookK (List.drop x1 letterK) g.fst ∧ Ext w' w') ∧
∀ (u : Nat → Value) (x1 : Nat) (w'1 : World),
x1 ≤ (36 : Nat) ∧ lookK letterK g.fst = lookK (List.drop x1 letterK) g.fst ∧ Ext w' w'1 →
bcase (decide ((↑x1 : Int) < (↑(36 : Nat) : Int)))
(∃ (k : Nat),
(↑x1 : Int) = (↑k : Int) ∧
k < (36 : Nat) ∧
∃ (k1 : Nat),
(0 : Int) = (↑k1 : Int) ∧
k1 < (2 : Nat) ∧
∃ (n : Int),
w'1.cell? { block := x, off := (0 : Nat) + k * (2 : Nat) + k1 } = some (Value.int IntKind.i32 n) ∧
bcase (n != g.fst)
(InR IntKind.i64 ((↑x1 : Int) + (1 : Int)) ∧
∃ (y : Nat),
Value.int IntKind.i64 ((↑x1 : Int) + (1 : Int)) = Value.int IntKind.i64 (↑y : Int) ∧
(y ≤ (36 : Nat) ∧ lookK letterK g.fst = lookK (List.drop y letterK) g.fst ∧ Ext w' w'1) ∧
(36 : Nat) - y < (36 : Nat) - x1)
(∃ (k2 : Nat),
(↑x1 : Int) = (↑k2 : Int) ∧
k2 < (36 : Nat) ∧
∃ (k3 : Nat),
(1 : Int) = (↑k3 : Int) ∧
k3 < (2 : Nat) ∧
∃ (n1 : Int),
w'1.cell? { block := x, off := (0 : Nat) + k2 * (2 : Nat) + k3 } = some (Value.int IntKind.i32 n1) ∧
∃ (g2 : Int),
#[Value.int IntKind.i32 g.fst] = #[Value.int IntKind.i32 g2] ∧
True ∧
∀ (x2 : Int) (w'2 : World),
x2 = joinR g2 ∧ w'2 = w'1 →
∃ (g3 : Int),
#[Value.int IntKind.i32 g.fst] = #[Value.int IntKind.i32 g3] ∧
True ∧
∀ (x3 : Int) (w'3 : World),
x3 = joinR g3 ∧ w'3 = w'2 →
bcase (x2 == (2 : Int) && g.snd == (1 : Int))
(InR IntKind.i32 (n1 + (2 : Int)) ∧
∃ (x4 : Int), Value.int IntKind.i32 (n1 + (2 : Int)) = Value.int IntKind.i32 x4 ∧ x4 = shapeOf g.fst g.snd ∧ Ext w w'3)
(bcase (x2 == (2 : Int) && g.snd == (2 : Int))
(InR IntKind.i32 (n1 + (3 : Int)) ∧
∃ (x4 : Int), Value.int IntKind.i32 (n1 + (3 : Int)) = Value.int IntKind.i32 x4 ∧ x4 = shapeOf g.fst g.snd ∧ Ext w w'3)
(bcase
(bif x2 == (2 : Int) then g.snd == (3 : Int) || x3 == (1 : Int) && g.snd == (2 : Int)
else
bif x3 == (1 : Int) then g.snd == (3 : Int) || x3 == (1 : Int) && g.snd == (2 : Int)
else x3 == (1 : Int) && g.snd == (2 : Int))
(InR IntKind.i32 (n1 + (1 : Int)) ∧
∃ (x4 : Int), Value.int IntKind.i32 (n1 + (1 : Int)) = Value.int IntKind.i32 x4 ∧ x4 = shapeOf g.fst g.snd ∧ Ext w w'3)
(∃ (x4 : Int), Value.int IntKind.i32 n1 = Value.int IntKind.i32 x4 ∧ x4 = shapeOf g.fst g.snd ∧ Ext w w'3)))))
(∃ (x2 : Int), Value.int IntKind.i32 g.fst = Value.int IntKind.i32 x2 ∧ x2 = shapeOf g.fst g.snd ∧ Ext w w'1)) :
    (sShape).Ok Try.prog 24 :=
  ok_of_vc sShape annRShape spRShape (fun _ _ => rfl) (fun _ _ => rfl) hsp Try.func24 rfl (n := 2) (fun _ => rfl) (by kernel_rfl) (vcast (by kernel_rfl) h)

set_option maxRecDepth 1000000 in
theorem first_vc (hsp : SpecsOk Try.prog []) (h : ∀ (g : Int) (w : World),
True →
∀ (b : Nat) (w1 : World),
New w
(Obj.cells
#[Value.int IntKind.u16 (65152 : Int), Value.int IntKind.u16 (65153 : Int), Value.int IntKind.u16 (65155 : Int),
Value.int IntKind.u16 (65157 : Int), Value.int IntKind.u16 (65159 : Int), Value.int IntKind.u16 (65161 : Int),
Value.int IntKind.u16 (65165 : Int), Value.int IntKind.u16 (65167 : Int), Value.int IntKind.u16 (65171 : Int),
Value.int IntKind.u16 (65173 : Int), Value.int IntKind.u16 (65177 : Int), Value.int IntKind.u16 (65181 : Int),
Value.int IntKind.u16 (65185 : Int), Value.int IntKind.u16 (65189 : Int), Value.int IntKind.u16 (65193 : Int),
Value.int IntKind.u16 (65195 : Int), Value.int IntKind.u16 (65197 : Int), Value.int IntKind.u16 (65199 : Int),
Value.int IntKind.u16 (65201 : Int), Value.int IntKind.u16 (65205 : Int), Value.int IntKind.u16 (65209 : Int),
Value.int IntKind.u16 (65213 : Int), Value.int IntKind.u16 (65217 : Int), Value.int IntKind.u16 (65221 : Int),
Value.int IntKind.u16 (65225 : Int), Value.int IntKind.u16 (65229 : Int), Value.int IntKind.u16 (0 : Int),
Value.int IntKind.u16 (0 : Int), Value.int IntKind.u16 (0 : Int), Value.int IntKind.u16 (0 : Int),
Value.int IntKind.u16 (0 : Int), Value.int IntKind.u16 (0 : Int), Value.int IntKind.u16 (65233 : Int),
Value.int IntKind.u16 (65237 : Int), Value.int IntKind.u16 (65241 : Int), Value.int IntKind.u16 (65245 : Int),
Value.int IntKind.u16 (65249 : Int), Value.int IntKind.u16 (65253 : Int), Value.int IntKind.u16 (65257 : Int),
Value.int IntKind.u16 (65261 : Int), Value.int IntKind.u16 (65263 : Int), Value.int IntKind.u16 (65265 : Int)]
(49 : Nat))
b w1 →
bcase (decide (g < (1569 : Int)) || decide (g > (1610 : Int)))
(∃ (x : Int), Value.int IntKind.i32 (0 : Int) = Value.int IntKind.i32 x ∧ x = firstA g ∧ Ext w w1)
(InR IntKind.i32 (g - (1569 : Int)) ∧
∃ (k : Nat),
g - (1569 : Int) = (↑k : Int) ∧
k < (42 : Nat) ∧
∃ (n : Int),
w1.cell? { block := b, off := (0 : Nat) + k } = some (Value.int IntKind.u16 n) ∧
InR IntKind.i32 n ∧ ∃ (x : Int), Value.int IntKind.i32 n = Value.int IntKind.i32 x ∧ x = firstA g ∧ Ext w w1)) :
    ((sRuneX .i32 firstA)).Ok Try.prog 31 :=
  ok_of_vc (sRuneX .i32 firstA) (fun g _ => annNone [] g) [] (fun _ _ => rfl) (fun _ _ => rfl) hsp Try.func31 rfl (n := 1) (fun _ => rfl) (by kernel_rfl) (vcast (by kernel_rfl) h)

set_option maxRecDepth 1000000 in
theorem shape_vc (hsp : SpecsOk Try.prog spShape) (h : ∀ (g : Int × Int) (w : World),
True →
∃ (g1 : Int),
#[Value.int IntKind.i32 g.fst] = #[Value.int IntKind.i32 g1] ∧
True ∧
∀ (x : Int) (w' : World),
x = firstA g1 ∧ Ext w w' →
bcase (x == (0 : Int))
(∃ (x1 : Int), Value.int IntKind.i32 g.fst = Value.int IntKind.i32 x1 ∧ x1 = shapeOf g.fst g.snd ∧ Ext w w')
(∃ (g2 : Int),
#[Value.int IntKind.i32 g.fst] = #[Value.int IntKind.i32 g2] ∧
True ∧
∀ (x1 : Int) (w'1 : World),
x1 = joinR g2 ∧ Ext w' w'1 →
bcase (x1 == (2 : Int))
(bcase (g.snd == (3 : Int))
(InR IntKind.i32 (x + (1 : Int)) ∧
∃ (x2 : Int), Value.int IntKind.i32 (x + (1 : Int)) = Value.int IntKind.i32 x2 ∧ x2 = shapeOf g.fst g.snd ∧ Ext w w'1)
(bcase (g.snd == (1 : Int))
(InR IntKind.i32 (x + (2 : Int)) ∧
∃ (x2 : Int), Value.int IntKind.i32 (x + (2 : Int)) = Value.int IntKind.i32 x2 ∧ x2 = shapeOf g.fst g.snd ∧ Ext w w'1)
(bcase (g.snd == (2 : Int))
(InR IntKind.i32 (x + (3 : Int)) ∧
∃ (x2 : Int), Value.int IntKind.i32 (x + (3 : Int)) = Value.int IntKind.i32 x2 ∧ x2 = shapeOf g.fst g.snd ∧ Ext w w'1)
(∃ (x2 : Int), Value.int IntKind.i32 x = Value.int IntKind.i32 x2 ∧ x2 = shapeOf g.fst g.snd ∧ Ext w w'1))))
(bcase (x1 == (1 : Int))
(bcase (g.snd == (3 : Int) || g.snd == (2 : Int))
(InR IntKind.i32 (x + (1 : Int)) ∧
∃ (x2 : Int), Value.int IntKind.i32 (x + (1 : Int)) = Value.int IntKind.i32 x2 ∧ x2 = shapeOf g.fst g.snd ∧ Ext w w'1)
(∃ (x2 : Int), Value.int IntKind.i32 x = Value.int IntKind.i32 x2 ∧ x2 = shapeOf g.fst g.snd ∧ Ext w w'1))
(∃ (x2 : Int), Value.int IntKind.i32 x = Value.int IntKind.i32 x2 ∧ x2 = shapeOf g.fst g.snd ∧ Ext w w'1)))) :
    (sShape).Ok Try.prog 23 :=
  ok_of_vc sShape (fun g _ => annNone spShape g) spShape (fun _ _ => rfl) (fun _ _ => rfl) hsp Try.func23 rfl (n := 2) (fun _ => rfl) (by kernel_rfl) (vcast (by kernel_rfl) h)

set_option maxRecDepth 1000000 in
theorem rplain_vc (hsp : SpecsOk Try.prog spRPlain) (h : ∀ (g : Int) (w : World),
True →
bcase (decide (g ≥ (65269 : Int)) && decide (g ≤ (65276 : Int)))
(∀ (b : Nat) (w1 : World),
New w
(Obj.cells
#[Value.int IntKind.i32 (1570 : Int), Value.int IntKind.i32 (1571 : Int), Value.int IntKind.i32 (1573 : Int),
Value.int IntKind.i32 (1575 : Int)]
(21 : Nat))
b w1 →
InR IntKind.i32 (g - (65269 : Int)) ∧
(0 : Int) ≤ g - (65269 : Int) ∧
(0 : Int) < (2 : Int) ∧
InR IntKind.i32 ((g - (65269 : Int)) / (2 : Int)) ∧
∃ (k : Nat),
(g - (65269 : Int)) / (2 : Int) = (↑k : Int) ∧
k < (4 : Nat) ∧
∃ (n : Int),
w1.cell? { block := b, off := (0 : Nat) + k } = some (Value.int IntKind.i32 n) ∧
∀ (b1 : Nat) (w11 : World),
New w1 (Obj.cells #[Value.int IntKind.i32 (1604 : Int), Value.int IntKind.i32 n] (21 : Nat)) b1 w11 →
∃ (x : Option Addr × Nat × Nat),
Value.slice (some { block := b1, off := (0 : Nat) }) (2 : Nat) (2 : Nat) = Value.slice x.fst x.snd.fst x.snd.snd ∧
x.snd.fst = (plainR g).length ∧
Made w w11 (21 : TypeId) (1 : Nat) x.fst x.snd.fst (List.map (Value.int IntKind.i32) (plainR g)) x.snd.snd)
(∃ (g1 : Unit),
(#[] : Array Value) = #[] ∧
True ∧
∀ (x : Nat) (w' : World),
CellsAt w' (some { block := x, off := (0 : Nat) }) lettersV ∧ Ext w w' →
(∃ (x1 : Nat),
Value.int IntKind.i64 (0 : Int) = Value.int IntKind.i64 (↑x1 : Int) ∧
x1 ≤ (36 : Nat) ∧ findK letterK g = findK (List.drop x1 letterK) g ∧ Ext w' w') ∧
∀ (u : Nat → Value) (x1 : Nat) (w'1 : World),
x1 ≤ (36 : Nat) ∧ findK letterK g = findK (List.drop x1 letterK) g ∧ Ext w' w'1 →
bcase (decide ((↑x1 : Int) < (↑(36 : Nat) : Int)))
((∃ (x2 : Nat),
Value.int IntKind.i8 (0 : Int) = Value.int IntKind.i8 (↑x2 : Int) ∧
x2 ≤ (4 : Nat) ∧
Ext w'1 w'1 ∧
∀ (f : Nat),
f < x2 →
shapeK (letterK.getD (↑x1 : Int).toNat ((0 : Int), (0 : Int), (0 : Int))).snd.fst
(letterK.getD (↑x1 : Int).toNat ((0 : Int), (0 : Int), (0 : Int))).snd.snd (↑f : Int) ≠
g) ∧
∀ (u1 : Nat → Value) (x2 : Nat) (w'2 : World),
(x2 ≤ (4 : Nat) ∧
Ext w'1 w'2 ∧
∀ (f : Nat),
f < x2 →
shapeK (letterK.getD (↑x1 : Int).toNat ((0 : Int), (0 : Int), (0 : Int))).snd.fst
(letterK.getD (↑x1 : Int).toNat ((0 : Int), (0 : Int), (0 : Int))).snd.snd (↑f : Int) ≠
g) →
bcase (decide ((↑x2 : Int) < (4 : Int)))
(∃ (k : Nat),
(↑x1 : Int) = (↑k : Int) ∧
k < (36 : Nat) ∧
∃ (k1 : Nat),
(0 : Int) = (↑k1 : Int) ∧
k1 < (2 : Nat) ∧
∃ (n : Int),
w'2.cell? { block := x, off := (0 : Nat) + k * (2 : Nat) + k1 } = some (Value.int IntKind.i32 n) ∧
∃ (g2 : Int × Int),
#[Value.int IntKind.i32 n, Value.int IntKind.i8 (↑x2 : Int)] =
#[Value.int IntKind.i32 g2.fst, Value.int IntKind.i8 g2.snd] ∧
True ∧
∀ (x3 : Int) (w'3 : World),
x3 = shapeOf g2.fst g2.snd ∧ Ext w'2 w'3 →
bcase (x3 == g)
(∃ (k2 : Nat),
(↑x1 : Int) = (↑k2 : Int) ∧
k2 < (36 : Nat) ∧
∃ (k3 : Nat),
(0 : Int) = (↑k3 : Int) ∧
k3 < (2 : Nat) ∧
∃ (n1 : Int),
w'3.cell? { block := x, off := (0 : Nat) + k2 * (2 : Nat) + k3 } = some (Value.int IntKind.i32 n1) ∧
∀ (b : Nat) (w1 : World),
New w'3 (Obj.cells #[Value.int IntKind.i32 n1] (21 : Nat)) b w1 →
∃ (x4 : Option Addr × Nat × Nat),
Value.slice (some { block := b, off := (0 : Nat) }) (1 : Nat) (1 : Nat) = Value.slice x4.fst x4.snd.fst x4.snd.snd ∧
x4.snd.fst = (plainR g).length ∧
Made w w1 (21 : TypeId) (1 : Nat) x4.fst x4.snd.fst (List.map (Value.int IntKind.i32) (plainR g)) x4.snd.snd)
(InR IntKind.i8 ((↑x2 : Int) + (1 : Int)) ∧
∃ (y : Nat),
Value.int IntKind.i8 ((↑x2 : Int) + (1 : Int)) = Value.int IntKind.i8 (↑y : Int) ∧
(y ≤ (4 : Nat) ∧
Ext w'1 w'3 ∧
∀ (f : Nat),
f < y →
shapeK (letterK.getD (↑x1 : Int).toNat ((0 : Int), (0 : Int), (0 : Int))).snd.fst
(letterK.getD (↑x1 : Int).toNat ((0 : Int), (0 : Int), (0 : Int))).snd.snd (↑f : Int) ≠
g) ∧
(4 : Nat) - y < (4 : Nat) - x2))
(InR IntKind.i64 ((↑x1 : Int) + (1 : Int)) ∧
∃ (y : Nat),
Value.int IntKind.i64 ((↑x1 : Int) + (1 : Int)) = Value.int IntKind.i64 (↑y : Int) ∧
(y ≤ (36 : Nat) ∧ findK letterK g = findK (List.drop y letterK) g ∧ Ext w' w'2) ∧ (36 : Nat) - y < (36 : Nat) - x1))
(∀ (b : Nat) (w1 : World),
New w'1 (Obj.cells #[Value.int IntKind.i32 g] (21 : Nat)) b w1 →
∃ (x2 : Option Addr × Nat × Nat),
Value.slice (some { block := b, off := (0 : Nat) }) (1 : Nat) (1 : Nat) = Value.slice x2.fst x2.snd.fst x2.snd.snd ∧
x2.snd.fst = (plainR g).length ∧
Made w w1 (21 : TypeId) (1 : Nat) x2.fst x2.snd.fst (List.map (Value.int IntKind.i32) (plainR g)) x2.snd.snd))) :
    (sPlain).Ok Try.prog 21 :=
  ok_of_vc sPlain annRPlain spRPlain (fun _ _ => rfl) (fun _ _ => rfl) hsp Try.func21 rfl (n := 1) (fun _ => rfl) (by kernel_rfl) (vcast (by kernel_rfl) h)

set_option maxRecDepth 1000000 in
theorem plain_vc (hsp : SpecsOk Try.prog spPlain) (h : ∀ (g : Int) (w : World),
True →
bcase (decide (g ≥ (65269 : Int)) && decide (g ≤ (65276 : Int)))
(∀ (b : Nat) (w1 : World),
New w
(Obj.cells
#[Value.int IntKind.i32 (1570 : Int), Value.int IntKind.i32 (1571 : Int), Value.int IntKind.i32 (1573 : Int),
Value.int IntKind.i32 (1575 : Int)]
(44 : Nat))
b w1 →
InR IntKind.i32 (g - (65269 : Int)) ∧
(0 : Int) ≤ g - (65269 : Int) ∧
(0 : Int) < (2 : Int) ∧
InR IntKind.i32 ((g - (65269 : Int)) / (2 : Int)) ∧
∃ (k : Nat),
(g - (65269 : Int)) / (2 : Int) = (↑k : Int) ∧
k < (4 : Nat) ∧
∃ (n : Int),
w1.cell? { block := b, off := (0 : Nat) + k } = some (Value.int IntKind.i32 n) ∧
∀ (b1 : Nat) (w11 : World),
New w1 (Obj.cells #[Value.int IntKind.i32 (1604 : Int), Value.int IntKind.i32 n] (21 : Nat)) b1 w11 →
∃ (x : Option Addr × Nat × Nat),
Value.slice (some { block := b1, off := (0 : Nat) }) (2 : Nat) (2 : Nat) = Value.slice x.fst x.snd.fst x.snd.snd ∧
x.snd.fst = (plainR g).length ∧
Made w w11 (21 : TypeId) (1 : Nat) x.fst x.snd.fst (List.map (Value.int IntKind.i32) (plainR g)) x.snd.snd)
(bcase (decide (g < (65152 : Int)) || decide (g > (65268 : Int)))
(∀ (b : Nat) (w1 : World),
New w (Obj.cells #[Value.int IntKind.i32 g] (21 : Nat)) b w1 →
∃ (x : Option Addr × Nat × Nat),
Value.slice (some { block := b, off := (0 : Nat) }) (1 : Nat) (1 : Nat) = Value.slice x.fst x.snd.fst x.snd.snd ∧
x.snd.fst = (plainR g).length ∧
Made w w1 (21 : TypeId) (1 : Nat) x.fst x.snd.fst (List.map (Value.int IntKind.i32) (plainR g)) x.snd.snd)
((∃ (x : Nat),
Value.int IntKind.i32 (1569 : Int) = Value.int IntKind.i32 ((1569 : Int) + (↑x : Int)) ∧
Value.int IntKind.i32 (1569 : Int) = Value.int IntKind.i32 (letA g x) ∧ x ≤ (42 : Nat) ∧ Ext w w) ∧
∀ (u : Nat → Value) (x : Nat) (w' : World),
x ≤ (42 : Nat) ∧ Ext w w' →
bcase (decide ((1569 : Int) + (↑x : Int) ≤ (1610 : Int)))
(∃ (g1 : Int),
#[Value.int IntKind.i32 ((1569 : Int) + (↑x : Int))] = #[Value.int IntKind.i32 g1] ∧
True ∧
∀ (x1 : Int) (w'1 : World),
x1 = firstA g1 ∧ Ext w' w'1 →
bcase (x1 != (0 : Int) && decide (x1 ≤ g))
(InR IntKind.i32 ((1569 : Int) + (↑x : Int) + (1 : Int)) ∧
∃ (y : Nat),
Value.int IntKind.i32 ((1569 : Int) + (↑x : Int) + (1 : Int)) = Value.int IntKind.i32 ((1569 : Int) + (↑y : Int)) ∧
Value.int IntKind.i32 ((1569 : Int) + (↑x : Int)) = Value.int IntKind.i32 (letA g y) ∧
(y ≤ (42 : Nat) ∧ Ext w w'1) ∧ (42 : Nat) - y < (42 : Nat) - x)
(InR IntKind.i32 ((1569 : Int) + (↑x : Int) + (1 : Int)) ∧
∃ (y : Nat),
Value.int IntKind.i32 ((1569 : Int) + (↑x : Int) + (1 : Int)) = Value.int IntKind.i32 ((1569 : Int) + (↑y : Int)) ∧
Value.int IntKind.i32 (letA g x) = Value.int IntKind.i32 (letA g y) ∧
(y ≤ (42 : Nat) ∧ Ext w w'1) ∧ (42 : Nat) - y < (42 : Nat) - x))
(∀ (b : Nat) (w1 : World),
New w' (Obj.cells #[Value.int IntKind.i32 (letA g x)] (21 : Nat)) b w1 →
∃ (x1 : Option Addr × Nat × Nat),
Value.slice (some { block := b, off := (0 : Nat) }) (1 : Nat) (1 : Nat) = Value.slice x1.fst x1.snd.fst x1.snd.snd ∧
x1.snd.fst = (plainR g).length ∧
Made w w1 (21 : TypeId) (1 : Nat) x1.fst x1.snd.fst (List.map (Value.int IntKind.i32) (plainR g)) x1.snd.snd)))) :
    (sPlain).Ok Try.prog 22 :=
  ok_of_vc sPlain annPlain spPlain (fun _ _ => rfl) (fun _ _ => rfl) hsp Try.func22 rfl (n := 1) (fun _ => rfl) (by kernel_rfl) (vcast (by kernel_rfl) h)

set_option maxRecDepth 1000000 in
theorem rshaped_vc (hsp : SpecsOk Try.prog spRShaped) (h : ∀ (g : GSl) (w : World),
GSl.at IntKind.i32 g w →
∃ (g1 : GSl),
#[Value.slice g.ad g.xs.length g.c] = #[Value.slice g1.ad g1.xs.length g1.c] ∧
GSl.at IntKind.i32 g1 w ∧
∀ (x : Option Addr × Nat × Nat) (w' : World),
x.snd.fst = (formsR g1.xs).length ∧
Made w w' (27 : TypeId) (1 : Nat) x.fst x.snd.fst (List.map (Value.int IntKind.i8) (formsR g1.xs)) x.snd.snd →
(∃ (x1 : Nat × Option Addr × Nat),
Value.int IntKind.i64 (0 : Int) = Value.int IntKind.i64 (↑x1.fst : Int) ∧
Value.slice none (0 : Nat) (0 : Nat) = Value.slice x1.snd.fst x1.fst x1.snd.snd ∧
x1.fst ≤ g.xs.length ∧
Made w' w' (21 : TypeId) (1 : Nat) x1.snd.fst x1.fst
(List.map (Value.int IntKind.i32) (List.take x1.fst (shapedR g.xs))) x1.snd.snd) ∧
∀ (u : Nat → Value) (x1 : Nat × Option Addr × Nat) (w'1 : World),
x1.fst ≤ g.xs.length ∧
Made w' w'1 (21 : TypeId) (1 : Nat) x1.snd.fst x1.fst
(List.map (Value.int IntKind.i32) (List.take x1.fst (shapedR g.xs))) x1.snd.snd →
bcase (decide ((↑x1.fst : Int) < (↑g.xs.length : Int)))
(∀ (w1 : World),
Drew w'1 w1 →
∃ (k : Nat),
(↑x1.fst : Int) = (↑k : Int) ∧
k < g.xs.length ∧
ptrE g.ad fun (b o : Nat) =>
∃ (n : Int),
w'1.cell? { block := b, off := o + k } = some (Value.int IntKind.i32 n) ∧
∃ (k1 : Nat),
(↑x1.fst : Int) = (↑k1 : Int) ∧
k1 < x.snd.fst ∧
ptrE x.fst fun (b1 o1 : Nat) =>
∃ (n1 : Int),
w'1.cell? { block := b1, off := o1 + k1 } = some (Value.int IntKind.i8 n1) ∧
∃ (g2 : Int × Int),
#[Value.int IntKind.i32 n, Value.int IntKind.i8 n1] = #[Value.int IntKind.i32 g2.fst, Value.int IntKind.i8 g2.snd] ∧
True ∧
∀ (x2 : Int) (w'2 : World),
x2 = shapeOf g2.fst g2.snd ∧ Ext w1 w'2 →
Below w1.heap.size w1 w'2 ∧
∀ (b2 : Nat) (w11 : World),
New w'2 (Obj.cells #[Value.int IntKind.i32 x2] (21 : Nat)) b2 w11 →
Below w'2.heap.size w'2 w11 ∧
∃ (a' : Option Addr),
∃ (c' : Nat),
∃ (w'3 : World),
AppRun Try.prog #[(22 : Nat), (22 : Nat)] (22 : Nat) (Value.slice x1.snd.fst x1.fst x1.snd.snd)
(Value.slice (some { block := b2, off := (0 : Nat) }) (1 : Nat) (1 : Nat)) w11 a' (x1.fst + (1 : Nat)) c' w'3 ∧
KO w11 w'3 ∧
InR IntKind.i64 ((↑x1.fst : Int) + (1 : Int)) ∧
∃ (y : Nat × Option Addr × Nat),
Value.int IntKind.i64 ((↑x1.fst : Int) + (1 : Int)) = Value.int IntKind.i64 (↑y.fst : Int) ∧
Value.slice a' (x1.fst + (1 : Nat)) c' = Value.slice y.snd.fst y.fst y.snd.snd ∧
(y.fst ≤ g.xs.length ∧
Made w' w'3 (21 : TypeId) (1 : Nat) y.snd.fst y.fst (List.map (Value.int IntKind.i32) (List.take y.fst (shapedR g.xs)))
y.snd.snd) ∧
g.xs.length - y.fst < g.xs.length - x1.fst)
(∃ (x2 : Option Addr × Nat × Nat),
Value.slice x1.snd.fst x1.fst x1.snd.snd = Value.slice x2.fst x2.snd.fst x2.snd.snd ∧
x2.snd.fst = (shapedR g.xs).length ∧
Made w w'1 (21 : TypeId) (1 : Nat) x2.fst x2.snd.fst (List.map (Value.int IntKind.i32) (shapedR g.xs)) x2.snd.snd)) :
    ((sList .i32 .i32 21 shapedR)).Ok Try.prog 17 :=
  ok_of_vc (sList .i32 .i32 21 shapedR) annRShaped spRShaped (fun _ _ => rfl) (fun _ _ => rfl) hsp Try.func17 rfl (n := 1) (fun _ => rfl) (by kernel_rfl) (vcast (by kernel_rfl) h)

set_option maxRecDepth 1000000 in
theorem shaped_vc (hsp : SpecsOk Try.prog spShaped) (h : ∀ (g : GSl) (w : World),
GSl.at IntKind.i32 g w →
∃ (n : Nat),
∃ (m : Nat),
(↑g.xs.length : Int) = (↑n : Int) ∧
(↑g.xs.length : Int) = (↑m : Int) ∧
n ≤ m ∧
(4 : Nat) * m ≤ (281474976710656 : Nat) ∧
m ≤ (9223372036854775807 : Nat) ∧
∀ (b : Nat) (w1 : World),
New w (Obj.cells (mkRow (Value.int IntKind.i32 (0 : Int)).cells m) (21 : Nat)) b w1 →
∃ (g1 : GSl),
#[Value.slice g.ad g.xs.length g.c] = #[Value.slice g1.ad g1.xs.length g1.c] ∧
GSl.at IntKind.i32 g1 w1 ∧
∀ (x : Option Addr × Nat × Nat) (w' : World),
x.snd.fst = (formsR g1.xs).length ∧
Made w1 w' (27 : TypeId) (1 : Nat) x.fst x.snd.fst (List.map (Value.int IntKind.i8) (formsR g1.xs)) x.snd.snd →
(∃ (x1 : Nat),
Value.int IntKind.i64 (0 : Int) = Value.int IntKind.i64 (↑x1 : Int) ∧
x1 ≤ g.xs.length ∧
∃ (b1 : Nat),
Value.slice (some { block := b, off := (0 : Nat) }) n m =
Value.slice (some { block := b1, off := (0 : Nat) }) g.xs.length g.xs.length ∧
Fr (fun (q : Nat) => q = b1) w' w' ∧
Row w' (21 : TypeId) (1 : Nat) (some { block := b1, off := (0 : Nat) }) g.xs.length
(List.map (Value.int IntKind.i32) (List.take x1 (shapedR g.xs) ++ List.replicate (g.xs.length - x1) (0 : Int)))
g.xs.length) ∧
∀ (u : Nat → Value) (x1 : Nat) (w'1 : World),
(x1 ≤ g.xs.length ∧
∃ (b1 : Nat),
Value.slice (some { block := b, off := (0 : Nat) }) n m =
Value.slice (some { block := b1, off := (0 : Nat) }) g.xs.length g.xs.length ∧
Fr (fun (q : Nat) => q = b1) w' w'1 ∧
Row w'1 (21 : TypeId) (1 : Nat) (some { block := b1, off := (0 : Nat) }) g.xs.length
(List.map (Value.int IntKind.i32) (List.take x1 (shapedR g.xs) ++ List.replicate (g.xs.length - x1) (0 : Int)))
g.xs.length) →
bcase (decide ((↑x1 : Int) < (↑x.snd.fst : Int)))
(∃ (k : Nat),
(↑x1 : Int) = (↑k : Int) ∧
k < x.snd.fst ∧
ptrE x.fst fun (b1 o : Nat) =>
∃ (n1 : Int),
w'1.cell? { block := b1, off := o + k } = some (Value.int IntKind.i8 n1) ∧
∃ (k1 : Nat),
(↑x1 : Int) = (↑k1 : Int) ∧
k1 < g.xs.length ∧
ptrE g.ad fun (b2 o1 : Nat) =>
∃ (n2 : Int),
w'1.cell? { block := b2, off := o1 + k1 } = some (Value.int IntKind.i32 n2) ∧
∃ (g2 : Int × Int),
#[Value.int IntKind.i32 n2, Value.int IntKind.i8 n1] = #[Value.int IntKind.i32 g2.fst, Value.int IntKind.i8 g2.snd] ∧
True ∧
∀ (x2 : Int) (w'2 : World),
x2 = shapeOf g2.fst g2.snd ∧ Ext w'1 w'2 →
∃ (k2 : Nat),
(↑x1 : Int) = (↑k2 : Int) ∧
k2 < n ∧
true = true ∧
(∃ (old : Value), w'2.cell? { block := b, off := (0 : Nat) + k2 } = some old) ∧
w'2.frozen? { block := b, off := (0 : Nat) + k2 } = false ∧
∀ (w11 : World),
Stored w'2 { block := b, off := (0 : Nat) + k2 } (Value.int IntKind.i32 x2) w11 →
InR IntKind.i64 ((↑x1 : Int) + (1 : Int)) ∧
∃ (y : Nat),
Value.int IntKind.i64 ((↑x1 : Int) + (1 : Int)) = Value.int IntKind.i64 (↑y : Int) ∧
(y ≤ g.xs.length ∧
∃ (b3 : Nat),
Value.slice (some { block := b, off := (0 : Nat) }) n m =
Value.slice (some { block := b3, off := (0 : Nat) }) g.xs.length g.xs.length ∧
Fr (fun (q : Nat) => q = b3) w' w11 ∧
Row w11 (21 : TypeId) (1 : Nat) (some { block := b3, off := (0 : Nat) }) g.xs.length
(List.map (Value.int IntKind.i32) (List.take y (shapedR g.xs) ++ List.replicate (g.xs.length - y) (0 : Int)))
g.xs.length) ∧
g.xs.length - y < g.xs.length - x1)
(∃ (x2 : Option Addr × Nat × Nat),
Value.slice (some { block := b, off := (0 : Nat) }) n m = Value.slice x2.fst x2.snd.fst x2.snd.snd ∧
x2.snd.fst = (shapedR g.xs).length ∧
Made w w'1 (21 : TypeId) (1 : Nat) x2.fst x2.snd.fst (List.map (Value.int IntKind.i32) (shapedR g.xs)) x2.snd.snd)) :
    ((sList .i32 .i32 21 shapedR)).Ok Try.prog 18 :=
  ok_of_vc (sList .i32 .i32 21 shapedR) annShaped spShaped (fun _ _ => rfl) (fun _ _ => rfl) hsp Try.func18 rfl (n := 1) (fun _ => rfl) (by kernel_rfl) (vcast (by kernel_rfl) h)

set_option maxRecDepth 1000000 in
theorem plainl_vc (hsp : SpecsOk Try.prog spPlainL) (h : ∀ (g : GSl) (w : World),
GSl.at IntKind.i32 g w ∧ g.xs.length ≤ (4194304 : Nat) →
(∃ (x : Nat × Option Addr × Nat),
Value.int IntKind.i64 (0 : Int) = Value.int IntKind.i64 (↑x.fst : Int) ∧
Value.slice none (0 : Nat) (0 : Nat) =
Value.slice x.snd.fst (List.flatMap plainR (List.take x.fst g.xs)).length x.snd.snd ∧
x.fst ≤ g.xs.length ∧
Made w w (21 : TypeId) (1 : Nat) x.snd.fst (List.flatMap plainR (List.take x.fst g.xs)).length
(List.map (Value.int IntKind.i32) (List.flatMap plainR (List.take x.fst g.xs))) x.snd.snd) ∧
∀ (u : Nat → Value) (x : Nat × Option Addr × Nat) (w' : World),
x.fst ≤ g.xs.length ∧
Made w w' (21 : TypeId) (1 : Nat) x.snd.fst (List.flatMap plainR (List.take x.fst g.xs)).length
(List.map (Value.int IntKind.i32) (List.flatMap plainR (List.take x.fst g.xs))) x.snd.snd →
bcase (decide ((↑x.fst : Int) < (↑g.xs.length : Int)))
(∃ (k : Nat),
(↑x.fst : Int) = (↑k : Int) ∧
k < g.xs.length ∧
ptrE g.ad fun (b o : Nat) =>
∃ (n : Int),
w'.cell? { block := b, off := o + k } = some (Value.int IntKind.i32 n) ∧
∃ (g1 : Int),
#[Value.int IntKind.i32 n] = #[Value.int IntKind.i32 g1] ∧
True ∧
∀ (x1 : Option Addr × Nat × Nat) (w'1 : World),
x1.snd.fst = (plainR g1).length ∧
Made w' w'1 (21 : TypeId) (1 : Nat) x1.fst x1.snd.fst (List.map (Value.int IntKind.i32) (plainR g1)) x1.snd.snd →
∃ (a' : Option Addr),
∃ (c' : Nat),
∃ (w'2 : World),
AppRun Try.prog #[(22 : Nat), (22 : Nat)] (22 : Nat)
(Value.slice x.snd.fst (List.flatMap plainR (List.take x.fst g.xs)).length x.snd.snd)
(Value.slice x1.fst x1.snd.fst x1.snd.snd) w'1 a' ((List.flatMap plainR (List.take x.fst g.xs)).length + x1.snd.fst) c'
w'2 ∧
KO w'1 w'2 ∧
InR IntKind.i64 ((↑x.fst : Int) + (1 : Int)) ∧
∃ (y : Nat × Option Addr × Nat),
Value.int IntKind.i64 ((↑x.fst : Int) + (1 : Int)) = Value.int IntKind.i64 (↑y.fst : Int) ∧
Value.slice a' ((List.flatMap plainR (List.take x.fst g.xs)).length + x1.snd.fst) c' =
Value.slice y.snd.fst (List.flatMap plainR (List.take y.fst g.xs)).length y.snd.snd ∧
(y.fst ≤ g.xs.length ∧
Made w w'2 (21 : TypeId) (1 : Nat) y.snd.fst (List.flatMap plainR (List.take y.fst g.xs)).length
(List.map (Value.int IntKind.i32) (List.flatMap plainR (List.take y.fst g.xs))) y.snd.snd) ∧
g.xs.length - y.fst < g.xs.length - x.fst)
(∃ (x1 : Option Addr × Nat × Nat),
Value.slice x.snd.fst (List.flatMap plainR (List.take x.fst g.xs)).length x.snd.snd =
Value.slice x1.fst x1.snd.fst x1.snd.snd ∧
x1.snd.fst = (List.flatMap plainR g.xs).length ∧
Made w w' (21 : TypeId) (1 : Nat) x1.fst x1.snd.fst (List.map (Value.int IntKind.i32) (List.flatMap plainR g.xs))
x1.snd.snd)) :
    ((sListU .i32 .i32 21 (fun xs => xs.flatMap plainR))).Ok Try.prog 25 :=
  ok_of_vc (sListU .i32 .i32 21 (fun xs => xs.flatMap plainR)) annPlainL spPlainL (fun _ _ => rfl) (fun _ _ => rfl) hsp Try.func25 rfl (n := 1) (fun _ => rfl) (by kernel_rfl) (vcast (by kernel_rfl) h)

set_option maxRecDepth 1000000 in
theorem works_vc (hsp : SpecsOk Try.prog spWorks) (h : ∀ (g : Unit) (w : World),
True →
∀ (b : Nat) (w1 : World),
New w
(Obj.cells
#[Value.int IntKind.i32 (1576 : Int), Value.int IntKind.i32 (1611 : Int), Value.int IntKind.i32 (1575 : Int),
Value.int IntKind.i32 (1576 : Int)]
(21 : Nat))
b w1 →
∃ (g1 : GSl),
#[Value.slice (some { block := b, off := (0 : Nat) }) (4 : Nat) (4 : Nat)] = #[Value.slice g1.ad g1.xs.length g1.c] ∧
GSl.at IntKind.i32 g1 w1 ∧
∀ (x : Option Addr × Nat × Nat) (w' : World),
x.snd.fst = (formsR g1.xs).length ∧
Made w1 w' (27 : TypeId) (1 : Nat) x.fst x.snd.fst (List.map (Value.int IntKind.i8) (formsR g1.xs)) x.snd.snd →
∀ (b1 : Nat) (w11 : World),
New w'
(Obj.cells
#[Value.int IntKind.i8 (1 : Int), Value.int IntKind.i8 (0 : Int), Value.int IntKind.i8 (3 : Int),
Value.int IntKind.i8 (0 : Int)]
(27 : Nat))
b1 w11 →
∃ (g2 : GTwo),
#[Value.slice x.fst x.snd.fst x.snd.snd, Value.slice (some { block := b1, off := (0 : Nat) }) (4 : Nat) (4 : Nat)] =
#[Value.slice g2.a.ad g2.a.xs.length g2.a.c, Value.slice g2.b.ad g2.b.xs.length g2.b.c] ∧
(GSl.at IntKind.i8 g2.a w11 ∧ GSl.at IntKind.i8 g2.b w11) ∧
∀ (x1 : Bool) (w'1 : World),
x1 = decide (g2.a.xs = g2.b.xs) ∧ Ext w11 w'1 →
bcase x1
(∃ (g3 : Int × Int),
#[Value.int IntKind.i32 (1576 : Int), Value.int IntKind.i8 (2 : Int)] =
#[Value.int IntKind.i32 g3.fst, Value.int IntKind.i8 g3.snd] ∧
True ∧
∀ (x2 : Int) (w'2 : World),
x2 = shapeOf g3.fst g3.snd ∧ Ext w'1 w'2 →
bcase (x2 == (65170 : Int))
(∀ (b2 : Nat) (w12 : World),
New w'2 (Obj.cells #[Value.int IntKind.i32 (1604 : Int), Value.int IntKind.i32 (1575 : Int)] (21 : Nat)) b2 w12 →
∃ (g4 : GSl),
#[Value.slice (some { block := b2, off := (0 : Nat) }) (2 : Nat) (2 : Nat)] = #[Value.slice g4.ad g4.xs.length g4.c] ∧
GSl.at IntKind.i32 g4 w12 ∧
∀ (x3 : Option Addr × Nat × Nat) (w'3 : World),
x3.snd.fst = (shapedR g4.xs).length ∧
Made w12 w'3 (21 : TypeId) (1 : Nat) x3.fst x3.snd.fst (List.map (Value.int IntKind.i32) (shapedR g4.xs)) x3.snd.snd →
∀ (b3 : Nat) (w13 : World),
New w'3 (Obj.cells #[Value.int IntKind.i32 (65247 : Int), Value.int IntKind.i32 (65166 : Int)] (21 : Nat)) b3 w13 →
∃ (g5 : GTwo),
#[Value.slice x3.fst x3.snd.fst x3.snd.snd, Value.slice (some { block := b3, off := (0 : Nat) }) (2 : Nat) (2 : Nat)] =
#[Value.slice g5.a.ad g5.a.xs.length g5.a.c, Value.slice g5.b.ad g5.b.xs.length g5.b.c] ∧
(GSl.at IntKind.i32 g5.a w13 ∧ GSl.at IntKind.i32 g5.b w13) ∧
∀ (x4 : Bool) (w'4 : World),
x4 = decide (g5.a.xs = g5.b.xs) ∧ Ext w13 w'4 →
bcase x4
(∃ (g6 : Int),
#[Value.int IntKind.i32 (65275 : Int)] = #[Value.int IntKind.i32 g6] ∧
True ∧
∀ (x5 : Option Addr × Nat × Nat) (w'5 : World),
x5.snd.fst = (plainR g6).length ∧
Made w'4 w'5 (21 : TypeId) (1 : Nat) x5.fst x5.snd.fst (List.map (Value.int IntKind.i32) (plainR g6)) x5.snd.snd →
∀ (b4 : Nat) (w14 : World),
New w'5 (Obj.cells #[Value.int IntKind.i32 (1604 : Int), Value.int IntKind.i32 (1575 : Int)] (21 : Nat)) b4 w14 →
∃ (g7 : GTwo),
#[Value.slice x5.fst x5.snd.fst x5.snd.snd, Value.slice (some { block := b4, off := (0 : Nat) }) (2 : Nat) (2 : Nat)] =
#[Value.slice g7.a.ad g7.a.xs.length g7.a.c, Value.slice g7.b.ad g7.b.xs.length g7.b.c] ∧
(GSl.at IntKind.i32 g7.a w14 ∧ GSl.at IntKind.i32 g7.b w14) ∧
∀ (x6 : Bool) (w'6 : World),
x6 = decide (g7.a.xs = g7.b.xs) ∧ Ext w14 w'6 →
bcase x6
(∃ (g8 : Int),
#[Value.int IntKind.i32 (97 : Int)] = #[Value.int IntKind.i32 g8] ∧
True ∧
∀ (x7 : Option Addr × Nat × Nat) (w'7 : World),
x7.snd.fst = (plainR g8).length ∧
Made w'6 w'7 (21 : TypeId) (1 : Nat) x7.fst x7.snd.fst (List.map (Value.int IntKind.i32) (plainR g8)) x7.snd.snd →
∀ (b5 : Nat) (w15 : World),
New w'7 (Obj.cells #[Value.int IntKind.i32 (97 : Int)] (21 : Nat)) b5 w15 →
∃ (g9 : GTwo),
#[Value.slice x7.fst x7.snd.fst x7.snd.snd, Value.slice (some { block := b5, off := (0 : Nat) }) (1 : Nat) (1 : Nat)] =
#[Value.slice g9.a.ad g9.a.xs.length g9.a.c, Value.slice g9.b.ad g9.b.xs.length g9.b.c] ∧
(GSl.at IntKind.i32 g9.a w15 ∧ GSl.at IntKind.i32 g9.b w15) ∧
∀ (x8 : Bool) (w'8 : World),
x8 = decide (g9.a.xs = g9.b.xs) ∧ Ext w15 w'8 → ∃ (x9 : Unit), Value.bool x8 = Value.bool true ∧ Ext w w'8)
(∃ (x7 : Unit), Value.bool false = Value.bool true ∧ Ext w w'6))
(∃ (x5 : Unit), Value.bool false = Value.bool true ∧ Ext w w'4))
(∃ (x3 : Unit), Value.bool false = Value.bool true ∧ Ext w w'2))
(∃ (x2 : Unit), Value.bool false = Value.bool true ∧ Ext w w'1)) :
    (sYes).Ok Try.prog 16 :=
  ok_of_vc sYes (fun g _ => annNone spWorks g) spWorks (fun _ _ => rfl) (fun _ _ => rfl) hsp Try.func16 rfl (n := 0) (fun _ => rfl) (by kernel_rfl) (vcast (by kernel_rfl) h)

end Go.Proofs.Ytliihpdhoimmoaa
