/-
  Verification conditions, printed by a program out of the specifications beside this text: each theorem says that the condition suffices. (Lean's kernel compares the printed condition with what 'wpE' computes.)
-/
import Derived.Test.YtliihpdhoimmoaaSpB
import Derived.Test.YtliihpdhoimmoaaProg
import Derived.KernelRfl
set_option linter.unusedVariables false
namespace Go.Proofs.Ytliihpdhoimmoaa
open Go Go.RowKit Vc Tb

set_option maxRecDepth 1000000 in
theorem neighbour_vc (hsp : SpecsOk Try.prog spNb) (h : ∀ (g : GNb) (w : World),
GSl.at IntKind.i32 g.l w ∧ g.i < g.l.xs.length ∧ (g.by' = (1 : Int) ∨ g.by' = (-1 : Int)) →
InR IntKind.i64 ((↑g.i : Int) + g.by') ∧
(∃ (x : Nat),
Value.int IntKind.i64 ((↑g.i : Int) + g.by') =
Value.int IntKind.i64 (if g.by' = (1 : Int) then (↑x : Int) else (↑x : Int) - (1 : Int)) ∧
x ≤ g.l.xs.length ∧
w = w ∧
if g.by' = (1 : Int) then nextJ (List.drop x g.l.xs) = nextJ (List.drop (g.i + (1 : Nat)) g.l.xs)
else nextJ (List.take x g.l.xs).reverse = nextJ (List.take g.i g.l.xs).reverse) ∧
∀ (u : Nat → Value) (x : Nat) (w' : World),
(x ≤ g.l.xs.length ∧
w' = w ∧
if g.by' = (1 : Int) then nextJ (List.drop x g.l.xs) = nextJ (List.drop (g.i + (1 : Nat)) g.l.xs)
else nextJ (List.take x g.l.xs).reverse = nextJ (List.take g.i g.l.xs).reverse) →
bcase
(decide ((if g.by' = (1 : Int) then (↑x : Int) else (↑x : Int) - (1 : Int)) ≥ (0 : Int)) &&
decide ((if g.by' = (1 : Int) then (↑x : Int) else (↑x : Int) - (1 : Int)) < (↑g.l.xs.length : Int)))
(∃ (k : Nat),
(if g.by' = (1 : Int) then (↑x : Int) else (↑x : Int) - (1 : Int)) = (↑k : Int) ∧
k < g.l.xs.length ∧
ptrE g.l.ad fun (b o : Nat) =>
∃ (n : Int),
w'.cell? { block := b, off := o + k } = some (Value.int IntKind.i32 n) ∧
∃ (g1 : Int),
#[Value.int IntKind.i32 n] = #[Value.int IntKind.i32 g1] ∧
True ∧
∀ (x1 : Int) (w'1 : World),
x1 = joinR g1 ∧ w'1 = w' →
bcase (x1 != (4 : Int))
(∃ (x2 : Int),
Value.int IntKind.i8 x1 = Value.int IntKind.i8 x2 ∧
(x2 = if g.by' = (1 : Int) then nextJ (List.drop (g.i + (1 : Nat)) g.l.xs) else nextJ (List.take g.i g.l.xs).reverse) ∧
w'1 = w)
(InR IntKind.i64 ((if g.by' = (1 : Int) then (↑x : Int) else (↑x : Int) - (1 : Int)) + g.by') ∧
∃ (y : Nat),
Value.int IntKind.i64 ((if g.by' = (1 : Int) then (↑x : Int) else (↑x : Int) - (1 : Int)) + g.by') =
Value.int IntKind.i64 (if g.by' = (1 : Int) then (↑y : Int) else (↑y : Int) - (1 : Int)) ∧
(y ≤ g.l.xs.length ∧
w'1 = w ∧
if g.by' = (1 : Int) then nextJ (List.drop y g.l.xs) = nextJ (List.drop (g.i + (1 : Nat)) g.l.xs)
else nextJ (List.take y g.l.xs).reverse = nextJ (List.take g.i g.l.xs).reverse) ∧
(if g.by' = (1 : Int) then g.l.xs.length - y else y) < if g.by' = (1 : Int) then g.l.xs.length - x else x))
(∃ (x1 : Int),
Value.int IntKind.i8 (0 : Int) = Value.int IntKind.i8 x1 ∧
(x1 = if g.by' = (1 : Int) then nextJ (List.drop (g.i + (1 : Nat)) g.l.xs) else nextJ (List.take g.i g.l.xs).reverse) ∧
w' = w)) :
    (sNeighbour).Ok Try.prog 29 :=
  ok_of_vc sNeighbour (fun g _ => annNeighbour g) spNb (fun _ _ => rfl) (fun _ _ => rfl) hsp Try.func29 rfl (n := 3) (fun _ => rfl) (by kernel_rfl) (vcast (by kernel_rfl) h)

set_option maxRecDepth 1000000 in
theorem rforms_vc (hsp : SpecsOk Try.prog spRForms) (h : ∀ (g : GSl) (w : World),
GSl.at IntKind.i32 g w →
(∃ (x : Nat × Option Addr × Nat),
Value.int IntKind.i64 (0 : Int) = Value.int IntKind.i64 (↑x.fst : Int) ∧
Value.slice none (0 : Nat) (0 : Nat) = Value.slice x.snd.fst x.fst x.snd.snd ∧
x.fst ≤ g.xs.length ∧
Made w w (27 : TypeId) (1 : Nat) x.snd.fst x.fst (List.map (Value.int IntKind.i8) (List.take x.fst (formsR g.xs)))
x.snd.snd) ∧
∀ (u : Nat → Value) (x : Nat × Option Addr × Nat) (w' : World),
x.fst ≤ g.xs.length ∧
Made w w' (27 : TypeId) (1 : Nat) x.snd.fst x.fst (List.map (Value.int IntKind.i8) (List.take x.fst (formsR g.xs)))
x.snd.snd →
bcase (decide ((↑x.fst : Int) < (↑g.xs.length : Int)))
(∃ (k : Nat),
(↑x.fst : Int) = (↑k : Int) ∧
k < g.xs.length ∧
ptrE g.ad fun (b o : Nat) =>
∃ (n : Int),
w'.cell? { block := b, off := o + k } = some (Value.int IntKind.i32 n) ∧
∃ (g1 : Int),
#[Value.int IntKind.i32 n] = #[Value.int IntKind.i32 g1] ∧
True ∧
∀ (x1 : Int) (w'1 : World),
x1 = joinR g1 ∧ w'1 = w' →
∃ (g2 : GNb),
#[Value.slice g.ad g.xs.length g.c, Value.int IntKind.i64 (↑x.fst : Int), Value.int IntKind.i64 (-1 : Int)] =
#[Value.slice g2.l.ad g2.l.xs.length g2.l.c, Value.int IntKind.i64 (↑g2.i : Int), Value.int IntKind.i64 g2.by'] ∧
(GSl.at IntKind.i32 g2.l w'1 ∧ g2.i < g2.l.xs.length ∧ (g2.by' = (1 : Int) ∨ g2.by' = (-1 : Int))) ∧
∀ (x2 : Int) (w'2 : World),
(x2 =
if g2.by' = (1 : Int) then nextJ (List.drop (g2.i + (1 : Nat)) g2.l.xs) else nextJ (List.take g2.i g2.l.xs).reverse) ∧
w'2 = w'1 →
∃ (g3 : GNb),
#[Value.slice g.ad g.xs.length g.c, Value.int IntKind.i64 (↑x.fst : Int), Value.int IntKind.i64 (1 : Int)] =
#[Value.slice g3.l.ad g3.l.xs.length g3.l.c, Value.int IntKind.i64 (↑g3.i : Int), Value.int IntKind.i64 g3.by'] ∧
(GSl.at IntKind.i32 g3.l w'2 ∧ g3.i < g3.l.xs.length ∧ (g3.by' = (1 : Int) ∨ g3.by' = (-1 : Int))) ∧
∀ (x3 : Int) (w'3 : World),
(x3 =
if g3.by' = (1 : Int) then nextJ (List.drop (g3.i + (1 : Nat)) g3.l.xs) else nextJ (List.take g3.i g3.l.xs).reverse) ∧
w'3 = w'2 →
bcase
((x1 == (1 : Int) || x1 == (2 : Int)) && (x2 == (2 : Int) || x2 == (3 : Int)) &&
(x1 == (2 : Int) && (x3 == (1 : Int) || (x3 == (2 : Int) || x3 == (3 : Int)))))
(∀ (b1 : Nat) (w1 : World),
New w'3 (Obj.cells #[Value.int IntKind.i8 (2 : Int)] (27 : Nat)) b1 w1 →
∃ (a' : Option Addr),
∃ (c' : Nat),
∃ (w'4 : World),
AppRun Try.prog #[(23 : Nat), (23 : Nat)] (23 : Nat) (Value.slice x.snd.fst x.fst x.snd.snd)
(Value.slice (some { block := b1, off := (0 : Nat) }) (1 : Nat) (1 : Nat)) w1 a' (x.fst + (1 : Nat)) c' w'4 ∧
KO w1 w'4 ∧
InR IntKind.i64 ((↑x.fst : Int) + (1 : Int)) ∧
∃ (y : Nat × Option Addr × Nat),
Value.int IntKind.i64 ((↑x.fst : Int) + (1 : Int)) = Value.int IntKind.i64 (↑y.fst : Int) ∧
Value.slice a' (x.fst + (1 : Nat)) c' = Value.slice y.snd.fst y.fst y.snd.snd ∧
(y.fst ≤ g.xs.length ∧
Made w w'4 (27 : TypeId) (1 : Nat) y.snd.fst y.fst (List.map (Value.int IntKind.i8) (List.take y.fst (formsR g.xs)))
y.snd.snd) ∧
g.xs.length - y.fst < g.xs.length - x.fst)
(bcase ((x1 == (1 : Int) || x1 == (2 : Int)) && (x2 == (2 : Int) || x2 == (3 : Int)))
(∀ (b1 : Nat) (w1 : World),
New w'3 (Obj.cells #[Value.int IntKind.i8 (3 : Int)] (27 : Nat)) b1 w1 →
∃ (a' : Option Addr),
∃ (c' : Nat),
∃ (w'4 : World),
AppRun Try.prog #[(23 : Nat), (23 : Nat)] (23 : Nat) (Value.slice x.snd.fst x.fst x.snd.snd)
(Value.slice (some { block := b1, off := (0 : Nat) }) (1 : Nat) (1 : Nat)) w1 a' (x.fst + (1 : Nat)) c' w'4 ∧
KO w1 w'4 ∧
InR IntKind.i64 ((↑x.fst : Int) + (1 : Int)) ∧
∃ (y : Nat × Option Addr × Nat),
Value.int IntKind.i64 ((↑x.fst : Int) + (1 : Int)) = Value.int IntKind.i64 (↑y.fst : Int) ∧
Value.slice a' (x.fst + (1 : Nat)) c' = Value.slice y.snd.fst y.fst y.snd.snd ∧
(y.fst ≤ g.xs.length ∧
Made w w'4 (27 : TypeId) (1 : Nat) y.snd.fst y.fst (List.map (Value.int IntKind.i8) (List.take y.fst (formsR g.xs)))
y.snd.snd) ∧
g.xs.length - y.fst < g.xs.length - x.fst)
(bcase (x1 == (2 : Int) && (x3 == (1 : Int) || (x3 == (2 : Int) || x3 == (3 : Int))))
(∀ (b1 : Nat) (w1 : World),
New w'3 (Obj.cells #[Value.int IntKind.i8 (1 : Int)] (27 : Nat)) b1 w1 →
∃ (a' : Option Addr),
∃ (c' : Nat),
∃ (w'4 : World),
AppRun Try.prog #[(23 : Nat), (23 : Nat)] (23 : Nat) (Value.slice x.snd.fst x.fst x.snd.snd)
(Value.slice (some { block := b1, off := (0 : Nat) }) (1 : Nat) (1 : Nat)) w1 a' (x.fst + (1 : Nat)) c' w'4 ∧
KO w1 w'4 ∧
InR IntKind.i64 ((↑x.fst : Int) + (1 : Int)) ∧
∃ (y : Nat × Option Addr × Nat),
Value.int IntKind.i64 ((↑x.fst : Int) + (1 : Int)) = Value.int IntKind.i64 (↑y.fst : Int) ∧
Value.slice a' (x.fst + (1 : Nat)) c' = Value.slice y.snd.fst y.fst y.snd.snd ∧
(y.fst ≤ g.xs.length ∧
Made w w'4 (27 : TypeId) (1 : Nat) y.snd.fst y.fst (List.map (Value.int IntKind.i8) (List.take y.fst (formsR g.xs)))
y.snd.snd) ∧
g.xs.length - y.fst < g.xs.length - x.fst)
(∀ (b1 : Nat) (w1 : World),
New w'3 (Obj.cells #[Value.int IntKind.i8 (0 : Int)] (27 : Nat)) b1 w1 →
∃ (a' : Option Addr),
∃ (c' : Nat),
∃ (w'4 : World),
AppRun Try.prog #[(23 : Nat), (23 : Nat)] (23 : Nat) (Value.slice x.snd.fst x.fst x.snd.snd)
(Value.slice (some { block := b1, off := (0 : Nat) }) (1 : Nat) (1 : Nat)) w1 a' (x.fst + (1 : Nat)) c' w'4 ∧
KO w1 w'4 ∧
InR IntKind.i64 ((↑x.fst : Int) + (1 : Int)) ∧
∃ (y : Nat × Option Addr × Nat),
Value.int IntKind.i64 ((↑x.fst : Int) + (1 : Int)) = Value.int IntKind.i64 (↑y.fst : Int) ∧
Value.slice a' (x.fst + (1 : Nat)) c' = Value.slice y.snd.fst y.fst y.snd.snd ∧
(y.fst ≤ g.xs.length ∧
Made w w'4 (27 : TypeId) (1 : Nat) y.snd.fst y.fst (List.map (Value.int IntKind.i8) (List.take y.fst (formsR g.xs)))
y.snd.snd) ∧
g.xs.length - y.fst < g.xs.length - x.fst))))
(∃ (x1 : Option Addr × Nat × Nat),
Value.slice x.snd.fst x.fst x.snd.snd = Value.slice x1.fst x1.snd.fst x1.snd.snd ∧
x1.snd.fst = (formsR g.xs).length ∧
Made w w' (27 : TypeId) (1 : Nat) x1.fst x1.snd.fst (List.map (Value.int IntKind.i8) (formsR g.xs)) x1.snd.snd)) :
    ((sList .i32 .i8 27 formsR)).Ok Try.prog 10 :=
  ok_of_vc (sList .i32 .i8 27 formsR) annRForms spRForms (fun _ _ => rfl) (fun _ _ => rfl) hsp Try.func10 rfl (n := 1) (fun _ => rfl) (by kernel_rfl) (vcast (by kernel_rfl) h)

set_option maxRecDepth 1000000 in
theorem same8_vc (hsp : SpecsOk Try.prog []) (h : ∀ (g : GTwo) (w : World),
GSl.at IntKind.i8 g.a w ∧ GSl.at IntKind.i8 g.b w →
bcase ((↑g.a.xs.length : Int) != (↑g.b.xs.length : Int))
(∃ (x : Bool), Value.bool false = Value.bool x ∧ x = decide (g.a.xs = g.b.xs) ∧ Ext w w)
((∃ (x : Nat),
Value.int IntKind.i64 (0 : Int) = Value.int IntKind.i64 (↑x : Int) ∧
x ≤ g.a.xs.length ∧ List.take x g.a.xs = List.take x g.b.xs ∧ Ext w w) ∧
∀ (u : Nat → Value) (x : Nat) (w' : World),
x ≤ g.a.xs.length ∧ List.take x g.a.xs = List.take x g.b.xs ∧ Ext w w' →
bcase (decide ((↑x : Int) < (↑g.a.xs.length : Int)))
(∀ (w1 : World),
Drew w' w1 →
∃ (k : Nat),
(↑x : Int) = (↑k : Int) ∧
k < g.a.xs.length ∧
ptrE g.a.ad fun (b o : Nat) =>
∃ (n : Int),
w'.cell? { block := b, off := o + k } = some (Value.int IntKind.i8 n) ∧
∃ (k1 : Nat),
(↑x : Int) = (↑k1 : Int) ∧
k1 < g.b.xs.length ∧
ptrE g.b.ad fun (b1 o1 : Nat) =>
∃ (n1 : Int),
w'.cell? { block := b1, off := o1 + k1 } = some (Value.int IntKind.i8 n1) ∧
bcase (n != n1) (∃ (x1 : Bool), Value.bool false = Value.bool x1 ∧ x1 = decide (g.a.xs = g.b.xs) ∧ Ext w w1)
(InR IntKind.i64 ((↑x : Int) + (1 : Int)) ∧
∃ (y : Nat),
Value.int IntKind.i64 ((↑x : Int) + (1 : Int)) = Value.int IntKind.i64 (↑y : Int) ∧
(y ≤ g.a.xs.length ∧ List.take y g.a.xs = List.take y g.b.xs ∧ Ext w w1) ∧ g.a.xs.length - y < g.a.xs.length - x))
(∃ (x1 : Bool), Value.bool true = Value.bool x1 ∧ x1 = decide (g.a.xs = g.b.xs) ∧ Ext w w'))) :
    ((sSame .i8)).Ok Try.prog 13 :=
  ok_of_vc (sSame .i8) annSame [] (fun _ _ => rfl) (fun _ _ => rfl) hsp Try.func13 rfl (n := 2) (fun _ => rfl) (by kernel_rfl) (vcast (by kernel_rfl) h)

set_option maxRecDepth 1000000 in
theorem same32_vc (hsp : SpecsOk Try.prog []) (h : ∀ (g : GTwo) (w : World),
GSl.at IntKind.i32 g.a w ∧ GSl.at IntKind.i32 g.b w →
bcase ((↑g.a.xs.length : Int) != (↑g.b.xs.length : Int))
(∃ (x : Bool), Value.bool false = Value.bool x ∧ x = decide (g.a.xs = g.b.xs) ∧ Ext w w)
((∃ (x : Nat),
Value.int IntKind.i64 (0 : Int) = Value.int IntKind.i64 (↑x : Int) ∧
x ≤ g.a.xs.length ∧ List.take x g.a.xs = List.take x g.b.xs ∧ Ext w w) ∧
∀ (u : Nat → Value) (x : Nat) (w' : World),
x ≤ g.a.xs.length ∧ List.take x g.a.xs = List.take x g.b.xs ∧ Ext w w' →
bcase (decide ((↑x : Int) < (↑g.a.xs.length : Int)))
(∀ (w1 : World),
Drew w' w1 →
∃ (k : Nat),
(↑x : Int) = (↑k : Int) ∧
k < g.a.xs.length ∧
ptrE g.a.ad fun (b o : Nat) =>
∃ (n : Int),
w'.cell? { block := b, off := o + k } = some (Value.int IntKind.i32 n) ∧
∃ (k1 : Nat),
(↑x : Int) = (↑k1 : Int) ∧
k1 < g.b.xs.length ∧
ptrE g.b.ad fun (b1 o1 : Nat) =>
∃ (n1 : Int),
w'.cell? { block := b1, off := o1 + k1 } = some (Value.int IntKind.i32 n1) ∧
bcase (n != n1) (∃ (x1 : Bool), Value.bool false = Value.bool x1 ∧ x1 = decide (g.a.xs = g.b.xs) ∧ Ext w w1)
(InR IntKind.i64 ((↑x : Int) + (1 : Int)) ∧
∃ (y : Nat),
Value.int IntKind.i64 ((↑x : Int) + (1 : Int)) = Value.int IntKind.i64 (↑y : Int) ∧
(y ≤ g.a.xs.length ∧ List.take y g.a.xs = List.take y g.b.xs ∧ Ext w w1) ∧ g.a.xs.length - y < g.a.xs.length - x))
(∃ (x1 : Bool), Value.bool true = Value.bool x1 ∧ x1 = decide (g.a.xs = g.b.xs) ∧ Ext w w'))) :
    ((sSame .i32)).Ok Try.prog 19 :=
  ok_of_vc (sSame .i32) annSame [] (fun _ _ => rfl) (fun _ _ => rfl) hsp Try.func19 rfl (n := 2) (fun _ => rfl) (by kernel_rfl) (vcast (by kernel_rfl) h)

set_option maxRecDepth 1000000 in
theorem forms_vc (hsp : SpecsOk Try.prog spForms) (h : ∀ (g : GSl) (w : World),
GSl.at IntKind.i32 g w →
∃ (n : Nat),
∃ (m : Nat),
(↑g.xs.length : Int) = (↑n : Int) ∧
(↑g.xs.length : Int) = (↑m : Int) ∧
n ≤ m ∧
(1 : Nat) * m ≤ (281474976710656 : Nat) ∧
m ≤ (9223372036854775807 : Nat) ∧
∀ (b : Nat) (w1 : World),
New w (Obj.cells (mkRow (Value.int IntKind.i8 (0 : Int)).cells m) (27 : Nat)) b w1 →
(∃ (x : Nat),
Value.int IntKind.i64 (0 : Int) = Value.int IntKind.i64 (↑x : Int) ∧
Value.int IntKind.i64 (-1 : Int) = Value.int IntKind.i64 (runF g.xs x).fst ∧
x ≤ g.xs.length ∧
∃ (b1 : Nat),
Value.slice (some { block := b, off := (0 : Nat) }) n m =
Value.slice (some { block := b1, off := (0 : Nat) }) g.xs.length g.xs.length ∧
Made w w1 (27 : TypeId) (1 : Nat) (some { block := b1, off := (0 : Nat) }) g.xs.length
(List.map (Value.int IntKind.i8) (runF g.xs x).snd) g.xs.length) ∧
∀ (u : Nat → Value) (x : Nat) (w' : World),
(x ≤ g.xs.length ∧
∃ (b1 : Nat),
Value.slice (some { block := b, off := (0 : Nat) }) n m =
Value.slice (some { block := b1, off := (0 : Nat) }) g.xs.length g.xs.length ∧
Made w w' (27 : TypeId) (1 : Nat) (some { block := b1, off := (0 : Nat) }) g.xs.length
(List.map (Value.int IntKind.i8) (runF g.xs x).snd) g.xs.length) →
bcase (decide ((↑x : Int) < (↑g.xs.length : Int)))
(∃ (k : Nat),
(↑x : Int) = (↑k : Int) ∧
k < g.xs.length ∧
ptrE g.ad fun (b1 o : Nat) =>
∃ (n1 : Int),
w'.cell? { block := b1, off := o + k } = some (Value.int IntKind.i32 n1) ∧
∃ (g1 : Int),
#[Value.int IntKind.i32 n1] = #[Value.int IntKind.i32 g1] ∧
True ∧
∀ (x1 : Int) (w'1 : World),
x1 = joinR g1 ∧ Ext w' w'1 →
bcase (x1 == (4 : Int))
(InR IntKind.i64 ((↑x : Int) + (1 : Int)) ∧
∃ (y : Nat),
Value.int IntKind.i64 ((↑x : Int) + (1 : Int)) = Value.int IntKind.i64 (↑y : Int) ∧
Value.int IntKind.i64 (runF g.xs x).fst = Value.int IntKind.i64 (runF g.xs y).fst ∧
(y ≤ g.xs.length ∧
∃ (b2 : Nat),
Value.slice (some { block := b, off := (0 : Nat) }) n m =
Value.slice (some { block := b2, off := (0 : Nat) }) g.xs.length g.xs.length ∧
Made w w'1 (27 : TypeId) (1 : Nat) (some { block := b2, off := (0 : Nat) }) g.xs.length
(List.map (Value.int IntKind.i8) (runF g.xs y).snd) g.xs.length) ∧
g.xs.length - y < g.xs.length - x)
(bcase (x1 == (1 : Int) || (x1 == (2 : Int) || x1 == (3 : Int)))
(bcase (decide ((runF g.xs x).fst < (0 : Int)))
(InR IntKind.i64 ((↑x : Int) + (1 : Int)) ∧
∃ (y : Nat),
Value.int IntKind.i64 ((↑x : Int) + (1 : Int)) = Value.int IntKind.i64 (↑y : Int) ∧
Value.int IntKind.i64 (↑x : Int) = Value.int IntKind.i64 (runF g.xs y).fst ∧
(y ≤ g.xs.length ∧
∃ (b2 : Nat),
Value.slice (some { block := b, off := (0 : Nat) }) n m =
Value.slice (some { block := b2, off := (0 : Nat) }) g.xs.length g.xs.length ∧
Made w w'1 (27 : TypeId) (1 : Nat) (some { block := b2, off := (0 : Nat) }) g.xs.length
(List.map (Value.int IntKind.i8) (runF g.xs y).snd) g.xs.length) ∧
g.xs.length - y < g.xs.length - x)
(∃ (k1 : Nat),
(runF g.xs x).fst = (↑k1 : Int) ∧
k1 < g.xs.length ∧
ptrE g.ad fun (b2 o1 : Nat) =>
∃ (n2 : Int),
w'1.cell? { block := b2, off := o1 + k1 } = some (Value.int IntKind.i32 n2) ∧
∃ (g2 : Int),
#[Value.int IntKind.i32 n2] = #[Value.int IntKind.i32 g2] ∧
True ∧
∀ (x2 : Int) (w'2 : World),
x2 = joinR g2 ∧ Ext w'1 w'2 →
bcase (x2 != (2 : Int) && x2 != (3 : Int))
(InR IntKind.i64 ((↑x : Int) + (1 : Int)) ∧
∃ (y : Nat),
Value.int IntKind.i64 ((↑x : Int) + (1 : Int)) = Value.int IntKind.i64 (↑y : Int) ∧
Value.int IntKind.i64 (↑x : Int) = Value.int IntKind.i64 (runF g.xs y).fst ∧
(y ≤ g.xs.length ∧
∃ (b3 : Nat),
Value.slice (some { block := b, off := (0 : Nat) }) n m =
Value.slice (some { block := b3, off := (0 : Nat) }) g.xs.length g.xs.length ∧
Made w w'2 (27 : TypeId) (1 : Nat) (some { block := b3, off := (0 : Nat) }) g.xs.length
(List.map (Value.int IntKind.i8) (runF g.xs y).snd) g.xs.length) ∧
g.xs.length - y < g.xs.length - x)
(bcase (x1 != (3 : Int))
(∃ (k2 : Nat),
(↑x : Int) = (↑k2 : Int) ∧
k2 < n ∧
true = true ∧
(∃ (old : Value), w'2.cell? { block := b, off := (0 : Nat) + k2 } = some old) ∧
w'2.frozen? { block := b, off := (0 : Nat) + k2 } = false ∧
∀ (w11 : World),
Stored w'2 { block := b, off := (0 : Nat) + k2 } (Value.int IntKind.i8 (3 : Int)) w11 →
bcase (x2 == (2 : Int))
(∃ (k3 : Nat),
(runF g.xs x).fst = (↑k3 : Int) ∧
k3 < n ∧
∃ (n3 : Int),
w11.cell? { block := b, off := (0 : Nat) + k3 } = some (Value.int IntKind.i8 n3) ∧
bcase (n3 == (3 : Int))
(∃ (k4 : Nat),
(runF g.xs x).fst = (↑k4 : Int) ∧
k4 < n ∧
true = true ∧
(∃ (old : Value), w11.cell? { block := b, off := (0 : Nat) + k4 } = some old) ∧
w11.frozen? { block := b, off := (0 : Nat) + k4 } = false ∧
∀ (w12 : World),
Stored w11 { block := b, off := (0 : Nat) + k4 } (Value.int IntKind.i8 (2 : Int)) w12 →
InR IntKind.i64 ((↑x : Int) + (1 : Int)) ∧
∃ (y : Nat),
Value.int IntKind.i64 ((↑x : Int) + (1 : Int)) = Value.int IntKind.i64 (↑y : Int) ∧
Value.int IntKind.i64 (↑x : Int) = Value.int IntKind.i64 (runF g.xs y).fst ∧
(y ≤ g.xs.length ∧
∃ (b3 : Nat),
Value.slice (some { block := b, off := (0 : Nat) }) n m =
Value.slice (some { block := b3, off := (0 : Nat) }) g.xs.length g.xs.length ∧
Made w w12 (27 : TypeId) (1 : Nat) (some { block := b3, off := (0 : Nat) }) g.xs.length
(List.map (Value.int IntKind.i8) (runF g.xs y).snd) g.xs.length) ∧
g.xs.length - y < g.xs.length - x)
(∃ (k4 : Nat),
(runF g.xs x).fst = (↑k4 : Int) ∧
k4 < n ∧
true = true ∧
(∃ (old : Value), w11.cell? { block := b, off := (0 : Nat) + k4 } = some old) ∧
w11.frozen? { block := b, off := (0 : Nat) + k4 } = false ∧
∀ (w12 : World),
Stored w11 { block := b, off := (0 : Nat) + k4 } (Value.int IntKind.i8 (1 : Int)) w12 →
InR IntKind.i64 ((↑x : Int) + (1 : Int)) ∧
∃ (y : Nat),
Value.int IntKind.i64 ((↑x : Int) + (1 : Int)) = Value.int IntKind.i64 (↑y : Int) ∧
Value.int IntKind.i64 (↑x : Int) = Value.int IntKind.i64 (runF g.xs y).fst ∧
(y ≤ g.xs.length ∧
∃ (b3 : Nat),
Value.slice (some { block := b, off := (0 : Nat) }) n m =
Value.slice (some { block := b3, off := (0 : Nat) }) g.xs.length g.xs.length ∧
Made w w12 (27 : TypeId) (1 : Nat) (some { block := b3, off := (0 : Nat) }) g.xs.length
(List.map (Value.int IntKind.i8) (runF g.xs y).snd) g.xs.length) ∧
g.xs.length - y < g.xs.length - x))
(InR IntKind.i64 ((↑x : Int) + (1 : Int)) ∧
∃ (y : Nat),
Value.int IntKind.i64 ((↑x : Int) + (1 : Int)) = Value.int IntKind.i64 (↑y : Int) ∧
Value.int IntKind.i64 (↑x : Int) = Value.int IntKind.i64 (runF g.xs y).fst ∧
(y ≤ g.xs.length ∧
∃ (b3 : Nat),
Value.slice (some { block := b, off := (0 : Nat) }) n m =
Value.slice (some { block := b3, off := (0 : Nat) }) g.xs.length g.xs.length ∧
Made w w11 (27 : TypeId) (1 : Nat) (some { block := b3, off := (0 : Nat) }) g.xs.length
(List.map (Value.int IntKind.i8) (runF g.xs y).snd) g.xs.length) ∧
g.xs.length - y < g.xs.length - x))
(bcase (x2 == (2 : Int))
(∃ (k2 : Nat),
(runF g.xs x).fst = (↑k2 : Int) ∧
k2 < n ∧
∃ (n3 : Int),
w'2.cell? { block := b, off := (0 : Nat) + k2 } = some (Value.int IntKind.i8 n3) ∧
bcase (n3 == (3 : Int))
(∃ (k3 : Nat),
(runF g.xs x).fst = (↑k3 : Int) ∧
k3 < n ∧
true = true ∧
(∃ (old : Value), w'2.cell? { block := b, off := (0 : Nat) + k3 } = some old) ∧
w'2.frozen? { block := b, off := (0 : Nat) + k3 } = false ∧
∀ (w11 : World),
Stored w'2 { block := b, off := (0 : Nat) + k3 } (Value.int IntKind.i8 (2 : Int)) w11 →
InR IntKind.i64 ((↑x : Int) + (1 : Int)) ∧
∃ (y : Nat),
Value.int IntKind.i64 ((↑x : Int) + (1 : Int)) = Value.int IntKind.i64 (↑y : Int) ∧
Value.int IntKind.i64 (↑x : Int) = Value.int IntKind.i64 (runF g.xs y).fst ∧
(y ≤ g.xs.length ∧
∃ (b3 : Nat),
Value.slice (some { block := b, off := (0 : Nat) }) n m =
Value.slice (some { block := b3, off := (0 : Nat) }) g.xs.length g.xs.length ∧
Made w w11 (27 : TypeId) (1 : Nat) (some { block := b3, off := (0 : Nat) }) g.xs.length
(List.map (Value.int IntKind.i8) (runF g.xs y).snd) g.xs.length) ∧
g.xs.length - y < g.xs.length - x)
(∃ (k3 : Nat),
(runF g.xs x).fst = (↑k3 : Int) ∧
k3 < n ∧
true = true ∧
(∃ (old : Value), w'2.cell? { block := b, off := (0 : Nat) + k3 } = some old) ∧
w'2.frozen? { block := b, off := (0 : Nat) + k3 } = false ∧
∀ (w11 : World),
Stored w'2 { block := b, off := (0 : Nat) + k3 } (Value.int IntKind.i8 (1 : Int)) w11 →
InR IntKind.i64 ((↑x : Int) + (1 : Int)) ∧
∃ (y : Nat),
Value.int IntKind.i64 ((↑x : Int) + (1 : Int)) = Value.int IntKind.i64 (↑y : Int) ∧
Value.int IntKind.i64 (↑x : Int) = Value.int IntKind.i64 (runF g.xs y).fst ∧
(y ≤ g.xs.length ∧
∃ (b3 : Nat),
Value.slice (some { block := b, off := (0 : Nat) }) n m =
Value.slice (some { block := b3, off := (0 : Nat) }) g.xs.length g.xs.length ∧
Made w w11 (27 : TypeId) (1 : Nat) (some { block := b3, off := (0 : Nat) }) g.xs.length
(List.map (Value.int IntKind.i8) (runF g.xs y).snd) g.xs.length) ∧
g.xs.length - y < g.xs.length - x))
(InR IntKind.i64 ((↑x : Int) + (1 : Int)) ∧
∃ (y : Nat),
Value.int IntKind.i64 ((↑x : Int) + (1 : Int)) = Value.int IntKind.i64 (↑y : Int) ∧
Value.int IntKind.i64 (↑x : Int) = Value.int IntKind.i64 (runF g.xs y).fst ∧
(y ≤ g.xs.length ∧
∃ (b3 : Nat),
Value.slice (some { block := b, off := (0 : Nat) }) n m =
Value.slice (some { block := b3, off := (0 : Nat) }) g.xs.length g.xs.length ∧
Made w w'2 (27 : TypeId) (1 : Nat) (some { block := b3, off := (0 : Nat) }) g.xs.length
(List.map (Value.int IntKind.i8) (runF g.xs y).snd) g.xs.length) ∧
g.xs.length - y < g.xs.length - x)))))
(InR IntKind.i64 ((↑x : Int) + (1 : Int)) ∧
∃ (y : Nat),
Value.int IntKind.i64 ((↑x : Int) + (1 : Int)) = Value.int IntKind.i64 (↑y : Int) ∧
Value.int IntKind.i64 (↑x : Int) = Value.int IntKind.i64 (runF g.xs y).fst ∧
(y ≤ g.xs.length ∧
∃ (b2 : Nat),
Value.slice (some { block := b, off := (0 : Nat) }) n m =
Value.slice (some { block := b2, off := (0 : Nat) }) g.xs.length g.xs.length ∧
Made w w'1 (27 : TypeId) (1 : Nat) (some { block := b2, off := (0 : Nat) }) g.xs.length
(List.map (Value.int IntKind.i8) (runF g.xs y).snd) g.xs.length) ∧
g.xs.length - y < g.xs.length - x)))
(∃ (x1 : Option Addr × Nat × Nat),
Value.slice (some { block := b, off := (0 : Nat) }) n m = Value.slice x1.fst x1.snd.fst x1.snd.snd ∧
x1.snd.fst = (formsA g.xs).length ∧
Made w w' (27 : TypeId) (1 : Nat) x1.fst x1.snd.fst (List.map (Value.int IntKind.i8) (formsA g.xs)) x1.snd.snd)) :
    ((sList .i32 .i8 27 formsA)).Ok Try.prog 12 :=
  ok_of_vc (sList .i32 .i8 27 formsA) annForms spForms (fun _ _ => rfl) (fun _ _ => rfl) hsp Try.func12 rfl (n := 1) (fun _ => rfl) (by kernel_rfl) (vcast (by kernel_rfl) h)

end Go.Proofs.Ytliihpdhoimmoaa
