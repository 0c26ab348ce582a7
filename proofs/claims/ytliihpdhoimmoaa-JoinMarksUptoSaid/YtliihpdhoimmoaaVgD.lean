/-
  Verification conditions, printed by a program out of the specifications beside this text: each theorem says that the condition suffices. (Lean's kernel compares the printed condition with what 'wpE' computes.)
-/
import Derived.Test.YtliihpdhoimmoaaSpD
import Derived.Test.YtliihpdhoimmoaaProg
import Derived.KernelRfl
set_option linter.unusedVariables false
namespace Go.Proofs.Ytliihpdhoimmoaa
open Go Go.RowKit Vc Tb

set_option maxRecDepth 1000000 in
theorem lawForms_vc (hsp : SpecsOk Try.prog spLawForms) (h : ∀ (g : GSl) (w : World),
GSl.at IntKind.i32 g w →
∃ (g1 : GSl),
#[Value.slice g.ad g.xs.length g.c] = #[Value.slice g1.ad g1.xs.length g1.c] ∧
GSl.at IntKind.i32 g1 w ∧
∀ (x : Option Addr × Nat × Nat) (w' : World),
x.snd.fst = (formsR g1.xs).length ∧
Made w w' (27 : TypeId) (1 : Nat) x.fst x.snd.fst (List.map (Value.int IntKind.i8) (formsR g1.xs)) x.snd.snd →
∃ (g2 : GSl),
#[Value.slice g.ad g.xs.length g.c] = #[Value.slice g2.ad g2.xs.length g2.c] ∧
GSl.at IntKind.i32 g2 w' ∧
∀ (x1 : Nat × Nat) (w'1 : World),
x1.snd = g2.xs.length ∧
Made w' w'1 (21 : TypeId) (1 : Nat) (some { block := x1.fst, off := (0 : Nat) }) (g2.xs.length + (2 : Nat))
(List.map (Value.int IntKind.i32) (g2.xs ++ [(-9 : Int), (-9 : Int)])) (g2.xs.length + (2 : Nat)) →
∃ (g3 : GSl),
#[Value.slice (some { block := x1.fst, off := (0 : Nat) }) x1.snd (x1.snd + (2 : Nat))] =
#[Value.slice g3.ad g3.xs.length g3.c] ∧
GSl.at IntKind.i32 g3 w'1 ∧
∀ (x2 : Option Addr × Nat × Nat) (w'2 : World),
x2.snd.fst = (formsR g3.xs).length ∧
Made w'1 w'2 (27 : TypeId) (1 : Nat) x2.fst x2.snd.fst (List.map (Value.int IntKind.i8) (formsR g3.xs)) x2.snd.snd →
∃ (g4 : GSl),
#[Value.slice (some { block := x1.fst, off := (0 : Nat) }) x1.snd (x1.snd + (2 : Nat))] =
#[Value.slice g4.ad g4.xs.length g4.c] ∧
GSl.at IntKind.i32 g4 w'2 ∧
∀ (x3 : Option Addr × Nat × Nat) (w'3 : World),
x3.snd.fst = (formsR g4.xs).length ∧
Made w'2 w'3 (27 : TypeId) (1 : Nat) x3.fst x3.snd.fst (List.map (Value.int IntKind.i8) (formsR g4.xs)) x3.snd.snd →
∃ (g5 : GTwo),
#[Value.slice x2.fst x2.snd.fst x2.snd.snd, Value.slice x.fst x.snd.fst x.snd.snd] =
#[Value.slice g5.a.ad g5.a.xs.length g5.a.c, Value.slice g5.b.ad g5.b.xs.length g5.b.c] ∧
(GSl.at IntKind.i8 g5.a w'3 ∧ GSl.at IntKind.i8 g5.b w'3) ∧
∀ (x4 : Bool) (w'4 : World),
x4 = decide (g5.a.xs = g5.b.xs) ∧ Ext w'3 w'4 →
bcase x4
(∃ (g6 : GTwo),
#[Value.slice x3.fst x3.snd.fst x3.snd.snd, Value.slice x.fst x.snd.fst x.snd.snd] =
#[Value.slice g6.a.ad g6.a.xs.length g6.a.c, Value.slice g6.b.ad g6.b.xs.length g6.b.c] ∧
(GSl.at IntKind.i8 g6.a w'4 ∧ GSl.at IntKind.i8 g6.b w'4) ∧
∀ (x5 : Bool) (w'5 : World),
x5 = decide (g6.a.xs = g6.b.xs) ∧ Ext w'4 w'5 →
bcase x5
(∃ (g7 : GKept),
#[Value.slice (some { block := x1.fst, off := (0 : Nat) }) x1.snd (x1.snd + (2 : Nat)),
Value.slice g.ad g.xs.length g.c] =
#[Value.slice g7.ad g7.g.xs.length (g7.g.xs.length + (2 : Nat)), Value.slice g7.g.ad g7.g.xs.length g7.g.c] ∧
(CellsAt w'5 g7.ad (List.map (Value.int IntKind.i32) (g7.g.xs ++ [(-9 : Int), (-9 : Int)])) ∧
GSl.at IntKind.i32 g7.g w'5) ∧
∀ (x6 : Unit) (w'6 : World),
Ext w'5 w'6 →
∃ (g8 : GFresh),
#[Value.slice x2.fst x2.snd.fst x2.snd.snd, Value.slice x3.fst x3.snd.fst x3.snd.snd, Value.int IntKind.i8 (101 : Int),
Value.int IntKind.i8 (102 : Int)] =
#[Value.slice g8.a g8.n g8.ca, Value.slice g8.b g8.n g8.cb, Value.int IntKind.i8 g8.one, Value.int IntKind.i8 g8.two] ∧
(Row w'6 (27 : TypeId) (1 : Nat) g8.a g8.n g8.va g8.ca ∧
Row w'6 (27 : TypeId) (1 : Nat) g8.b g8.n g8.vb g8.cb ∧
(∀ (q : Nat), blk g8.a = some q → blk g8.b ≠ some q) ∧ g8.n ≤ (35184372087808 : Nat)) ∧
∀ (x7 : Unit) (w'7 : World),
Fr g8.S w'6 w'7 →
∃ (g9 : Unit),
(#[] : Array Value) = #[] ∧
True ∧ ∀ (x8 : Unit) (w'8 : World), Ext w'7 w'8 → ∃ (x9 : Unit), Value.bool true = Value.bool true ∧ Ext w w'8)
(∃ (x6 : Unit), Value.bool false = Value.bool true ∧ Ext w w'5))
(∃ (x5 : Unit), Value.bool false = Value.bool true ∧ Ext w w'4)) :
    (sLawL).Ok Try.prog 3 :=
  ok_of_vc sLawL (fun g _ => annNone spLawForms g) spLawForms (fun _ _ => rfl) (fun _ _ => rfl) hsp Try.func3 rfl (n := 1) (fun _ => rfl) (by kernel_rfl) (vcast (by kernel_rfl) h)

set_option maxRecDepth 1000000 in
theorem lawShaped_vc (hsp : SpecsOk Try.prog spLawShaped) (h : ∀ (g : GSl) (w : World),
GSl.at IntKind.i32 g w →
∃ (g1 : GSl),
#[Value.slice g.ad g.xs.length g.c] = #[Value.slice g1.ad g1.xs.length g1.c] ∧
GSl.at IntKind.i32 g1 w ∧
∀ (x : Option Addr × Nat × Nat) (w' : World),
x.snd.fst = (shapedR g1.xs).length ∧
Made w w' (21 : TypeId) (1 : Nat) x.fst x.snd.fst (List.map (Value.int IntKind.i32) (shapedR g1.xs)) x.snd.snd →
∃ (g2 : GSl),
#[Value.slice g.ad g.xs.length g.c] = #[Value.slice g2.ad g2.xs.length g2.c] ∧
GSl.at IntKind.i32 g2 w' ∧
∀ (x1 : Nat × Nat) (w'1 : World),
x1.snd = g2.xs.length ∧
Made w' w'1 (21 : TypeId) (1 : Nat) (some { block := x1.fst, off := (0 : Nat) }) (g2.xs.length + (2 : Nat))
(List.map (Value.int IntKind.i32) (g2.xs ++ [(-9 : Int), (-9 : Int)])) (g2.xs.length + (2 : Nat)) →
∃ (g3 : GSl),
#[Value.slice (some { block := x1.fst, off := (0 : Nat) }) x1.snd (x1.snd + (2 : Nat))] =
#[Value.slice g3.ad g3.xs.length g3.c] ∧
GSl.at IntKind.i32 g3 w'1 ∧
∀ (x2 : Option Addr × Nat × Nat) (w'2 : World),
x2.snd.fst = (shapedR g3.xs).length ∧
Made w'1 w'2 (21 : TypeId) (1 : Nat) x2.fst x2.snd.fst (List.map (Value.int IntKind.i32) (shapedR g3.xs)) x2.snd.snd →
∃ (g4 : GSl),
#[Value.slice (some { block := x1.fst, off := (0 : Nat) }) x1.snd (x1.snd + (2 : Nat))] =
#[Value.slice g4.ad g4.xs.length g4.c] ∧
GSl.at IntKind.i32 g4 w'2 ∧
∀ (x3 : Option Addr × Nat × Nat) (w'3 : World),
x3.snd.fst = (shapedR g4.xs).length ∧
Made w'2 w'3 (21 : TypeId) (1 : Nat) x3.fst x3.snd.fst (List.map (Value.int IntKind.i32) (shapedR g4.xs)) x3.snd.snd →
∃ (g5 : GTwo),
#[Value.slice x2.fst x2.snd.fst x2.snd.snd, Value.slice x.fst x.snd.fst x.snd.snd] =
#[Value.slice g5.a.ad g5.a.xs.length g5.a.c, Value.slice g5.b.ad g5.b.xs.length g5.b.c] ∧
(GSl.at IntKind.i32 g5.a w'3 ∧ GSl.at IntKind.i32 g5.b w'3) ∧
∀ (x4 : Bool) (w'4 : World),
x4 = decide (g5.a.xs = g5.b.xs) ∧ Ext w'3 w'4 →
bcase x4
(∃ (g6 : GTwo),
#[Value.slice x3.fst x3.snd.fst x3.snd.snd, Value.slice x.fst x.snd.fst x.snd.snd] =
#[Value.slice g6.a.ad g6.a.xs.length g6.a.c, Value.slice g6.b.ad g6.b.xs.length g6.b.c] ∧
(GSl.at IntKind.i32 g6.a w'4 ∧ GSl.at IntKind.i32 g6.b w'4) ∧
∀ (x5 : Bool) (w'5 : World),
x5 = decide (g6.a.xs = g6.b.xs) ∧ Ext w'4 w'5 →
bcase x5
(∃ (g7 : GKept),
#[Value.slice (some { block := x1.fst, off := (0 : Nat) }) x1.snd (x1.snd + (2 : Nat)),
Value.slice g.ad g.xs.length g.c] =
#[Value.slice g7.ad g7.g.xs.length (g7.g.xs.length + (2 : Nat)), Value.slice g7.g.ad g7.g.xs.length g7.g.c] ∧
(CellsAt w'5 g7.ad (List.map (Value.int IntKind.i32) (g7.g.xs ++ [(-9 : Int), (-9 : Int)])) ∧
GSl.at IntKind.i32 g7.g w'5) ∧
∀ (x6 : Unit) (w'6 : World),
Ext w'5 w'6 →
∃ (g8 : GFresh),
#[Value.slice x2.fst x2.snd.fst x2.snd.snd, Value.slice x3.fst x3.snd.fst x3.snd.snd,
Value.int IntKind.i32 (-101 : Int), Value.int IntKind.i32 (-102 : Int)] =
#[Value.slice g8.a g8.n g8.ca, Value.slice g8.b g8.n g8.cb, Value.int IntKind.i32 g8.one,
Value.int IntKind.i32 g8.two] ∧
(Row w'6 (21 : TypeId) (1 : Nat) g8.a g8.n g8.va g8.ca ∧
Row w'6 (21 : TypeId) (1 : Nat) g8.b g8.n g8.vb g8.cb ∧
(∀ (q : Nat), blk g8.a = some q → blk g8.b ≠ some q) ∧ g8.n ≤ (35184372087808 : Nat)) ∧
∀ (x7 : Unit) (w'7 : World),
Fr g8.S w'6 w'7 →
∃ (g9 : GKept),
#[Value.slice (some { block := x1.fst, off := (0 : Nat) }) x1.snd (x1.snd + (2 : Nat)),
Value.slice g.ad g.xs.length g.c] =
#[Value.slice g9.ad g9.g.xs.length (g9.g.xs.length + (2 : Nat)), Value.slice g9.g.ad g9.g.xs.length g9.g.c] ∧
(CellsAt w'7 g9.ad (List.map (Value.int IntKind.i32) (g9.g.xs ++ [(-9 : Int), (-9 : Int)])) ∧
GSl.at IntKind.i32 g9.g w'7) ∧
∀ (x8 : Unit) (w'8 : World),
Ext w'7 w'8 →
∃ (g10 : Unit),
(#[] : Array Value) = #[] ∧
True ∧ ∀ (x9 : Unit) (w'9 : World), Ext w'8 w'9 → ∃ (x10 : Unit), Value.bool true = Value.bool true ∧ Ext w w'9)
(∃ (x6 : Unit), Value.bool false = Value.bool true ∧ Ext w w'5))
(∃ (x5 : Unit), Value.bool false = Value.bool true ∧ Ext w w'4)) :
    (sLawL).Ok Try.prog 4 :=
  ok_of_vc sLawL (fun g _ => annNone spLawShaped g) spLawShaped (fun _ _ => rfl) (fun _ _ => rfl) hsp Try.func4 rfl (n := 1) (fun _ => rfl) (by kernel_rfl) (vcast (by kernel_rfl) h)

set_option maxRecDepth 1000000 in
theorem lawShapes_vc (hsp : SpecsOk Try.prog spLawShapes) (h : ∀ (g : Int × Int) (w : World),
True →
∃ (g1 : Int),
#[Value.int IntKind.i32 g.fst] = #[Value.int IntKind.i32 g1] ∧
True ∧
∀ (x : Option Addr × Nat × Nat) (w' : World),
x.snd.fst = (plainR g1).length ∧
Made w w' (21 : TypeId) (1 : Nat) x.fst x.snd.fst (List.map (Value.int IntKind.i32) (plainR g1)) x.snd.snd →
∃ (g2 : Int),
#[Value.int IntKind.i32 g.fst] = #[Value.int IntKind.i32 g2] ∧
True ∧
∀ (x1 : Option Addr × Nat × Nat) (w'1 : World),
x1.snd.fst = (plainR g2).length ∧
Made w' w'1 (21 : TypeId) (1 : Nat) x1.fst x1.snd.fst (List.map (Value.int IntKind.i32) (plainR g2)) x1.snd.snd →
∃ (g3 : Int),
#[Value.int IntKind.i32 g.fst] = #[Value.int IntKind.i32 g3] ∧
True ∧
∀ (x2 : Option Addr × Nat × Nat) (w'2 : World),
x2.snd.fst = (plainR g3).length ∧
Made w'1 w'2 (21 : TypeId) (1 : Nat) x2.fst x2.snd.fst (List.map (Value.int IntKind.i32) (plainR g3)) x2.snd.snd →
∃ (g4 : Int × Int),
#[Value.int IntKind.i32 g.fst, Value.int IntKind.i8 g.snd] =
#[Value.int IntKind.i32 g4.fst, Value.int IntKind.i8 g4.snd] ∧
True ∧
∀ (x3 : Int) (w'3 : World),
x3 = shapeOf g4.fst g4.snd ∧ Ext w'2 w'3 →
∃ (g5 : Int × Int),
#[Value.int IntKind.i32 g.fst, Value.int IntKind.i8 g.snd] =
#[Value.int IntKind.i32 g5.fst, Value.int IntKind.i8 g5.snd] ∧
True ∧
∀ (x4 : Int) (w'4 : World),
x4 = shapeOf g5.fst g5.snd ∧ Ext w'3 w'4 →
bcase (x3 == x4)
(∃ (g6 : GTwo),
#[Value.slice x1.fst x1.snd.fst x1.snd.snd, Value.slice x.fst x.snd.fst x.snd.snd] =
#[Value.slice g6.a.ad g6.a.xs.length g6.a.c, Value.slice g6.b.ad g6.b.xs.length g6.b.c] ∧
(GSl.at IntKind.i32 g6.a w'4 ∧ GSl.at IntKind.i32 g6.b w'4) ∧
∀ (x5 : Bool) (w'5 : World),
x5 = decide (g6.a.xs = g6.b.xs) ∧ Ext w'4 w'5 →
bcase x5
(∃ (g7 : GTwo),
#[Value.slice x2.fst x2.snd.fst x2.snd.snd, Value.slice x.fst x.snd.fst x.snd.snd] =
#[Value.slice g7.a.ad g7.a.xs.length g7.a.c, Value.slice g7.b.ad g7.b.xs.length g7.b.c] ∧
(GSl.at IntKind.i32 g7.a w'5 ∧ GSl.at IntKind.i32 g7.b w'5) ∧
∀ (x6 : Bool) (w'6 : World),
x6 = decide (g7.a.xs = g7.b.xs) ∧ Ext w'5 w'6 →
bcase x6
(∃ (g8 : GFresh),
#[Value.slice x1.fst x1.snd.fst x1.snd.snd, Value.slice x2.fst x2.snd.fst x2.snd.snd,
Value.int IntKind.i32 (-101 : Int), Value.int IntKind.i32 (-102 : Int)] =
#[Value.slice g8.a g8.n g8.ca, Value.slice g8.b g8.n g8.cb, Value.int IntKind.i32 g8.one,
Value.int IntKind.i32 g8.two] ∧
(Row w'6 (21 : TypeId) (1 : Nat) g8.a g8.n g8.va g8.ca ∧
Row w'6 (21 : TypeId) (1 : Nat) g8.b g8.n g8.vb g8.cb ∧
(∀ (q : Nat), blk g8.a = some q → blk g8.b ≠ some q) ∧ g8.n ≤ (35184372087808 : Nat)) ∧
∀ (x7 : Unit) (w'7 : World),
Fr g8.S w'6 w'7 →
∃ (g9 : Int),
#[Value.int IntKind.i32 g.fst] = #[Value.int IntKind.i32 g9] ∧
True ∧
∀ (x8 : Option Addr × Nat × Nat) (w'8 : World),
x8.snd.fst = (plainR g9).length ∧
Made w'7 w'8 (21 : TypeId) (1 : Nat) x8.fst x8.snd.fst (List.map (Value.int IntKind.i32) (plainR g9)) x8.snd.snd →
∃ (g10 : GTwo),
#[Value.slice x8.fst x8.snd.fst x8.snd.snd, Value.slice x.fst x.snd.fst x.snd.snd] =
#[Value.slice g10.a.ad g10.a.xs.length g10.a.c, Value.slice g10.b.ad g10.b.xs.length g10.b.c] ∧
(GSl.at IntKind.i32 g10.a w'8 ∧ GSl.at IntKind.i32 g10.b w'8) ∧
∀ (x9 : Bool) (w'9 : World),
x9 = decide (g10.a.xs = g10.b.xs) ∧ Ext w'8 w'9 →
bcase x9
(∃ (g11 : Unit),
(#[] : Array Value) = #[] ∧
True ∧ ∀ (x10 : Unit) (w'10 : World), Ext w'9 w'10 → ∃ (x11 : Unit), Value.bool true = Value.bool true ∧ Ext w w'10)
(∃ (x10 : Unit), Value.bool false = Value.bool true ∧ Ext w w'9))
(∃ (x7 : Unit), Value.bool false = Value.bool true ∧ Ext w w'6))
(∃ (x6 : Unit), Value.bool false = Value.bool true ∧ Ext w w'5))
(∃ (x5 : Unit), Value.bool false = Value.bool true ∧ Ext w w'4)) :
    (sLawShapes).Ok Try.prog 5 :=
  ok_of_vc sLawShapes (fun g _ => annNone spLawShapes g) spLawShapes (fun _ _ => rfl) (fun _ _ => rfl) hsp Try.func5 rfl (n := 2) (fun _ => rfl) (by kernel_rfl) (vcast (by kernel_rfl) h)

end Go.Proofs.Ytliihpdhoimmoaa
