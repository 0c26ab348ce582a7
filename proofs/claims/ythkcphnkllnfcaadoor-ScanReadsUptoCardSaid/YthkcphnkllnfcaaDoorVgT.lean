/-
  Verification conditions, printed by a program out of the specifications beside this text: each theorem says that the condition suffices. (Lean's kernel compares the printed condition with what 'wpE' computes.)
-/
import Derived.Test.YthkcphnkllnfcaaDoorSpT
import Derived.Test.YthkcphnkllnfcaaDoorProg
import Derived.KernelRfl
set_option linter.unusedVariables false
namespace Go.Proofs.YthkcphnkllnfcaaDoor
open Go Go.RowKit Vc Ut

set_option maxRecDepth 1000000 in
theorem round_vc (hsp : SpecsOk Tryd.prog []) (h : ∀ (g : Int × Nat) (w : World),
(0 : Nat) < g.snd ∧ g.snd ≤ (1073741824 : Nat) →
(↑g.snd : Int) ≠ (0 : Int) ∧
bcase (decide (g.fst.tmod (↑g.snd : Int) < (0 : Int)))
(InR IntKind.i64 (g.fst.tmod (↑g.snd : Int) + (↑g.snd : Int)) ∧
∃ (x : Nat),
Value.int IntKind.i64 (g.fst.tmod (↑g.snd : Int) + (↑g.snd : Int)) = Value.int IntKind.i64 (↑x : Int) ∧
x < g.snd ∧ w = w)
(∃ (x : Nat), Value.int IntKind.i64 (g.fst.tmod (↑g.snd : Int)) = Value.int IntKind.i64 (↑x : Int) ∧ x < g.snd ∧ w = w)) :
    (sRound).Ok Tryd.prog 47 :=
  ok_of_vc sRound annRound [] (fun _ _ => rfl) (fun _ _ => rfl) hsp Tryd.func47 rfl (n := 2) (fun _ => rfl) (by kernel_rfl) (vcast (by kernel_rfl) h)

set_option maxRecDepth 1000000 in
theorem lawPc_vc (hsp : SpecsOk Tryd.prog spPc) (h : ∀ (g : GPc) (w : World),
U8 w ∧
CellsAt w g.b.ad (bytesV g.b.s) ∧
CellsAt w g.l.ad (List.map (Value.int IntKind.i64) g.l.xs) ∧
g.b.s.size ≤ (1048576 : Nat) ∧ g.b.s.size ≤ g.b.c ∧ g.l.xs.length ≤ (1048576 : Nat) →
∃ (g1 : Unit),
(#[] : Array Value) = #[] ∧
True ∧
∀ (x : Nat) (w' : World),
x = w.heap.size ∧ RdIn w' x none (0 : Nat) (ByteArray.mk #[]) ∧ Ext w w' →
(∃ (x1 : GPs),
Value.int IntKind.i64 (0 : Int) = Value.int IntKind.i64 (↑x1.i : Int) ∧
Value.int IntKind.i64 (0 : Int) = Value.int IntKind.i64 (↑x1.at_ : Int) ∧
Value.slice none (0 : Nat) (0 : Nat) = Value.slice x1.a x1.n x1.c ∧
x1.i ≤ g.l.xs.length ∧
x1.at_ ≤ g.b.s.size ∧
x1.n ≤ cnt g.b.s ∧
x1.h.size ≤ (3 : Nat) ∧
List.take x1.n (runes g.b.s) ++ runes (x1.h ++ g.b.s.extract x1.at_ g.b.s.size) = runes g.b.s ∧
RdIn w' (ptrB (Value.pointer (some { block := x, off := (0 : Nat) }))) x1.ha x1.hc x1.h ∧
Made w w' (21 : TypeId) (1 : Nat) x1.a x1.n (List.map (Value.int IntKind.i32) (List.take x1.n (runes g.b.s))) x1.c) ∧
∀ (u : Nat → Value) (x1 : GPs) (w'1 : World),
x1.i ≤ g.l.xs.length ∧
x1.at_ ≤ g.b.s.size ∧
x1.n ≤ cnt g.b.s ∧
x1.h.size ≤ (3 : Nat) ∧
List.take x1.n (runes g.b.s) ++ runes (x1.h ++ g.b.s.extract x1.at_ g.b.s.size) = runes g.b.s ∧
RdIn w'1 (ptrB (Value.pointer (some { block := x, off := (0 : Nat) }))) x1.ha x1.hc x1.h ∧
Made w w'1 (21 : TypeId) (1 : Nat) x1.a x1.n (List.map (Value.int IntKind.i32) (List.take x1.n (runes g.b.s))) x1.c →
bcase (decide ((↑x1.i : Int) < (↑g.l.xs.length : Int)) && decide ((↑x1.i : Int) < (1000 : Int)))
(∃ (k : Nat),
(↑x1.i : Int) = (↑k : Int) ∧
k < g.l.xs.length ∧
ptrE g.l.ad fun (b o : Nat) =>
∃ (n : Int),
w'1.cell? { block := b, off := o + k } = some (Value.int IntKind.i64 n) ∧
InR IntKind.i64 ((↑g.b.s.size : Int) - (↑x1.at_ : Int)) ∧
InR IntKind.i64 ((↑g.b.s.size : Int) - (↑x1.at_ : Int) + (1 : Int)) ∧
∃ (g2 : Int × Nat),
#[Value.int IntKind.i64 n, Value.int IntKind.i64 ((↑g.b.s.size : Int) - (↑x1.at_ : Int) + (1 : Int))] =
#[Value.int IntKind.i64 g2.fst, Value.int IntKind.i64 (↑g2.snd : Int)] ∧
((0 : Nat) < g2.snd ∧ g2.snd ≤ (1073741824 : Nat)) ∧
∀ (x2 : Nat) (w'2 : World),
x2 < g2.snd ∧ w'2 = w'1 →
InR IntKind.i64 ((↑x1.at_ : Int) + (↑x2 : Int)) ∧
∃ (ln : Nat),
∃ (hn : Nat),
(↑x1.at_ : Int) = (↑ln : Int) ∧
(↑x1.at_ : Int) + (↑x2 : Int) = (↑hn : Int) ∧
ln ≤ hn ∧
hn ≤ g.b.c ∧
∀ (ad' : Option Addr),
SlAt g.b.ad ad' g.b.c ln (1 : Nat) →
∃ (g3 : GRd),
#[Value.pointer (some { block := x, off := (0 : Nat) }), Value.slice ad' (hn - ln) (g.b.c - ln)] =
#[Value.pointer (some { block := g3.rb, off := (0 : Nat) }), Value.slice g3.ad g3.b.size g3.c] ∧
(U8 w'2 ∧
RdIn w'2 g3.rb g3.ha g3.hc g3.h ∧
CellsAt w'2 g3.ad (bytesV g3.b) ∧ g3.h.size ≤ (67108864 : Nat) ∧ g3.b.size ≤ (67108864 : Nat)) ∧
∀ (x3 : (Option Addr × Nat × Nat) × Option Addr × Nat) (w'3 : World),
x3.fst.snd.fst = (fdR (g3.h ++ g3.b)).length ∧
NewRow w'2 w'3 (21 : TypeId) x3.fst.fst x3.fst.snd.fst (List.map (Value.int IntKind.i32) (fdR (g3.h ++ g3.b)))
x3.fst.snd.snd ∧
RdIn w'3 g3.rb x3.snd.fst x3.snd.snd (fdH (g3.h ++ g3.b)) ∧
(∀ (q : Nat), blk x3.snd.fst = some q → w'2.heap.size ≤ q) ∧
(∀ (q : Nat), blk x3.fst.fst = some q → blk x3.snd.fst ≠ some q) ∧ Fr (fun (q : Nat) => q = g3.rb) w'2 w'3 →
∃ (a' : Option Addr),
∃ (c' : Nat),
∃ (w'4 : World),
AppRun Tryd.prog #[(26 : Nat), (26 : Nat)] (26 : Nat) (Value.slice x1.a x1.n x1.c)
(Value.slice x3.fst.fst x3.fst.snd.fst x3.fst.snd.snd) w'3 a' (x1.n + x3.fst.snd.fst) c' w'4 ∧
KO w'3 w'4 ∧
∃ (g4 : GEnd),
#[Value.pointer (some { block := x, off := (0 : Nat) })] =
#[Value.pointer (some { block := g4.rb, off := (0 : Nat) })] ∧
RdIn w'4 g4.rb g4.ha g4.hc g4.h ∧
∀ (x4 : Nat) (w'5 : World),
x4 = g4.h.size ∧ w'5 = w'4 →
∃ (g5 : GEnd),
#[Value.pointer (some { block := x, off := (0 : Nat) })] =
#[Value.pointer (some { block := g5.rb, off := (0 : Nat) })] ∧
RdIn w'5 g5.rb g5.ha g5.hc g5.h ∧
∀ (x5 : Nat) (w'6 : World),
x5 = g5.h.size ∧ w'6 = w'5 →
bcase (decide ((↑x5 : Int) > (3 : Int))) (∃ (x6 : Unit), Value.bool false = Value.bool true ∧ Ext w w'6)
(InR IntKind.i64 ((↑x1.i : Int) + (1 : Int)) ∧
∃ (y : GPs),
Value.int IntKind.i64 ((↑x1.i : Int) + (1 : Int)) = Value.int IntKind.i64 (↑y.i : Int) ∧
Value.int IntKind.i64 ((↑x1.at_ : Int) + (↑x2 : Int)) = Value.int IntKind.i64 (↑y.at_ : Int) ∧
Value.slice a' (x1.n + x3.fst.snd.fst) c' = Value.slice y.a y.n y.c ∧
(y.i ≤ g.l.xs.length ∧
y.at_ ≤ g.b.s.size ∧
y.n ≤ cnt g.b.s ∧
y.h.size ≤ (3 : Nat) ∧
List.take y.n (runes g.b.s) ++ runes (y.h ++ g.b.s.extract y.at_ g.b.s.size) = runes g.b.s ∧
RdIn w'6 (ptrB (Value.pointer (some { block := x, off := (0 : Nat) }))) y.ha y.hc y.h ∧
Made w w'6 (21 : TypeId) (1 : Nat) y.a y.n (List.map (Value.int IntKind.i32) (List.take y.n (runes g.b.s))) y.c) ∧
g.l.xs.length - y.i < g.l.xs.length - x1.i))
(∃ (ln : Nat),
(↑x1.at_ : Int) = (↑ln : Int) ∧
ln ≤ g.b.s.size ∧
∀ (ad' : Option Addr),
SlAt g.b.ad ad' g.b.c ln (1 : Nat) →
∃ (g2 : GRd),
#[Value.pointer (some { block := x, off := (0 : Nat) }), Value.slice ad' (g.b.s.size - ln) (g.b.c - ln)] =
#[Value.pointer (some { block := g2.rb, off := (0 : Nat) }), Value.slice g2.ad g2.b.size g2.c] ∧
(U8 w'1 ∧
RdIn w'1 g2.rb g2.ha g2.hc g2.h ∧
CellsAt w'1 g2.ad (bytesV g2.b) ∧ g2.h.size ≤ (67108864 : Nat) ∧ g2.b.size ≤ (67108864 : Nat)) ∧
∀ (x2 : (Option Addr × Nat × Nat) × Option Addr × Nat) (w'2 : World),
x2.fst.snd.fst = (fdR (g2.h ++ g2.b)).length ∧
NewRow w'1 w'2 (21 : TypeId) x2.fst.fst x2.fst.snd.fst (List.map (Value.int IntKind.i32) (fdR (g2.h ++ g2.b)))
x2.fst.snd.snd ∧
RdIn w'2 g2.rb x2.snd.fst x2.snd.snd (fdH (g2.h ++ g2.b)) ∧
(∀ (q : Nat), blk x2.snd.fst = some q → w'1.heap.size ≤ q) ∧
(∀ (q : Nat), blk x2.fst.fst = some q → blk x2.snd.fst ≠ some q) ∧ Fr (fun (q : Nat) => q = g2.rb) w'1 w'2 →
∃ (a' : Option Addr),
∃ (c' : Nat),
∃ (w'3 : World),
AppRun Tryd.prog #[(26 : Nat), (26 : Nat)] (26 : Nat) (Value.slice x1.a x1.n x1.c)
(Value.slice x2.fst.fst x2.fst.snd.fst x2.fst.snd.snd) w'2 a' (x1.n + x2.fst.snd.fst) c' w'3 ∧
KO w'2 w'3 ∧
∃ (g3 : GEnd),
#[Value.pointer (some { block := x, off := (0 : Nat) })] =
#[Value.pointer (some { block := g3.rb, off := (0 : Nat) })] ∧
RdIn w'3 g3.rb g3.ha g3.hc g3.h ∧
∀ (x3 : Nat) (w'4 : World),
x3 = g3.h.size ∧ w'4 = w'3 →
∃ (g4 : GEnd),
#[Value.pointer (some { block := x, off := (0 : Nat) })] =
#[Value.pointer (some { block := g4.rb, off := (0 : Nat) })] ∧
(RdIn w'4 g4.rb g4.ha g4.hc g4.h ∧ g4.h.size ≤ (67108864 : Nat)) ∧
∀ (x4 : Option Addr × Nat × Nat) (w'5 : World),
x4.snd.fst = g4.h.size ∧
NewRow w'4 w'5 (21 : TypeId) x4.fst x4.snd.fst (List.map (Value.int IntKind.i32) (badsL g4.h.size)) x4.snd.snd ∧
w'5.heap[g4.rb]? = some (Obj.cells #[Value.slice none (0 : Nat) (0 : Nat)] (71 : TypeId)) ∧
Fr (fun (q : Nat) => q = g4.rb) w'4 w'5 →
∃ (a'1 : Option Addr),
∃ (c'1 : Nat),
∃ (w'6 : World),
AppRun Tryd.prog #[(26 : Nat), (26 : Nat)] (26 : Nat) (Value.slice a' (x1.n + x2.fst.snd.fst) c')
(Value.slice x4.fst x4.snd.fst x4.snd.snd) w'5 a'1 (x1.n + x2.fst.snd.fst + x4.snd.fst) c'1 w'6 ∧
KO w'5 w'6 ∧
∃ (str : ByteArray),
BytesIn w'6 g.b.ad g.b.s.size str ∧
∃ (g5 : ByteArray),
#[Value.string str] = #[Value.string g5] ∧
(U8 w'6 ∧ g5.size ≤ (67108864 : Nat)) ∧
∀ (x5 : Option Addr × Nat × Nat) (w'7 : World),
x5.snd.fst = (runes g5).length ∧
Made w'6 w'7 (21 : TypeId) (1 : Nat) x5.fst x5.snd.fst (List.map (Value.int IntKind.i32) (runes g5)) x5.snd.snd →
∃ (g6 : GTwo),
#[Value.slice a'1 (x1.n + x2.fst.snd.fst + x4.snd.fst) c'1, Value.slice x5.fst x5.snd.fst x5.snd.snd] =
#[Value.slice g6.a.ad g6.a.xs.length g6.a.c, Value.slice g6.b.ad g6.b.xs.length g6.b.c] ∧
(GSl.at IntKind.i32 g6.a w'7 ∧ GSl.at IntKind.i32 g6.b w'7) ∧
∀ (x6 : Bool) (w'8 : World),
x6 = decide (g6.a.xs = g6.b.xs) ∧ Ext w'7 w'8 →
bcase x6
(bcase ((↑x4.snd.fst : Int) == (↑x3 : Int))
(∃ (g7 : GEnd),
#[Value.pointer (some { block := x, off := (0 : Nat) })] =
#[Value.pointer (some { block := g7.rb, off := (0 : Nat) })] ∧
RdIn w'8 g7.rb g7.ha g7.hc g7.h ∧
∀ (x7 : Nat) (w'9 : World),
x7 = g7.h.size ∧ w'9 = w'8 →
bcase ((↑x7 : Int) == (0 : Int))
(∃ (g8 : GEnd),
#[Value.pointer (some { block := x, off := (0 : Nat) })] =
#[Value.pointer (some { block := g8.rb, off := (0 : Nat) })] ∧
(RdIn w'9 g8.rb g8.ha g8.hc g8.h ∧ g8.h.size ≤ (67108864 : Nat)) ∧
∀ (x8 : Option Addr × Nat × Nat) (w'10 : World),
x8.snd.fst = g8.h.size ∧
NewRow w'9 w'10 (21 : TypeId) x8.fst x8.snd.fst (List.map (Value.int IntKind.i32) (badsL g8.h.size)) x8.snd.snd ∧
w'10.heap[g8.rb]? = some (Obj.cells #[Value.slice none (0 : Nat) (0 : Nat)] (71 : TypeId)) ∧
Fr (fun (q : Nat) => q = g8.rb) w'9 w'10 →
bcase ((↑x8.snd.fst : Int) == (0 : Int))
(∃ (g9 : Unit),
(#[] : Array Value) = #[] ∧
U8 w'10 ∧ ∀ (x9 : Unit) (w'11 : World), Ext w'10 w'11 → ∃ (x10 : Unit), Value.bool true = Value.bool true ∧ Ext w w'11)
(∃ (x9 : Unit), Value.bool false = Value.bool true ∧ Ext w w'10))
(∃ (x8 : Unit), Value.bool false = Value.bool true ∧ Ext w w'9))
(∃ (x7 : Unit), Value.bool false = Value.bool true ∧ Ext w w'8))
(∃ (x7 : Unit), Value.bool false = Value.bool true ∧ Ext w w'8))) :
    (sLawPc).Ok Tryd.prog 13 :=
  ok_of_vc sLawPc annPc spPc (fun _ _ => rfl) (fun _ _ => rfl) hsp Tryd.func13 rfl (n := 2) (fun _ => rfl) (by kernel_rfl) (vcast (by kernel_rfl) h)

end Go.Proofs.YthkcphnkllnfcaaDoor
