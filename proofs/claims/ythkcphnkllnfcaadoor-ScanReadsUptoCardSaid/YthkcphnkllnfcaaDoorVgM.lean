/-
  Verification conditions, printed by a program out of the specifications beside this text: each theorem says that the condition suffices. (Lean's kernel compares the printed condition with what 'wpE' computes.)
-/
import Derived.Test.YthkcphnkllnfcaaDoorSpM
import Derived.Test.YthkcphnkllnfcaaDoorProg
import Derived.KernelRfl
set_option linter.unusedVariables false
namespace Go.Proofs.YthkcphnkllnfcaaDoor
open Go Go.RowKit Vc Ut

set_option maxRecDepth 1000000 in
theorem fullB_vc (hsp : SpecsOk Tryd.prog []) (h : ∀ (g : GBy) (w : World),
U8 w ∧ CellsAt w g.ad (bytesV g.s) →
bcase ((↑g.s.size : Int) == (0 : Int)) (∃ (x : Bool), Value.bool false = Value.bool x ∧ x = wholeB g.s ∧ Ext w w)
(∃ (k : Nat),
(0 : Int) = (↑k : Int) ∧
k < g.s.size ∧
ptrE g.ad fun (b o : Nat) =>
∃ (n : Int),
w.cell? { block := b, off := o + k } = some (Value.int IntKind.u8 n) ∧
∃ (k1 : Nat),
n = (↑k1 : Int) ∧
k1 < (256 : Nat) ∧
∃ (n1 : Int),
w.cell? { block := (0 : Nat), off := (0 : Nat) + k1 } = some (Value.int IntKind.u8 n1) ∧
InR IntKind.i64
(IntKind.u8.wrap (↑(BitVec.ofInt IntKind.u8.bits n1 &&& BitVec.ofInt IntKind.u8.bits (7 : Int)).toNat : Int)) ∧
bcase
(decide
((↑g.s.size : Int) ≥
IntKind.u8.wrap (↑(BitVec.ofInt IntKind.u8.bits n1 &&& BitVec.ofInt IntKind.u8.bits (7 : Int)).toNat : Int)))
(∃ (x : Bool), Value.bool true = Value.bool x ∧ x = wholeB g.s ∧ Ext w w)
(∃ (k2 : Nat),
n1.fdiv ((2 : Int) ^ min (Int.toNat (4 : Int)) IntKind.u8.bits) = (↑k2 : Int) ∧
k2 < (16 : Nat) ∧
∃ (n2 : Int),
w.cell? { block := (1 : Nat), off := (0 : Nat) + k2 * (2 : Nat) } = some (Value.int IntKind.u8 n2) ∧
∃ (n3 : Int),
w.cell? { block := (1 : Nat), off := (0 : Nat) + k2 * (2 : Nat) + (1 : Nat) } = some (Value.int IntKind.u8 n3) ∧
∀ (b1 : Nat) (w1 : World),
New w (Obj.cells #[Value.int IntKind.u8 n2, Value.int IntKind.u8 n3] (78 : Nat)) b1 w1 →
∀ (w11 : World),
Drew w1 w11 →
bcase (decide ((↑g.s.size : Int) > (1 : Int)))
(∃ (k3 : Nat),
(1 : Int) = (↑k3 : Int) ∧
k3 < g.s.size ∧
ptrE g.ad fun (b2 o1 : Nat) =>
∃ (n4 : Int),
w1.cell? { block := b2, off := o1 + k3 } = some (Value.int IntKind.u8 n4) ∧
∃ (n5 : Int),
w1.cell? { block := b1, off := (0 : Nat) } = some (Value.int IntKind.u8 n5) ∧
bcase (decide (n4 < n5)) (∃ (x : Bool), Value.bool true = Value.bool x ∧ x = wholeB g.s ∧ Ext w w11)
(∃ (n6 : Int),
w1.cell? { block := b1, off := (1 : Nat) } = some (Value.int IntKind.u8 n6) ∧
∃ (k4 : Nat),
(1 : Int) = (↑k4 : Int) ∧
k4 < g.s.size ∧
ptrE g.ad fun (b3 o2 : Nat) =>
∃ (n7 : Int),
w1.cell? { block := b3, off := o2 + k4 } = some (Value.int IntKind.u8 n7) ∧
bcase (decide (n6 < n7)) (∃ (x : Bool), Value.bool true = Value.bool x ∧ x = wholeB g.s ∧ Ext w w11)
(bcase (decide ((↑g.s.size : Int) > (2 : Int)))
(∃ (k5 : Nat),
(2 : Int) = (↑k5 : Int) ∧
k5 < g.s.size ∧
ptrE g.ad fun (b4 o3 : Nat) =>
∃ (n8 : Int),
w11.cell? { block := b4, off := o3 + k5 } = some (Value.int IntKind.u8 n8) ∧
bcase (decide (n8 < (128 : Int))) (∃ (x : Bool), Value.bool true = Value.bool x ∧ x = wholeB g.s ∧ Ext w w11)
(∃ (k6 : Nat),
(2 : Int) = (↑k6 : Int) ∧
k6 < g.s.size ∧
ptrE g.ad fun (b5 o4 : Nat) =>
∃ (n9 : Int),
w11.cell? { block := b5, off := o4 + k6 } = some (Value.int IntKind.u8 n9) ∧
bcase (decide ((191 : Int) < n9)) (∃ (x : Bool), Value.bool true = Value.bool x ∧ x = wholeB g.s ∧ Ext w w11)
(∃ (x : Bool), Value.bool false = Value.bool x ∧ x = wholeB g.s ∧ Ext w w11)))
(∃ (x : Bool), Value.bool false = Value.bool x ∧ x = wholeB g.s ∧ Ext w w11))))
(bcase (decide ((↑g.s.size : Int) > (2 : Int)))
(∃ (k3 : Nat),
(2 : Int) = (↑k3 : Int) ∧
k3 < g.s.size ∧
ptrE g.ad fun (b2 o1 : Nat) =>
∃ (n4 : Int),
w11.cell? { block := b2, off := o1 + k3 } = some (Value.int IntKind.u8 n4) ∧
bcase (decide (n4 < (128 : Int))) (∃ (x : Bool), Value.bool true = Value.bool x ∧ x = wholeB g.s ∧ Ext w w11)
(∃ (k4 : Nat),
(2 : Int) = (↑k4 : Int) ∧
k4 < g.s.size ∧
ptrE g.ad fun (b3 o2 : Nat) =>
∃ (n5 : Int),
w11.cell? { block := b3, off := o2 + k4 } = some (Value.int IntKind.u8 n5) ∧
bcase (decide ((191 : Int) < n5)) (∃ (x : Bool), Value.bool true = Value.bool x ∧ x = wholeB g.s ∧ Ext w w11)
(∃ (x : Bool), Value.bool false = Value.bool x ∧ x = wholeB g.s ∧ Ext w w11)))
(∃ (x : Bool), Value.bool false = Value.bool x ∧ x = wholeB g.s ∧ Ext w w11))))) :
    (sFullB).Ok Tryd.prog 57 :=
  ok_of_vc sFullB (annOf []) [] (fun _ _ => rfl) (fun _ _ => rfl) hsp Tryd.func57 rfl (n := 1) (fun _ => rfl) (by kernel_rfl) (vcast (by kernel_rfl) h)

set_option maxRecDepth 1000000 in
theorem feed_vc (hsp : SpecsOk Tryd.prog spFeed) (h : ∀ (g : GRd) (w : World),
U8 w ∧
RdIn w g.rb g.ha g.hc g.h ∧ CellsAt w g.ad (bytesV g.b) ∧ g.h.size ≤ (67108864 : Nat) ∧ g.b.size ≤ (67108864 : Nat) →
∀ (w1 : World),
Drew w w1 →
∃ (a2 : Option Addr),
∃ (n : Nat),
∃ (c : Nat),
w.cell? { block := g.rb, off := (0 : Nat) } = some (Value.slice a2 n c) ∧
∃ (a3 : Option Addr),
∃ (n1 : Nat),
∃ (c1 : Nat),
w.cell? { block := g.rb, off := (0 : Nat) } = some (Value.slice a3 n1 c1) ∧
∃ (a4 : Option Addr),
∃ (n2 : Nat),
∃ (c2 : Nat),
w.cell? { block := g.rb, off := (0 : Nat) } = some (Value.slice a4 n2 c2) ∧
∃ (mn : Nat),
∃ (hn : Nat),
(↑n2 : Int) = (↑mn : Int) ∧
(↑n1 : Int) = (↑hn : Int) ∧
hn ≤ mn ∧
mn ≤ c ∧
∃ (a' : Option Addr),
∃ (c' : Nat),
∃ (w' : World),
AppRun Tryd.prog #[(47 : Nat), (47 : Nat)] (47 : Nat) (Value.slice a2 hn mn) (Value.slice g.ad g.b.size g.c) w1 a'
(hn + g.b.size) c' w' ∧
KO w1 w' ∧
(∃ (x : Nat × (Option Addr × Nat) × Option Addr × Nat),
Value.slice a' (hn + g.b.size) c' =
Value.slice x.snd.fst.fst ((g.h ++ g.b).size - pos (g.h ++ g.b) x.fst) x.snd.fst.snd ∧
Value.slice none (0 : Nat) (0 : Nat) = Value.slice x.snd.snd.fst x.fst x.snd.snd.snd ∧
x.fst ≤ cnt (g.h ++ g.b) ∧
(∀ (j : Nat), j < x.fst → wholeB ((g.h ++ g.b).extract (pos (g.h ++ g.b) j) (g.h ++ g.b).size) = true) ∧
CellsAt w' x.snd.fst.fst (bytesV ((g.h ++ g.b).extract (pos (g.h ++ g.b) x.fst) (g.h ++ g.b).size)) ∧
(g.h ++ g.b).size - pos (g.h ++ g.b) x.fst ≤ x.snd.fst.snd ∧
Made w' w' (21 : TypeId) (1 : Nat) x.snd.snd.fst x.fst
(List.map (Value.int IntKind.i32) (List.take x.fst (runes (g.h ++ g.b)))) x.snd.snd.snd) ∧
∀ (u : Nat → Value) (x : Nat × (Option Addr × Nat) × Option Addr × Nat) (w'1 : World),
x.fst ≤ cnt (g.h ++ g.b) ∧
(∀ (j : Nat), j < x.fst → wholeB ((g.h ++ g.b).extract (pos (g.h ++ g.b) j) (g.h ++ g.b).size) = true) ∧
CellsAt w' x.snd.fst.fst (bytesV ((g.h ++ g.b).extract (pos (g.h ++ g.b) x.fst) (g.h ++ g.b).size)) ∧
(g.h ++ g.b).size - pos (g.h ++ g.b) x.fst ≤ x.snd.fst.snd ∧
Made w' w'1 (21 : TypeId) (1 : Nat) x.snd.snd.fst x.fst
(List.map (Value.int IntKind.i32) (List.take x.fst (runes (g.h ++ g.b)))) x.snd.snd.snd →
bcase (decide ((↑((g.h ++ g.b).size - pos (g.h ++ g.b) x.fst) : Int) > (0 : Int)))
(∃ (g1 : GBy),
#[Value.slice x.snd.fst.fst ((g.h ++ g.b).size - pos (g.h ++ g.b) x.fst) x.snd.fst.snd] =
#[Value.slice g1.ad g1.s.size g1.c] ∧
(U8 w'1 ∧ CellsAt w'1 g1.ad (bytesV g1.s)) ∧
∀ (x1 : Bool) (w'2 : World),
x1 = wholeB g1.s ∧ Ext w'1 w'2 →
bcase x1
(∃ (g2 : GBy),
#[Value.slice x.snd.fst.fst ((g.h ++ g.b).size - pos (g.h ++ g.b) x.fst) x.snd.fst.snd] =
#[Value.slice g2.ad g2.s.size g2.c] ∧
(U8 w'2 ∧ CellsAt w'2 g2.ad (bytesV g2.s) ∧ (0 : Nat) < g2.s.size) ∧
∀ (x2 : Int × Nat) (w'3 : World),
x2.fst = nxR g2.s ∧ x2.snd = nxN g2.s ∧ Ext w'2 w'3 →
∀ (b : Nat) (w11 : World),
New w'3 (Obj.cells #[Value.int IntKind.i32 x2.fst] (21 : Nat)) b w11 →
∃ (a'1 : Option Addr),
∃ (c'1 : Nat),
∃ (w'4 : World),
AppRun Tryd.prog #[(26 : Nat), (26 : Nat)] (26 : Nat) (Value.slice x.snd.snd.fst x.fst x.snd.snd.snd)
(Value.slice (some { block := b, off := (0 : Nat) }) (1 : Nat) (1 : Nat)) w11 a'1 (x.fst + (1 : Nat)) c'1 w'4 ∧
KO w11 w'4 ∧
∃ (ln : Nat),
(↑x2.snd : Int) = (↑ln : Int) ∧
ln ≤ (g.h ++ g.b).size - pos (g.h ++ g.b) x.fst ∧
∀ (ad' : Option Addr),
SlAt x.snd.fst.fst ad' x.snd.fst.snd ln (1 : Nat) →
∃ (y : Nat × (Option Addr × Nat) × Option Addr × Nat),
Value.slice ad' ((g.h ++ g.b).size - pos (g.h ++ g.b) x.fst - ln) (x.snd.fst.snd - ln) =
Value.slice y.snd.fst.fst ((g.h ++ g.b).size - pos (g.h ++ g.b) y.fst) y.snd.fst.snd ∧
Value.slice a'1 (x.fst + (1 : Nat)) c'1 = Value.slice y.snd.snd.fst y.fst y.snd.snd.snd ∧
(y.fst ≤ cnt (g.h ++ g.b) ∧
(∀ (j : Nat), j < y.fst → wholeB ((g.h ++ g.b).extract (pos (g.h ++ g.b) j) (g.h ++ g.b).size) = true) ∧
CellsAt w' y.snd.fst.fst (bytesV ((g.h ++ g.b).extract (pos (g.h ++ g.b) y.fst) (g.h ++ g.b).size)) ∧
(g.h ++ g.b).size - pos (g.h ++ g.b) y.fst ≤ y.snd.fst.snd ∧
Made w' w'4 (21 : TypeId) (1 : Nat) y.snd.snd.fst y.fst
(List.map (Value.int IntKind.i32) (List.take y.fst (runes (g.h ++ g.b)))) y.snd.snd.snd) ∧
cnt (g.h ++ g.b) - y.fst < cnt (g.h ++ g.b) - x.fst)
(∃ (a'1 : Option Addr),
∃ (c'1 : Nat),
∃ (w'3 : World),
AppRun Tryd.prog #[(47 : Nat), (47 : Nat)] (47 : Nat) (Value.slice none (0 : Nat) (0 : Nat))
(Value.slice x.snd.fst.fst ((g.h ++ g.b).size - pos (g.h ++ g.b) x.fst) x.snd.fst.snd) w'2 a'1
((0 : Nat) + ((g.h ++ g.b).size - pos (g.h ++ g.b) x.fst)) c'1 w'3 ∧
KO w'2 w'3 ∧
true = true ∧
(∃ (old : Value), w'3.cell? { block := g.rb, off := (0 : Nat) } = some old) ∧
w'3.frozen? { block := g.rb, off := (0 : Nat) } = false ∧
∀ (w11 : World),
Stored w'3 { block := g.rb, off := (0 : Nat) }
(Value.slice a'1 ((0 : Nat) + ((g.h ++ g.b).size - pos (g.h ++ g.b) x.fst)) c'1) w11 →
∃ (x2 : (Option Addr × Nat × Nat) × Option Addr × Nat),
Value.slice x.snd.snd.fst x.fst x.snd.snd.snd = Value.slice x2.fst.fst x2.fst.snd.fst x2.fst.snd.snd ∧
x2.fst.snd.fst = (fdR (g.h ++ g.b)).length ∧
NewRow w w11 (21 : TypeId) x2.fst.fst x2.fst.snd.fst (List.map (Value.int IntKind.i32) (fdR (g.h ++ g.b)))
x2.fst.snd.snd ∧
RdIn w11 g.rb x2.snd.fst x2.snd.snd (fdH (g.h ++ g.b)) ∧
(∀ (q : Nat), blk x2.snd.fst = some q → w.heap.size ≤ q) ∧
(∀ (q : Nat), blk x2.fst.fst = some q → blk x2.snd.fst ≠ some q) ∧ Fr (fun (q : Nat) => q = g.rb) w w11))
(∃ (a'1 : Option Addr),
∃ (c'1 : Nat),
∃ (w'2 : World),
AppRun Tryd.prog #[(47 : Nat), (47 : Nat)] (47 : Nat) (Value.slice none (0 : Nat) (0 : Nat))
(Value.slice x.snd.fst.fst ((g.h ++ g.b).size - pos (g.h ++ g.b) x.fst) x.snd.fst.snd) w'1 a'1
((0 : Nat) + ((g.h ++ g.b).size - pos (g.h ++ g.b) x.fst)) c'1 w'2 ∧
KO w'1 w'2 ∧
true = true ∧
(∃ (old : Value), w'2.cell? { block := g.rb, off := (0 : Nat) } = some old) ∧
w'2.frozen? { block := g.rb, off := (0 : Nat) } = false ∧
∀ (w11 : World),
Stored w'2 { block := g.rb, off := (0 : Nat) }
(Value.slice a'1 ((0 : Nat) + ((g.h ++ g.b).size - pos (g.h ++ g.b) x.fst)) c'1) w11 →
∃ (x1 : (Option Addr × Nat × Nat) × Option Addr × Nat),
Value.slice x.snd.snd.fst x.fst x.snd.snd.snd = Value.slice x1.fst.fst x1.fst.snd.fst x1.fst.snd.snd ∧
x1.fst.snd.fst = (fdR (g.h ++ g.b)).length ∧
NewRow w w11 (21 : TypeId) x1.fst.fst x1.fst.snd.fst (List.map (Value.int IntKind.i32) (fdR (g.h ++ g.b)))
x1.fst.snd.snd ∧
RdIn w11 g.rb x1.snd.fst x1.snd.snd (fdH (g.h ++ g.b)) ∧
(∀ (q : Nat), blk x1.snd.fst = some q → w.heap.size ≤ q) ∧
(∀ (q : Nat), blk x1.fst.fst = some q → blk x1.snd.fst ≠ some q) ∧ Fr (fun (q : Nat) => q = g.rb) w w11)) :
    (sFeed).Ok Tryd.prog 40 :=
  ok_of_vc sFeed annFeed spFeed (fun _ _ => rfl) (fun _ _ => rfl) hsp Tryd.func40 rfl (n := 2) (fun _ => rfl) (by kernel_rfl) (vcast (by kernel_rfl) h)

set_option maxRecDepth 1000000 in
theorem end_vc (hsp : SpecsOk Tryd.prog []) (h : ∀ (g : GEnd) (w : World),
RdIn w g.rb g.ha g.hc g.h ∧ g.h.size ≤ (67108864 : Nat) →
∃ (a1 : Option Addr),
∃ (n : Nat),
∃ (c : Nat),
w.cell? { block := g.rb, off := (0 : Nat) } = some (Value.slice a1 n c) ∧
∃ (n1 : Nat),
∃ (m : Nat),
(0 : Int) = (↑n1 : Int) ∧
(↑n : Int) = (↑m : Int) ∧
n1 ≤ m ∧
(4 : Nat) * m ≤ (281474976710656 : Nat) ∧
m ≤ (9223372036854775807 : Nat) ∧
∀ (b : Nat) (w1 : World),
New w (Obj.cells (mkRow (Value.int IntKind.i32 (0 : Int)).cells m) (21 : Nat)) b w1 →
∃ (a3 : Option Addr),
∃ (n2 : Nat),
∃ (c1 : Nat),
w1.cell? { block := g.rb, off := (0 : Nat) } = some (Value.slice a3 n2 c1) ∧
(∃ (x : Nat × Option Addr × Nat),
Value.int IntKind.i64 (0 : Int) = Value.int IntKind.i64 (↑x.fst : Int) ∧
Value.slice (some { block := b, off := (0 : Nat) }) n1 m = Value.slice x.snd.fst x.fst x.snd.snd ∧
x.fst ≤ g.h.size ∧
Made w w1 (21 : TypeId) (1 : Nat) x.snd.fst x.fst (List.map (Value.int IntKind.i32) (badsL x.fst)) x.snd.snd) ∧
∀ (u : Nat → Value) (x : Nat × Option Addr × Nat) (w' : World),
x.fst ≤ g.h.size ∧
Made w w' (21 : TypeId) (1 : Nat) x.snd.fst x.fst (List.map (Value.int IntKind.i32) (badsL x.fst)) x.snd.snd →
bcase (decide ((↑x.fst : Int) < (↑n2 : Int)))
(∀ (b1 : Nat) (w11 : World),
New w' (Obj.cells #[Value.int IntKind.i32 (65533 : Int)] (21 : Nat)) b1 w11 →
∃ (a' : Option Addr),
∃ (c' : Nat),
∃ (w'1 : World),
AppRun Tryd.prog #[(26 : Nat), (26 : Nat)] (26 : Nat) (Value.slice x.snd.fst x.fst x.snd.snd)
(Value.slice (some { block := b1, off := (0 : Nat) }) (1 : Nat) (1 : Nat)) w11 a' (x.fst + (1 : Nat)) c' w'1 ∧
KO w11 w'1 ∧
InR IntKind.i64 ((↑x.fst : Int) + (1 : Int)) ∧
∃ (y : Nat × Option Addr × Nat),
Value.int IntKind.i64 ((↑x.fst : Int) + (1 : Int)) = Value.int IntKind.i64 (↑y.fst : Int) ∧
Value.slice a' (x.fst + (1 : Nat)) c' = Value.slice y.snd.fst y.fst y.snd.snd ∧
(y.fst ≤ g.h.size ∧
Made w w'1 (21 : TypeId) (1 : Nat) y.snd.fst y.fst (List.map (Value.int IntKind.i32) (badsL y.fst)) y.snd.snd) ∧
g.h.size - y.fst < g.h.size - x.fst)
(true = true ∧
(∃ (old : Value), w'.cell? { block := g.rb, off := (0 : Nat) } = some old) ∧
w'.frozen? { block := g.rb, off := (0 : Nat) } = false ∧
∀ (w11 : World),
Stored w' { block := g.rb, off := (0 : Nat) } (Value.slice none (0 : Nat) (0 : Nat)) w11 →
∃ (x1 : Option Addr × Nat × Nat),
Value.slice x.snd.fst x.fst x.snd.snd = Value.slice x1.fst x1.snd.fst x1.snd.snd ∧
x1.snd.fst = g.h.size ∧
NewRow w w11 (21 : TypeId) x1.fst x1.snd.fst (List.map (Value.int IntKind.i32) (badsL g.h.size)) x1.snd.snd ∧
w11.heap[g.rb]? = some (Obj.cells #[Value.slice none (0 : Nat) (0 : Nat)] (71 : TypeId)) ∧
Fr (fun (q : Nat) => q = g.rb) w w11)) :
    (sEnd).Ok Tryd.prog 41 :=
  ok_of_vc sEnd annEnd [] (fun _ _ => rfl) (fun _ _ => rfl) hsp Tryd.func41 rfl (n := 1) (fun _ => rfl) (by kernel_rfl) (vcast (by kernel_rfl) h)

set_option maxRecDepth 1000000 in
theorem held_vc (hsp : SpecsOk Tryd.prog []) (h : ∀ (g : GEnd) (w : World),
RdIn w g.rb g.ha g.hc g.h →
∃ (a1 : Option Addr),
∃ (n : Nat),
∃ (c : Nat),
w.cell? { block := g.rb, off := (0 : Nat) } = some (Value.slice a1 n c) ∧
∃ (x : Nat), Value.int IntKind.i64 (↑n : Int) = Value.int IntKind.i64 (↑x : Int) ∧ x = g.h.size ∧ w = w) :
    (sHeldN).Ok Tryd.prog 42 :=
  ok_of_vc sHeldN (annOf []) [] (fun _ _ => rfl) (fun _ _ => rfl) hsp Tryd.func42 rfl (n := 1) (fun _ => rfl) (by kernel_rfl) (vcast (by kernel_rfl) h)

set_option maxRecDepth 1000000 in
theorem new_vc (hsp : SpecsOk Tryd.prog []) (h : ∀ (g : Unit) (w : World),
True →
∀ (b : Nat) (w1 : World),
New w (Obj.cells #[Value.slice none (0 : Nat) (0 : Nat)] (71 : Nat)) b w1 →
∃ (x : Nat),
Value.pointer (some { block := b, off := (0 : Nat) }) = Value.pointer (some { block := x, off := (0 : Nat) }) ∧
x = w.heap.size ∧ RdIn w1 x none (0 : Nat) (ByteArray.mk #[]) ∧ Ext w w1) :
    (sNew).Ok Tryd.prog 44 :=
  ok_of_vc sNew (annOf []) [] (fun _ _ => rfl) (fun _ _ => rfl) hsp Tryd.func44 rfl (n := 0) (fun _ => rfl) (by kernel_rfl) (vcast (by kernel_rfl) h)

set_option maxRecDepth 1000000 in
theorem rfeed_vc (hsp : SpecsOk Tryd.prog spRFeed) (h : ∀ (g : GRf) (w : World),
U8 w ∧ RfIn w g.rb g.h ∧ CellsAt w g.ad (bytesV g.b) ∧ (g.h ++ g.b).size ≤ (67108864 : Nat) →
∀ (w1 : World),
Drew w w1 →
∃ (s : ByteArray),
w.cell? { block := g.rb, off := (0 : Nat) } = some (Value.string s) ∧
∃ (str : ByteArray),
BytesIn w1 g.ad g.b.size str ∧
Below w1.heap.size w1 w1 ∧
s.size + str.size ≤ (9223372036854775807 : Nat) ∧
(∃ (x : Nat × Option Addr × Nat),
Value.string (s ++ str) = Value.string ((g.h ++ g.b).extract (pos (g.h ++ g.b) x.fst) (g.h ++ g.b).size) ∧
Value.slice none (0 : Nat) (0 : Nat) = Value.slice x.snd.fst x.fst x.snd.snd ∧
x.fst ≤ cnt (g.h ++ g.b) ∧
(∀ (j : Nat), j < x.fst → wholeB ((g.h ++ g.b).extract (pos (g.h ++ g.b) j) (g.h ++ g.b).size) = true) ∧
Made w1 w1 (21 : TypeId) (1 : Nat) x.snd.fst x.fst
(List.map (Value.int IntKind.i32) (List.take x.fst (runes (g.h ++ g.b)))) x.snd.snd) ∧
∀ (u : Nat → Value) (x : Nat × Option Addr × Nat) (w' : World),
x.fst ≤ cnt (g.h ++ g.b) ∧
(∀ (j : Nat), j < x.fst → wholeB ((g.h ++ g.b).extract (pos (g.h ++ g.b) j) (g.h ++ g.b).size) = true) ∧
Made w1 w' (21 : TypeId) (1 : Nat) x.snd.fst x.fst
(List.map (Value.int IntKind.i32) (List.take x.fst (runes (g.h ++ g.b)))) x.snd.snd →
∃ (g1 : ByteArray),
#[Value.string ((g.h ++ g.b).extract (pos (g.h ++ g.b) x.fst) (g.h ++ g.b).size)] = #[Value.string g1] ∧
(U8 w' ∧ g1.size ≤ (67108864 : Nat)) ∧
∀ (x1 : Bool) (w'1 : World),
x1 = wholeB g1 ∧ Ext w' w'1 →
bcase x1
(∃ (g2 : ByteArray),
#[Value.string ((g.h ++ g.b).extract (pos (g.h ++ g.b) x.fst) (g.h ++ g.b).size)] = #[Value.string g2] ∧
(U8 w'1 ∧ g2.size ≤ (67108864 : Nat)) ∧
∀ (x2 : Int × Nat) (w'2 : World),
x2.fst = nxR g2 ∧ x2.snd = nxN g2 ∧ Ext w'1 w'2 →
∀ (b : Nat) (w11 : World),
New w'2 (Obj.cells #[Value.int IntKind.i32 x2.fst] (21 : Nat)) b w11 →
∃ (a' : Option Addr),
∃ (c' : Nat),
∃ (w'3 : World),
AppRun Tryd.prog #[(26 : Nat), (26 : Nat)] (26 : Nat) (Value.slice x.snd.fst x.fst x.snd.snd)
(Value.slice (some { block := b, off := (0 : Nat) }) (1 : Nat) (1 : Nat)) w11 a' (x.fst + (1 : Nat)) c' w'3 ∧
KO w11 w'3 ∧
∃ (k : Nat),
(↑x2.snd : Int) = (↑k : Int) ∧
k ≤ ((g.h ++ g.b).extract (pos (g.h ++ g.b) x.fst) (g.h ++ g.b).size).size ∧
((g.h ++ g.b).extract (pos (g.h ++ g.b) x.fst) (g.h ++ g.b).size).size ≤
((g.h ++ g.b).extract (pos (g.h ++ g.b) x.fst) (g.h ++ g.b).size).size ∧
∃ (y : Nat × Option Addr × Nat),
Value.string
(((g.h ++ g.b).extract (pos (g.h ++ g.b) x.fst) (g.h ++ g.b).size).extract k
((g.h ++ g.b).extract (pos (g.h ++ g.b) x.fst) (g.h ++ g.b).size).size) =
Value.string ((g.h ++ g.b).extract (pos (g.h ++ g.b) y.fst) (g.h ++ g.b).size) ∧
Value.slice a' (x.fst + (1 : Nat)) c' = Value.slice y.snd.fst y.fst y.snd.snd ∧
(y.fst ≤ cnt (g.h ++ g.b) ∧
(∀ (j : Nat), j < y.fst → wholeB ((g.h ++ g.b).extract (pos (g.h ++ g.b) j) (g.h ++ g.b).size) = true) ∧
Made w1 w'3 (21 : TypeId) (1 : Nat) y.snd.fst y.fst
(List.map (Value.int IntKind.i32) (List.take y.fst (runes (g.h ++ g.b)))) y.snd.snd) ∧
cnt (g.h ++ g.b) - y.fst < cnt (g.h ++ g.b) - x.fst)
(true = true ∧
(∃ (old : Value), w'1.cell? { block := g.rb, off := (0 : Nat) } = some old) ∧
w'1.frozen? { block := g.rb, off := (0 : Nat) } = false ∧
∀ (w11 : World),
Stored w'1 { block := g.rb, off := (0 : Nat) }
(Value.string ((g.h ++ g.b).extract (pos (g.h ++ g.b) x.fst) (g.h ++ g.b).size)) w11 →
∃ (x2 : Option Addr × Nat × Nat),
Value.slice x.snd.fst x.fst x.snd.snd = Value.slice x2.fst x2.snd.fst x2.snd.snd ∧
x2.snd.fst = (fdR (g.h ++ g.b)).length ∧
NewRow w w11 (21 : TypeId) x2.fst x2.snd.fst (List.map (Value.int IntKind.i32) (fdR (g.h ++ g.b))) x2.snd.snd ∧
RfIn w11 g.rb (fdH (g.h ++ g.b)) ∧ Fr (fun (q : Nat) => q = g.rb) w w11)) :
    (sRFeed).Ok Tryd.prog 59 :=
  ok_of_vc sRFeed annRFeed spRFeed (fun _ _ => rfl) (fun _ _ => rfl) hsp Tryd.func59 rfl (n := 2) (fun _ => rfl) (by kernel_rfl) (vcast (by kernel_rfl) h)

set_option maxRecDepth 1000000 in
theorem rend_vc (hsp : SpecsOk Tryd.prog []) (h : ∀ (g : GRe) (w : World),
RfIn w g.rb g.h ∧ g.h.size ≤ (67108864 : Nat) →
(∃ (x : Nat × Option Addr × Nat),
Value.int IntKind.i64 (0 : Int) = Value.int IntKind.i64 (↑x.fst : Int) ∧
Value.slice none (0 : Nat) (0 : Nat) = Value.slice x.snd.fst x.fst x.snd.snd ∧
x.fst ≤ g.h.size ∧
Made w w (21 : TypeId) (1 : Nat) x.snd.fst x.fst (List.map (Value.int IntKind.i32) (badsL x.fst)) x.snd.snd) ∧
∀ (u : Nat → Value) (x : Nat × Option Addr × Nat) (w' : World),
x.fst ≤ g.h.size ∧
Made w w' (21 : TypeId) (1 : Nat) x.snd.fst x.fst (List.map (Value.int IntKind.i32) (badsL x.fst)) x.snd.snd →
∃ (s : ByteArray),
w'.cell? { block := g.rb, off := (0 : Nat) } = some (Value.string s) ∧
bcase (decide ((↑x.fst : Int) < (↑s.size : Int)))
(∀ (b : Nat) (w1 : World),
New w' (Obj.cells #[Value.int IntKind.i32 (65533 : Int)] (21 : Nat)) b w1 →
∃ (a' : Option Addr),
∃ (c' : Nat),
∃ (w'1 : World),
AppRun Tryd.prog #[(26 : Nat), (26 : Nat)] (26 : Nat) (Value.slice x.snd.fst x.fst x.snd.snd)
(Value.slice (some { block := b, off := (0 : Nat) }) (1 : Nat) (1 : Nat)) w1 a' (x.fst + (1 : Nat)) c' w'1 ∧
KO w1 w'1 ∧
InR IntKind.i64 ((↑x.fst : Int) + (1 : Int)) ∧
∃ (y : Nat × Option Addr × Nat),
Value.int IntKind.i64 ((↑x.fst : Int) + (1 : Int)) = Value.int IntKind.i64 (↑y.fst : Int) ∧
Value.slice a' (x.fst + (1 : Nat)) c' = Value.slice y.snd.fst y.fst y.snd.snd ∧
(y.fst ≤ g.h.size ∧
Made w w'1 (21 : TypeId) (1 : Nat) y.snd.fst y.fst (List.map (Value.int IntKind.i32) (badsL y.fst)) y.snd.snd) ∧
g.h.size - y.fst < g.h.size - x.fst)
(true = true ∧
(∃ (old : Value), w'.cell? { block := g.rb, off := (0 : Nat) } = some old) ∧
w'.frozen? { block := g.rb, off := (0 : Nat) } = false ∧
∀ (w1 : World),
Stored w' { block := g.rb, off := (0 : Nat) } (Value.string (ByteArray.mk #[])) w1 →
∃ (x1 : Option Addr × Nat × Nat),
Value.slice x.snd.fst x.fst x.snd.snd = Value.slice x1.fst x1.snd.fst x1.snd.snd ∧
x1.snd.fst = g.h.size ∧
NewRow w w1 (21 : TypeId) x1.fst x1.snd.fst (List.map (Value.int IntKind.i32) (badsL g.h.size)) x1.snd.snd ∧
RfIn w1 g.rb (ByteArray.mk #[]) ∧ Fr (fun (q : Nat) => q = g.rb) w w1)) :
    (sREnd).Ok Tryd.prog 60 :=
  ok_of_vc sREnd annREnd [] (fun _ _ => rfl) (fun _ _ => rfl) hsp Tryd.func60 rfl (n := 1) (fun _ => rfl) (by kernel_rfl) (vcast (by kernel_rfl) h)

set_option maxRecDepth 1000000 in
theorem rheld_vc (hsp : SpecsOk Tryd.prog []) (h : ∀ (g : GRe) (w : World),
RfIn w g.rb g.h →
∃ (s : ByteArray),
w.cell? { block := g.rb, off := (0 : Nat) } = some (Value.string s) ∧
∃ (x : Nat), Value.int IntKind.i64 (↑s.size : Int) = Value.int IntKind.i64 (↑x : Int) ∧ x = g.h.size ∧ w = w) :
    (sRHeld).Ok Tryd.prog 46 :=
  ok_of_vc sRHeld (annOf []) [] (fun _ _ => rfl) (fun _ _ => rfl) hsp Tryd.func46 rfl (n := 1) (fun _ => rfl) (by kernel_rfl) (vcast (by kernel_rfl) h)

end Go.Proofs.YthkcphnkllnfcaaDoor
