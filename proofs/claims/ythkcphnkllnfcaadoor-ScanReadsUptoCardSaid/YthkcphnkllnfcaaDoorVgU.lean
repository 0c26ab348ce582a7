/-
  Verification conditions, printed by a program out of the specifications beside this text: each theorem says that the condition suffices. (Lean's kernel compares the printed condition with what 'wpE' computes.)
-/
import Derived.Test.YthkcphnkllnfcaaDoorSpU
import Derived.Test.YthkcphnkllnfcaaDoorProg
import Derived.KernelRfl
set_option linter.unusedVariables false
namespace Go.Proofs.YthkcphnkllnfcaaDoor
open Go Go.RowKit Vc Ut

set_option maxRecDepth 1000000 in
theorem much_vc (hsp : SpecsOk Tryd.prog []) (h : ∀ (g : GSt) (w : World),
StAt w g ∧ g.l.length ≤ (1048576 : Nat) →
(∃ (x : Nat × Nat),
Value.int IntKind.i64 (0 : Int) = Value.int IntKind.i64 (↑x.fst : Int) ∧
Value.int IntKind.i64 (0 : Int) = Value.int IntKind.i64 (↑x.snd : Int) ∧
w = w ∧ x.fst ≤ g.l.length ∧ x.snd ≤ (16777216 : Nat)) ∧
∀ (u : Nat → Value) (x : Nat × Nat) (w' : World),
w' = w ∧ x.fst ≤ g.l.length ∧ x.snd ≤ (16777216 : Nat) →
bcase (decide ((↑x.fst : Int) < (↑g.l.length : Int)))
(InR IntKind.i64 ((↑x.snd : Int) + (1 : Int)) ∧
∃ (k : Nat),
(↑x.fst : Int) = (↑k : Int) ∧
k < g.l.length ∧
ptrE g.ad fun (b o : Nat) =>
∃ (a2 : Option Addr),
∃ (n : Nat),
∃ (c : Nat),
w'.cell? { block := b, off := o + k * (2 : Nat) + (1 : Nat) } = some (Value.slice a2 n c) ∧
InR IntKind.i64 ((↑x.snd : Int) + (1 : Int) + (↑n : Int)) ∧
bcase (decide ((↑x.snd : Int) + (1 : Int) + (↑n : Int) > (16777216 : Int)))
(∃ (x1 : Bool), Value.bool true = Value.bool x1 ∧ w' = w)
(InR IntKind.i64 ((↑x.fst : Int) + (1 : Int)) ∧
∃ (y : Nat × Nat),
Value.int IntKind.i64 ((↑x.fst : Int) + (1 : Int)) = Value.int IntKind.i64 (↑y.fst : Int) ∧
Value.int IntKind.i64 ((↑x.snd : Int) + (1 : Int) + (↑n : Int)) = Value.int IntKind.i64 (↑y.snd : Int) ∧
(w' = w ∧ y.fst ≤ g.l.length ∧ y.snd ≤ (16777216 : Nat)) ∧ g.l.length - y.fst < g.l.length - x.fst))
(∃ (x1 : Bool), Value.bool false = Value.bool x1 ∧ w' = w)) :
    (sMuch).Ok Tryd.prog 43 :=
  ok_of_vc sMuch annMuch [] (fun _ _ => rfl) (fun _ _ => rfl) hsp Tryd.func43 rfl (n := 1) (fun _ => rfl) (by kernel_rfl) (vcast (by kernel_rfl) h)

set_option maxRecDepth 1000000 in
theorem step_vc (hsp : SpecsOk Tryd.prog spStep) (h : ∀ (g : GStep) (w : World),
U8 w ∧
RdIn w g.rb g.ha g.hc g.h ∧
RfIn w g.fb g.h ∧ CellsAt w g.x.ad (bytesV g.x.s) ∧ g.h.size ≤ (3 : Nat) ∧ g.x.s.size ≤ (1048576 : Nat) →
∀ (b : Nat) (w1 : World),
New w (Obj.cells #[Value.int IntKind.i64 g.x.d, Value.slice g.x.ad g.x.s.size g.x.c] (61 : Nat)) b w1 →
∃ (n : Int),
w1.cell? { block := b, off := (0 : Nat) } = some (Value.int IntKind.i64 n) ∧
bcase (n == (0 : Int))
(∀ (b1 : Nat) (w11 : World),
New w1 (Obj.cells #[] (5 : Nat)) b1 w11 →
∃ (a3 : Option Addr),
∃ (n1 : Nat),
∃ (c : Nat),
w11.cell? { block := b, off := (1 : Nat) } = some (Value.slice a3 n1 c) ∧
∃ (a' : Option Addr),
∃ (c' : Nat),
∃ (w' : World),
AppRun Tryd.prog #[(47 : Nat), (47 : Nat)] (47 : Nat)
(Value.slice (some { block := b1, off := (0 : Nat) }) (0 : Nat) (0 : Nat)) (Value.slice a3 n1 c) w11 a' ((0 : Nat) + n1)
c' w' ∧
KO w11 w' ∧
∀ (b2 : Nat) (w12 : World),
New w' (Obj.cells #[Value.int IntKind.u8 (165 : Int), Value.int IntKind.u8 (165 : Int)] (5 : Nat)) b2 w12 →
∃ (a'1 : Option Addr),
∃ (c'1 : Nat),
∃ (w'1 : World),
AppRun Tryd.prog #[(47 : Nat), (47 : Nat)] (47 : Nat) (Value.slice a' ((0 : Nat) + n1) c')
(Value.slice (some { block := b2, off := (0 : Nat) }) (2 : Nat) (2 : Nat)) w12 a'1 ((0 : Nat) + n1 + (2 : Nat)) c'1
w'1 ∧
KO w12 w'1 ∧
∃ (a5 : Option Addr),
∃ (n2 : Nat),
∃ (c1 : Nat),
w'1.cell? { block := b, off := (1 : Nat) } = some (Value.slice a5 n2 c1) ∧
∃ (hn : Nat),
(↑n2 : Int) = (↑hn : Int) ∧
hn ≤ c'1 ∧
∃ (a6 : Option Addr),
∃ (n3 : Nat),
∃ (c2 : Nat),
w'1.cell? { block := b, off := (1 : Nat) } = some (Value.slice a6 n3 c2) ∧
∃ (g1 : GRf),
#[Value.pointer (some { block := g.fb, off := (0 : Nat) }), Value.slice a6 n3 c2] =
#[Value.pointer (some { block := g1.rb, off := (0 : Nat) }), Value.slice g1.ad g1.b.size g1.c] ∧
(U8 w'1 ∧ RfIn w'1 g1.rb g1.h ∧ CellsAt w'1 g1.ad (bytesV g1.b) ∧ (g1.h ++ g1.b).size ≤ (67108864 : Nat)) ∧
∀ (x : Option Addr × Nat × Nat) (w'2 : World),
x.snd.fst = (fdR (g1.h ++ g1.b)).length ∧
NewRow w'1 w'2 (21 : TypeId) x.fst x.snd.fst (List.map (Value.int IntKind.i32) (fdR (g1.h ++ g1.b))) x.snd.snd ∧
RfIn w'2 g1.rb (fdH (g1.h ++ g1.b)) ∧ Fr (fun (q : Nat) => q = g1.rb) w'1 w'2 →
∃ (g2 : GRd),
#[Value.pointer (some { block := g.rb, off := (0 : Nat) }), Value.slice a'1 hn c'1] =
#[Value.pointer (some { block := g2.rb, off := (0 : Nat) }), Value.slice g2.ad g2.b.size g2.c] ∧
(U8 w'2 ∧
RdIn w'2 g2.rb g2.ha g2.hc g2.h ∧
CellsAt w'2 g2.ad (bytesV g2.b) ∧ g2.h.size ≤ (67108864 : Nat) ∧ g2.b.size ≤ (67108864 : Nat)) ∧
∀ (x1 : (Option Addr × Nat × Nat) × Option Addr × Nat) (w'3 : World),
x1.fst.snd.fst = (fdR (g2.h ++ g2.b)).length ∧
NewRow w'2 w'3 (21 : TypeId) x1.fst.fst x1.fst.snd.fst (List.map (Value.int IntKind.i32) (fdR (g2.h ++ g2.b)))
x1.fst.snd.snd ∧
RdIn w'3 g2.rb x1.snd.fst x1.snd.snd (fdH (g2.h ++ g2.b)) ∧
(∀ (q : Nat), blk x1.snd.fst = some q → w'2.heap.size ≤ q) ∧
(∀ (q : Nat), blk x1.fst.fst = some q → blk x1.snd.fst ≠ some q) ∧ Fr (fun (q : Nat) => q = g2.rb) w'2 w'3 →
(∃ (g3 : GTwo),
#[Value.slice x1.fst.fst x1.fst.snd.fst x1.fst.snd.snd, Value.slice x.fst x.snd.fst x.snd.snd] =
#[Value.slice g3.a.ad g3.a.xs.length g3.a.c, Value.slice g3.b.ad g3.b.xs.length g3.b.c] ∧
(GSl.at IntKind.i32 g3.a w'3 ∧ GSl.at IntKind.i32 g3.b w'3) ∧
∀ (x2 : Bool) (w'4 : World),
x2 = decide (g3.a.xs = g3.b.xs) ∧ Ext w'3 w'4 →
bcase x2
(∃ (str : ByteArray),
BytesIn w'4 a'1 hn str ∧
∃ (a10 : Option Addr),
∃ (n4 : Nat),
∃ (c3 : Nat),
w'4.cell? { block := b, off := (1 : Nat) } = some (Value.slice a10 n4 c3) ∧
∃ (str1 : ByteArray),
BytesIn w'4 a10 n4 str1 ∧
bcase (str.toList == str1.toList)
(∃ (a11 : Option Addr),
∃ (n5 : Nat),
∃ (c4 : Nat),
w'4.cell? { block := b, off := (1 : Nat) } = some (Value.slice a11 n5 c4) ∧
∃ (k : Nat),
(↑n5 : Int) = (↑k : Int) ∧
k < (0 : Nat) + n1 + (2 : Nat) ∧
ptrE a'1 fun (b3 o : Nat) =>
∃ (n6 : Int),
w'4.cell? { block := b3, off := o + k } = some (Value.int IntKind.u8 n6) ∧
bcase (n6 == (165 : Int))
(∃ (a12 : Option Addr),
∃ (n7 : Nat),
∃ (c5 : Nat),
w'4.cell? { block := b, off := (1 : Nat) } = some (Value.slice a12 n7 c5) ∧
InR IntKind.i64 ((↑n7 : Int) + (1 : Int)) ∧
∃ (k1 : Nat),
(↑n7 : Int) + (1 : Int) = (↑k1 : Int) ∧
k1 < (0 : Nat) + n1 + (2 : Nat) ∧
ptrE a'1 fun (b4 o1 : Nat) =>
∃ (n8 : Int),
w'4.cell? { block := b4, off := o1 + k1 } = some (Value.int IntKind.u8 n8) ∧
∃ (c6 : Unit), Value.bool (n8 == (165 : Int)) = Value.bool true ∧ Ext w'3 w'4)
(∃ (c5 : Unit), Value.bool false = Value.bool true ∧ Ext w'3 w'4))
(∃ (c4 : Unit), Value.bool false = Value.bool true ∧ Ext w'3 w'4))
(∃ (c3 : Unit), Value.bool false = Value.bool true ∧ Ext w'3 w'4)) ∧
∀ (u : Nat → Value) (c3 : Unit) (w'4 : World),
Ext w'3 w'4 →
(∃ (x2 : Nat),
Value.int IntKind.i64 (0 : Int) = Value.int IntKind.i64 (↑x2 : Int) ∧
x2 ≤ g.x.s.size + (2 : Nat) ∧
(∃ (a10 : Option Addr),
∃ (c4 : Nat),
∃ (vs : List Value),
Value.slice a'1 ((0 : Nat) + n1 + (2 : Nat)) c'1 = Value.slice a10 (g.x.s.size + (2 : Nat)) c4 ∧
Row w'4 (5 : TypeId) (1 : Nat) a10 (g.x.s.size + (2 : Nat)) vs c4) ∧
Fr (slN (Value.slice a'1 ((0 : Nat) + n1 + (2 : Nat)) c'1)) w'4 w'4) ∧
∀ (u1 : Nat → Value) (x2 : Nat) (w'5 : World),
x2 ≤ g.x.s.size + (2 : Nat) ∧
(∃ (a10 : Option Addr),
∃ (c4 : Nat),
∃ (vs : List Value),
Value.slice a'1 ((0 : Nat) + n1 + (2 : Nat)) c'1 = Value.slice a10 (g.x.s.size + (2 : Nat)) c4 ∧
Row w'5 (5 : TypeId) (1 : Nat) a10 (g.x.s.size + (2 : Nat)) vs c4) ∧
Fr (slN (Value.slice a'1 ((0 : Nat) + n1 + (2 : Nat)) c'1)) w'4 w'5 →
bcase (decide ((↑x2 : Int) < (↑((0 : Nat) + n1 + (2 : Nat)) : Int)))
(∃ (k : Nat),
(↑x2 : Int) = (↑k : Int) ∧
k < (0 : Nat) + n1 + (2 : Nat) ∧
ptrE a'1 fun (b3 o : Nat) =>
true = true ∧
(∃ (old : Value), w'5.cell? { block := b3, off := o + k } = some old) ∧
w'5.frozen? { block := b3, off := o + k } = false ∧
∀ (w13 : World),
Stored w'5 { block := b3, off := o + k } (Value.int IntKind.u8 (122 : Int)) w13 →
InR IntKind.i64 ((↑x2 : Int) + (1 : Int)) ∧
∃ (y : Nat),
Value.int IntKind.i64 ((↑x2 : Int) + (1 : Int)) = Value.int IntKind.i64 (↑y : Int) ∧
(y ≤ g.x.s.size + (2 : Nat) ∧
(∃ (a12 : Option Addr),
∃ (c4 : Nat),
∃ (vs : List Value),
Value.slice a'1 ((0 : Nat) + n1 + (2 : Nat)) c'1 = Value.slice a12 (g.x.s.size + (2 : Nat)) c4 ∧
Row w13 (5 : TypeId) (1 : Nat) a12 (g.x.s.size + (2 : Nat)) vs c4) ∧
Fr (slN (Value.slice a'1 ((0 : Nat) + n1 + (2 : Nat)) c'1)) w'4 w13) ∧
g.x.s.size + (2 : Nat) - y < g.x.s.size + (2 : Nat) - x2)
((∃ (x3 : Nat),
Value.int IntKind.i64 (0 : Int) = Value.int IntKind.i64 (↑x3 : Int) ∧
x3 ≤ (fdR (g.h ++ g.x.s)).length ∧
(∃ (a11 : Option Addr),
∃ (c4 : Nat),
∃ (vs : List Value),
Value.slice x1.fst.fst x1.fst.snd.fst x1.fst.snd.snd = Value.slice a11 (fdR (g.h ++ g.x.s)).length c4 ∧
Row w'5 (21 : TypeId) (1 : Nat) a11 (fdR (g.h ++ g.x.s)).length vs c4) ∧
Fr (slN (Value.slice x1.fst.fst x1.fst.snd.fst x1.fst.snd.snd)) w'5 w'5) ∧
∀ (u2 : Nat → Value) (x3 : Nat) (w'6 : World),
x3 ≤ (fdR (g.h ++ g.x.s)).length ∧
(∃ (a11 : Option Addr),
∃ (c4 : Nat),
∃ (vs : List Value),
Value.slice x1.fst.fst x1.fst.snd.fst x1.fst.snd.snd = Value.slice a11 (fdR (g.h ++ g.x.s)).length c4 ∧
Row w'6 (21 : TypeId) (1 : Nat) a11 (fdR (g.h ++ g.x.s)).length vs c4) ∧
Fr (slN (Value.slice x1.fst.fst x1.fst.snd.fst x1.fst.snd.snd)) w'5 w'6 →
bcase (decide ((↑x3 : Int) < (↑x1.fst.snd.fst : Int)))
(∃ (k : Nat),
(↑x3 : Int) = (↑k : Int) ∧
k < x1.fst.snd.fst ∧
ptrE x1.fst.fst fun (b3 o : Nat) =>
true = true ∧
(∃ (old : Value), w'6.cell? { block := b3, off := o + k } = some old) ∧
w'6.frozen? { block := b3, off := o + k } = false ∧
∀ (w13 : World),
Stored w'6 { block := b3, off := o + k } (Value.int IntKind.i32 (1 : Int)) w13 →
InR IntKind.i64 ((↑x3 : Int) + (1 : Int)) ∧
∃ (y : Nat),
Value.int IntKind.i64 ((↑x3 : Int) + (1 : Int)) = Value.int IntKind.i64 (↑y : Int) ∧
(y ≤ (fdR (g.h ++ g.x.s)).length ∧
(∃ (a13 : Option Addr),
∃ (c4 : Nat),
∃ (vs : List Value),
Value.slice x1.fst.fst x1.fst.snd.fst x1.fst.snd.snd = Value.slice a13 (fdR (g.h ++ g.x.s)).length c4 ∧
Row w13 (21 : TypeId) (1 : Nat) a13 (fdR (g.h ++ g.x.s)).length vs c4) ∧
Fr (slN (Value.slice x1.fst.fst x1.fst.snd.fst x1.fst.snd.snd)) w'5 w13) ∧
(fdR (g.h ++ g.x.s)).length - y < (fdR (g.h ++ g.x.s)).length - x3)
(∃ (x4 : ByteArray × Option Addr × Nat),
Value.bool true = Value.bool true ∧
x4.fst.size ≤ (3 : Nat) ∧
RdIn w'6 g.rb x4.snd.fst x4.snd.snd x4.fst ∧ RfIn w'6 g.fb x4.fst ∧ Fr (two g.rb g.fb) w w'6)))
(bcase (n == (1 : Int))
(∃ (g1 : GRe),
#[Value.pointer (some { block := g.fb, off := (0 : Nat) })] =
#[Value.pointer (some { block := g1.rb, off := (0 : Nat) })] ∧
(RfIn w1 g1.rb g1.h ∧ g1.h.size ≤ (67108864 : Nat)) ∧
∀ (x : Option Addr × Nat × Nat) (w' : World),
x.snd.fst = g1.h.size ∧
NewRow w1 w' (21 : TypeId) x.fst x.snd.fst (List.map (Value.int IntKind.i32) (badsL g1.h.size)) x.snd.snd ∧
RfIn w' g1.rb (ByteArray.mk #[]) ∧ Fr (fun (q : Nat) => q = g1.rb) w1 w' →
∃ (g2 : GEnd),
#[Value.pointer (some { block := g.rb, off := (0 : Nat) })] =
#[Value.pointer (some { block := g2.rb, off := (0 : Nat) })] ∧
(RdIn w' g2.rb g2.ha g2.hc g2.h ∧ g2.h.size ≤ (67108864 : Nat)) ∧
∀ (x1 : Option Addr × Nat × Nat) (w'1 : World),
x1.snd.fst = g2.h.size ∧
NewRow w' w'1 (21 : TypeId) x1.fst x1.snd.fst (List.map (Value.int IntKind.i32) (badsL g2.h.size)) x1.snd.snd ∧
w'1.heap[g2.rb]? = some (Obj.cells #[Value.slice none (0 : Nat) (0 : Nat)] (71 : TypeId)) ∧
Fr (fun (q : Nat) => q = g2.rb) w' w'1 →
∃ (g3 : GTwo),
#[Value.slice x1.fst x1.snd.fst x1.snd.snd, Value.slice x.fst x.snd.fst x.snd.snd] =
#[Value.slice g3.a.ad g3.a.xs.length g3.a.c, Value.slice g3.b.ad g3.b.xs.length g3.b.c] ∧
(GSl.at IntKind.i32 g3.a w'1 ∧ GSl.at IntKind.i32 g3.b w'1) ∧
∀ (x2 : Bool) (w'2 : World),
x2 = decide (g3.a.xs = g3.b.xs) ∧ Ext w'1 w'2 →
∃ (x3 : ByteArray × Option Addr × Nat),
Value.bool x2 = Value.bool true ∧
x3.fst.size ≤ (3 : Nat) ∧ RdIn w'2 g.rb x3.snd.fst x3.snd.snd x3.fst ∧ RfIn w'2 g.fb x3.fst ∧ Fr (two g.rb g.fb) w w'2)
(bcase (n == (2 : Int))
(∃ (g1 : GEnd),
#[Value.pointer (some { block := g.rb, off := (0 : Nat) })] =
#[Value.pointer (some { block := g1.rb, off := (0 : Nat) })] ∧
RdIn w1 g1.rb g1.ha g1.hc g1.h ∧
∀ (x : Nat) (w' : World),
x = g1.h.size ∧ w' = w1 →
∃ (g2 : GRe),
#[Value.pointer (some { block := g.fb, off := (0 : Nat) })] =
#[Value.pointer (some { block := g2.rb, off := (0 : Nat) })] ∧
RfIn w' g2.rb g2.h ∧
∀ (x1 : Nat) (w'1 : World),
x1 = g2.h.size ∧ w'1 = w' →
∃ (x2 : ByteArray × Option Addr × Nat),
Value.bool ((↑x : Int) == (↑x1 : Int)) = Value.bool true ∧
x2.fst.size ≤ (3 : Nat) ∧ RdIn w'1 g.rb x2.snd.fst x2.snd.snd x2.fst ∧ RfIn w'1 g.fb x2.fst ∧ Fr (two g.rb g.fb) w w'1)
(∃ (x : ByteArray × Option Addr × Nat),
Value.bool true = Value.bool true ∧
x.fst.size ≤ (3 : Nat) ∧ RdIn w1 g.rb x.snd.fst x.snd.snd x.fst ∧ RfIn w1 g.fb x.fst ∧ Fr (two g.rb g.fb) w w1)))) :
    (sStep).Ok Tryd.prog 45 :=
  ok_of_vc sStep annStep spStep (fun _ _ => rfl) (fun _ _ => rfl) hsp Tryd.func45 rfl (n := 3) (fun _ => rfl) (by kernel_rfl) (vcast (by kernel_rfl) h)

set_option maxRecDepth 1000000 in
theorem lawRs_vc (hsp : SpecsOk Tryd.prog spRs) (h : ∀ (g : GRs) (w : World),
U8 w ∧ StAt w g.a ∧ StAt w g.b ∧ g.a.l.length ≤ (1048576 : Nat) ∧ g.b.l.length ≤ (1048576 : Nat) →
∃ (g1 : GSt),
#[Value.slice g.a.ad g.a.l.length g.a.c] = #[Value.slice g1.ad g1.l.length g1.c] ∧
(StAt w g1 ∧ g1.l.length ≤ (1048576 : Nat)) ∧
∀ (x : Bool) (w' : World),
w' = w →
bcase x (∃ (x1 : Unit), Value.bool true = Value.bool true ∧ Ext w w')
(∃ (g2 : GSt),
#[Value.slice g.b.ad g.b.l.length g.b.c] = #[Value.slice g2.ad g2.l.length g2.c] ∧
(StAt w' g2 ∧ g2.l.length ≤ (1048576 : Nat)) ∧
∀ (x1 : Bool) (w'1 : World),
w'1 = w' →
bcase x1 (∃ (x2 : Unit), Value.bool true = Value.bool true ∧ Ext w w'1)
(∃ (g3 : Unit),
(#[] : Array Value) = #[] ∧
True ∧
∀ (x2 : Nat) (w'2 : World),
x2 = w'1.heap.size ∧ RdIn w'2 x2 none (0 : Nat) (ByteArray.mk #[]) ∧ Ext w'1 w'2 →
∃ (g4 : Unit),
(#[] : Array Value) = #[] ∧
True ∧
∀ (x3 : Nat) (w'3 : World),
x3 = w'2.heap.size ∧ RdIn w'3 x3 none (0 : Nat) (ByteArray.mk #[]) ∧ Ext w'2 w'3 →
∀ (b : Nat) (w1 : World),
New w'3 (Obj.cells #[Value.string (ByteArray.mk #[])] (58 : Nat)) b w1 →
∀ (b1 : Nat) (w11 : World),
New w1 (Obj.cells #[Value.string (ByteArray.mk #[])] (58 : Nat)) b1 w11 →
(∃ (x4 : Nat × GRp × GRp),
Value.int IntKind.i64 (0 : Int) = Value.int IntKind.i64 (↑x4.fst : Int) ∧
x4.fst ≤ (1048576 : Nat) ∧
x4.snd.fst.h.size ≤ (3 : Nat) ∧
x4.snd.snd.h.size ≤ (3 : Nat) ∧
RdIn w11 (ptrB (Value.pointer (some { block := x2, off := (0 : Nat) }))) x4.snd.fst.ha x4.snd.fst.hc x4.snd.fst.h ∧
RdIn w11 (ptrB (Value.pointer (some { block := x3, off := (0 : Nat) }))) x4.snd.snd.ha x4.snd.snd.hc x4.snd.snd.h ∧
RfIn w11 (ptrB (Value.pointer (some { block := b, off := (0 : Nat) }))) x4.snd.fst.h ∧
RfIn w11 (ptrB (Value.pointer (some { block := b1, off := (0 : Nat) }))) x4.snd.snd.h ∧ Ext w w11) ∧
∀ (u : Nat → Value) (x4 : Nat × GRp × GRp) (w'4 : World),
x4.fst ≤ (1048576 : Nat) ∧
x4.snd.fst.h.size ≤ (3 : Nat) ∧
x4.snd.snd.h.size ≤ (3 : Nat) ∧
RdIn w'4 (ptrB (Value.pointer (some { block := x2, off := (0 : Nat) }))) x4.snd.fst.ha x4.snd.fst.hc x4.snd.fst.h ∧
RdIn w'4 (ptrB (Value.pointer (some { block := x3, off := (0 : Nat) }))) x4.snd.snd.ha x4.snd.snd.hc x4.snd.snd.h ∧
RfIn w'4 (ptrB (Value.pointer (some { block := b, off := (0 : Nat) }))) x4.snd.fst.h ∧
RfIn w'4 (ptrB (Value.pointer (some { block := b1, off := (0 : Nat) }))) x4.snd.snd.h ∧ Ext w w'4 →
bcase (decide ((↑x4.fst : Int) < (↑g.a.l.length : Int)) || decide ((↑x4.fst : Int) < (↑g.b.l.length : Int)))
(bcase (decide ((↑x4.fst : Int) < (↑g.a.l.length : Int)))
(∃ (k : Nat),
(↑x4.fst : Int) = (↑k : Int) ∧
k < g.a.l.length ∧
ptrE g.a.ad fun (b2 o : Nat) =>
∃ (n : Int),
w'4.cell? { block := b2, off := o + k * (2 : Nat) } = some (Value.int IntKind.i64 n) ∧
∃ (a8 : Option Addr),
∃ (n1 : Nat),
∃ (c : Nat),
w'4.cell? { block := b2, off := o + k * (2 : Nat) + (1 : Nat) } = some (Value.slice a8 n1 c) ∧
∃ (g5 : GStep),
#[Value.pointer (some { block := x2, off := (0 : Nat) }), Value.pointer (some { block := b, off := (0 : Nat) }),
Value.agg #[Value.int IntKind.i64 n, Value.slice a8 n1 c]] =
#[Value.pointer (some { block := g5.rb, off := (0 : Nat) }), Value.pointer (some { block := g5.fb, off := (0 : Nat) }),
Value.agg #[Value.int IntKind.i64 g5.x.d, Value.slice g5.x.ad g5.x.s.size g5.x.c]] ∧
(U8 w'4 ∧
RdIn w'4 g5.rb g5.ha g5.hc g5.h ∧
RfIn w'4 g5.fb g5.h ∧ CellsAt w'4 g5.x.ad (bytesV g5.x.s) ∧ g5.h.size ≤ (3 : Nat) ∧ g5.x.s.size ≤ (1048576 : Nat)) ∧
∀ (x5 : ByteArray × Option Addr × Nat) (w'5 : World),
x5.fst.size ≤ (3 : Nat) ∧
RdIn w'5 g5.rb x5.snd.fst x5.snd.snd x5.fst ∧ RfIn w'5 g5.fb x5.fst ∧ Fr (two g5.rb g5.fb) w'4 w'5 →
∃ (c1 : GRp),
c1.h.size ≤ (3 : Nat) ∧
RdIn w'5 (ptrB (Value.pointer (some { block := x2, off := (0 : Nat) }))) c1.ha c1.hc c1.h ∧
RfIn w'5 (ptrB (Value.pointer (some { block := b, off := (0 : Nat) }))) c1.h ∧
Fr
(two (ptrB (Value.pointer (some { block := x2, off := (0 : Nat) })))
(ptrB (Value.pointer (some { block := b, off := (0 : Nat) }))))
w'4 w'5)
(∃ (c : GRp),
c.h.size ≤ (3 : Nat) ∧
RdIn w'4 (ptrB (Value.pointer (some { block := x2, off := (0 : Nat) }))) c.ha c.hc c.h ∧
RfIn w'4 (ptrB (Value.pointer (some { block := b, off := (0 : Nat) }))) c.h ∧
Fr
(two (ptrB (Value.pointer (some { block := x2, off := (0 : Nat) })))
(ptrB (Value.pointer (some { block := b, off := (0 : Nat) }))))
w'4 w'4) ∧
∀ (u1 : Nat → Value) (c : GRp) (w'5 : World),
c.h.size ≤ (3 : Nat) ∧
RdIn w'5 (ptrB (Value.pointer (some { block := x2, off := (0 : Nat) }))) c.ha c.hc c.h ∧
RfIn w'5 (ptrB (Value.pointer (some { block := b, off := (0 : Nat) }))) c.h ∧
Fr
(two (ptrB (Value.pointer (some { block := x2, off := (0 : Nat) })))
(ptrB (Value.pointer (some { block := b, off := (0 : Nat) }))))
w'4 w'5 →
bcase (decide ((↑x4.fst : Int) < (↑g.b.l.length : Int)))
(∃ (k : Nat),
(↑x4.fst : Int) = (↑k : Int) ∧
k < g.b.l.length ∧
ptrE g.b.ad fun (b2 o : Nat) =>
∃ (n : Int),
w'5.cell? { block := b2, off := o + k * (2 : Nat) } = some (Value.int IntKind.i64 n) ∧
∃ (a9 : Option Addr),
∃ (n1 : Nat),
∃ (c1 : Nat),
w'5.cell? { block := b2, off := o + k * (2 : Nat) + (1 : Nat) } = some (Value.slice a9 n1 c1) ∧
∃ (g5 : GStep),
#[Value.pointer (some { block := x3, off := (0 : Nat) }), Value.pointer (some { block := b1, off := (0 : Nat) }),
Value.agg #[Value.int IntKind.i64 n, Value.slice a9 n1 c1]] =
#[Value.pointer (some { block := g5.rb, off := (0 : Nat) }), Value.pointer (some { block := g5.fb, off := (0 : Nat) }),
Value.agg #[Value.int IntKind.i64 g5.x.d, Value.slice g5.x.ad g5.x.s.size g5.x.c]] ∧
(U8 w'5 ∧
RdIn w'5 g5.rb g5.ha g5.hc g5.h ∧
RfIn w'5 g5.fb g5.h ∧ CellsAt w'5 g5.x.ad (bytesV g5.x.s) ∧ g5.h.size ≤ (3 : Nat) ∧ g5.x.s.size ≤ (1048576 : Nat)) ∧
∀ (x5 : ByteArray × Option Addr × Nat) (w'6 : World),
x5.fst.size ≤ (3 : Nat) ∧
RdIn w'6 g5.rb x5.snd.fst x5.snd.snd x5.fst ∧ RfIn w'6 g5.fb x5.fst ∧ Fr (two g5.rb g5.fb) w'5 w'6 →
InR IntKind.i64 ((↑x4.fst : Int) + (1 : Int)) ∧
∃ (y : Nat × GRp × GRp),
Value.int IntKind.i64 ((↑x4.fst : Int) + (1 : Int)) = Value.int IntKind.i64 (↑y.fst : Int) ∧
(y.fst ≤ (1048576 : Nat) ∧
y.snd.fst.h.size ≤ (3 : Nat) ∧
y.snd.snd.h.size ≤ (3 : Nat) ∧
RdIn w'6 (ptrB (Value.pointer (some { block := x2, off := (0 : Nat) }))) y.snd.fst.ha y.snd.fst.hc y.snd.fst.h ∧
RdIn w'6 (ptrB (Value.pointer (some { block := x3, off := (0 : Nat) }))) y.snd.snd.ha y.snd.snd.hc y.snd.snd.h ∧
RfIn w'6 (ptrB (Value.pointer (some { block := b, off := (0 : Nat) }))) y.snd.fst.h ∧
RfIn w'6 (ptrB (Value.pointer (some { block := b1, off := (0 : Nat) }))) y.snd.snd.h ∧ Ext w w'6) ∧
(1048577 : Nat) - y.fst < (1048577 : Nat) - x4.fst)
(InR IntKind.i64 ((↑x4.fst : Int) + (1 : Int)) ∧
∃ (y : Nat × GRp × GRp),
Value.int IntKind.i64 ((↑x4.fst : Int) + (1 : Int)) = Value.int IntKind.i64 (↑y.fst : Int) ∧
(y.fst ≤ (1048576 : Nat) ∧
y.snd.fst.h.size ≤ (3 : Nat) ∧
y.snd.snd.h.size ≤ (3 : Nat) ∧
RdIn w'5 (ptrB (Value.pointer (some { block := x2, off := (0 : Nat) }))) y.snd.fst.ha y.snd.fst.hc y.snd.fst.h ∧
RdIn w'5 (ptrB (Value.pointer (some { block := x3, off := (0 : Nat) }))) y.snd.snd.ha y.snd.snd.hc y.snd.snd.h ∧
RfIn w'5 (ptrB (Value.pointer (some { block := b, off := (0 : Nat) }))) y.snd.fst.h ∧
RfIn w'5 (ptrB (Value.pointer (some { block := b1, off := (0 : Nat) }))) y.snd.snd.h ∧ Ext w w'5) ∧
(1048577 : Nat) - y.fst < (1048577 : Nat) - x4.fst))
(∃ (g5 : GEnd),
#[Value.pointer (some { block := x2, off := (0 : Nat) })] =
#[Value.pointer (some { block := g5.rb, off := (0 : Nat) })] ∧
RdIn w'4 g5.rb g5.ha g5.hc g5.h ∧
∀ (x5 : Nat) (w'5 : World),
x5 = g5.h.size ∧ w'5 = w'4 →
∃ (g6 : GRe),
#[Value.pointer (some { block := b, off := (0 : Nat) })] =
#[Value.pointer (some { block := g6.rb, off := (0 : Nat) })] ∧
RfIn w'5 g6.rb g6.h ∧
∀ (x6 : Nat) (w'6 : World),
x6 = g6.h.size ∧ w'6 = w'5 →
bcase ((↑x5 : Int) == (↑x6 : Int))
(∃ (g7 : GEnd),
#[Value.pointer (some { block := x3, off := (0 : Nat) })] =
#[Value.pointer (some { block := g7.rb, off := (0 : Nat) })] ∧
RdIn w'6 g7.rb g7.ha g7.hc g7.h ∧
∀ (x7 : Nat) (w'7 : World),
x7 = g7.h.size ∧ w'7 = w'6 →
∃ (g8 : GRe),
#[Value.pointer (some { block := b1, off := (0 : Nat) })] =
#[Value.pointer (some { block := g8.rb, off := (0 : Nat) })] ∧
RfIn w'7 g8.rb g8.h ∧
∀ (x8 : Nat) (w'8 : World),
x8 = g8.h.size ∧ w'8 = w'7 →
bcase ((↑x7 : Int) == (↑x8 : Int))
(∃ (g9 : Unit),
(#[] : Array Value) = #[] ∧
U8 w'8 ∧ ∀ (x9 : Unit) (w'9 : World), Ext w'8 w'9 → ∃ (x10 : Unit), Value.bool true = Value.bool true ∧ Ext w w'9)
(∃ (x9 : Unit), Value.bool false = Value.bool true ∧ Ext w w'8))
(∃ (x7 : Unit), Value.bool false = Value.bool true ∧ Ext w w'6))))) :
    (sLawRs).Ok Tryd.prog 12 :=
  ok_of_vc sLawRs annRs spRs (fun _ _ => rfl) (fun _ _ => rfl) hsp Tryd.func12 rfl (n := 2) (fun _ => rfl) (by kernel_rfl) (vcast (by kernel_rfl) h)

end Go.Proofs.YthkcphnkllnfcaaDoor
