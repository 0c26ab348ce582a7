/-
  Texts joined by program: VgXs, WkYc, Lw, Bulk, U8, U9.
-/
import Derived.Test.YtjdohhididpomaaDoorWk22
import Derived.Test.YtjdohhididpomaaDoorProg
import Derived.KernelRfl
import Derived.Test.YtjdohhididpomaaDoorRows
import Derived.Test.YtjdohhididpomaaDoorWk03
import Derived.WalkKit
import Derived.ProofKit
import Derived.OpenShut
import Derived.JoinedCond
import Derived.SizedLaws
import Derived.Carry
import Derived.Test.YtjdohhididpomaaDoorWk09
import Derived.Lib.LaidIn
import Derived.Lib.LaidU8
import Derived.Test.YtjdohhididpomaaDoorWk10
set_option linter.unusedVariables false
set_option linter.unusedSimpArgs false

section
set_option linter.unusedVariables false
namespace Go.Proofs.YtjdohhididpomaaDoor
open Go Go.RowKit Vc Ut Tb Cl
set_option maxRecDepth 1000000 in
theorem shown_vc (hsp : SpecsOk Tryd.prog spShown) (h : ∀ (g : GSho) (w : World), UP w ∧ CellsAt w g.a (List.map Value.string g.l) ∧ g.s.size ≤ 1000 ∧ shoB g = true → ∃ (g1 : Nat × Nat × Bool), #[Value.int .i64 4, Value.int .i64 2, Value.bool false] = #[Value.int .i64 (↑g1.fst : Int), Value.int .i64 (↑g1.snd.fst : Int), Value.bool g1.snd.snd] ∧ (UDB w.heap.size w ∧ g1.fst ≤ 1024 ∧ g1.snd.fst ≤ 1024) ∧ ∀ (x : GlP) (w' : World), Ext w w' ∧ x.B = w.heap.size ∧ GlIn w' x (newG g1.fst g1.snd.fst g1.snd.snd) ∧ GlRd w' x none (0 : Nat) (ByteArray.mk #[]) → (∃ (c : Unit), w' = w') ∧ ∀ (u : Nat → Value) (c : Unit) (w'1 : World), w'1 = w' → g.s.size ≤ 70368744177664 ∧ ∀ (c1 b : Nat) (w1 : World), NewBytes w'1 g.s c1 b w1 → ∃ (g2 : GFd), #[Value.pointer (some ⟨x.p, 0, none⟩), Value.slice (some ⟨b, 0, none⟩) g.s.size c1] = #[Value.pointer (some ⟨g2.A.p, 0, none⟩), Value.slice g2.ad g2.b.size g2.c] ∧ (GlIn w1 g2.A g2.g ∧ okG g2.g g2.m ∧ GlRd w1 g2.A g2.ha g2.hc g2.h ∧ CellsAt w1 g2.ad (bytesV g2.b) ∧ g2.b.size ≤ 67108864 ∧ g2.m + 3 + g2.b.size ≤ 549755813888) ∧ ∀ (x1 : GlP × Option Addr × Nat) (w'2 : World), FdOut w1 w'2 g2.A g2.ha g2.h x1.fst x1.snd.fst x1.snd.snd (feedG g2.g (fdR (g2.h ++ g2.b))) (fdH (g2.h ++ g2.b)) → ∃ (g3 : GGl), #[Value.pointer (some ⟨x.p, 0, none⟩)] = #[Value.pointer (some ⟨g3.A.p, 0, none⟩)] ∧ (GlIn w'2 g3.A g3.g ∧ fitG g3.g) ∧ ∀ (x2 : (Option Addr × Nat) × Gr) (w'3 : World), gdOut g3.g w'2 w'3 x2 → ∀ (b1 : Nat) (w11 : World), New w'3 (Obj.cells #[Value.int .i64 x2.snd.w, Value.int .i64 x2.snd.h, Value.slice x2.fst.fst x2.snd.cs.length x2.fst.snd, Value.int .i64 x2.snd.x, Value.int .i64 x2.snd.y] (27 : Nat)) b1 w11 → (∃ (n : Int), w11.cell? ⟨b1, 3, none⟩ = some (Value.int .i64 n) ∧ bcase (n != g.x) (∃ (x3 : Unit), Value.bool false = Value.bool true ∧ Ext w w11) (∃ (n1 : Int), w11.cell? ⟨b1, 4, none⟩ = some (Value.int .i64 n1) ∧ bcase (n1 != g.y) (∃ (x3 : Unit), Value.bool false = Value.bool true ∧ Ext w w11) (∃ (a7 : Option Addr) (n2 : Nat) (c2 : Nat), w11.cell? ⟨b1, 2, none⟩ = some (Value.slice a7 n2 c2) ∧ bcase ((↑n2 : Int) != (8 : Int)) (∃ (x3 : Unit), Value.bool false = Value.bool true ∧ Ext w w11) (bcase ((↑g.l.length : Int) != (8 : Int)) (∃ (x3 : Unit), Value.bool false = Value.bool true ∧ Ext w w11) (∃ (c3 : Unit), w11 = w11))))) ∧ ∀ (u1 : Nat → Value) (c2 : Unit) (w'4 : World), w'4 = w11 → (∃ (x3 : Nat), Value.int .i64 0 = Value.int .i64 (↑x3 : Int) ∧ shoI g w x3 w'4 (Value.pointer (some ⟨b1, 0, none⟩))) ∧ ∀ (u2 : Nat → Value) (x3 : Nat) (w'5 : World), shoI g w x3 w'5 (Value.pointer (some ⟨b1, 0, none⟩)) → bcase (decide ((↑x3 : Int) < (↑g.l.length : Int))) (∃ (a9 : Option Addr) (n : Nat) (c3 : Nat), w'5.cell? ⟨b1, 2, none⟩ = some (Value.slice a9 n c3) ∧ ∃ (k : Nat), (↑x3 : Int) = (↑k : Int) ∧ k < n ∧ ptrE a9 fun (b2 o : Nat) => ∃ (s : ByteArray), w'5.cell? ⟨b2, o + k * 6, none⟩ = some (Value.string s) ∧ ∃ (n1 : Int), w'5.cell? ⟨b2, o + k * 6 + 1, none⟩ = some (Value.int .i8 n1) ∧ ∃ (n2 : Int),
 w'5.cell? ⟨b2, o + k * 6 + 2, none⟩ = some (Value.int .i64 n2) ∧ ∃ (n3 : Int), w'5.cell? ⟨b2, o + k * 6 + 3, none⟩ = some (Value.int .i64 n3) ∧ ∃ (b3 : Bool), w'5.cell? ⟨b2, o + k * 6 + 4, none⟩ = some (Value.bool b3) ∧ ∃ (n4 : Int), w'5.cell? ⟨b2, o + k * 6 + 5, none⟩ = some (Value.int .u16 n4) ∧ ∀ (b4 : Nat) (w12 : World), New w'5 (Obj.cells #[Value.string s, Value.int .i8 n1, Value.int .i64 n2, Value.int .i64 n3, Value.bool b3, Value.int .u16 n4] (46 : Nat)) b4 w12 → ∀ (w13 : World), Drew w12 w13 → ∃ (k1 : Nat), (↑x3 : Int) = (↑k1 : Int) ∧ k1 < g.l.length ∧ ptrE g.a fun (b5 o1 : Nat) => ∃ (s1 : ByteArray), w12.cell? ⟨b5, o1 + k1, none⟩ = some (Value.string s1) ∧ bcase (s1.toList == (ByteArray.mk #[(45 : UInt8)]).toList) (∃ (n5 : Int), w12.cell? ⟨b4, 1, none⟩ = some (Value.int .i8 n5) ∧ bcase (n5 != (1 : Int)) (∃ (x4 : Unit), Value.bool false = Value.bool true ∧ Ext w w13) (∃ (s2 : ByteArray), w12.cell? ⟨b4, 0, none⟩ = some (Value.string s2) ∧ bcase (!s2.toList == (ByteArray.mk #[]).toList) (∃ (x4 : Unit), Value.bool false = Value.bool true ∧ Ext w w13) (∃ (k2 : Nat), (↑x3 : Int) = (↑k2 : Int) ∧ k2 < g.l.length ∧ ptrE g.a fun (b6 o2 : Nat) => ∃ (s3 : ByteArray), w12.cell? ⟨b6, o2 + k2, none⟩ = some (Value.string s3) ∧ bcase (s3.toList == (ByteArray.mk #[(46 : UInt8)]).toList) (∃ (n6 : Int), w12.cell? ⟨b4, 1, none⟩ = some (Value.int .i8 n6) ∧ bcase (n6 != (0 : Int)) (∃ (x4 : Unit), Value.bool false = Value.bool true ∧ Ext w w13) (∃ (s4 : ByteArray), w12.cell? ⟨b4, 0, none⟩ = some (Value.string s4) ∧ bcase (!s4.toList == (ByteArray.mk #[]).toList) (∃ (s5 : ByteArray), w12.cell? ⟨b4, 0, none⟩ = some (Value.string s5) ∧ bcase (!s5.toList == (ByteArray.mk #[(32 : UInt8)]).toList) (∃ (x4 : Unit), Value.bool false = Value.bool true ∧ Ext w w13) (∃ (k3 : Nat), (↑x3 : Int) = (↑k3 : Int) ∧ k3 < g.l.length ∧ ptrE g.a fun (b7 o3 : Nat) => ∃ (s6 : ByteArray), w12.cell? ⟨b7, o3 + k3, none⟩ = some (Value.string s6) ∧ bcase (!s6.toList == (ByteArray.mk #[(45 : UInt8)]).toList) (∃ (k4 : Nat), (↑x3 : Int) = (↑k4 : Int) ∧ k4 < g.l.length ∧ ptrE g.a fun (b8 o4 : Nat) => ∃ (s7 : ByteArray), w12.cell? ⟨b8, o4 + k4, none⟩ = some (Value.string s7) ∧ bcase (!s7.toList == (ByteArray.mk #[(46 : UInt8)]).toList) (∃ (s8 : ByteArray), w12.cell? ⟨b4, 0, none⟩ = some (Value.string s8) ∧ ∃ (k5 : Nat), (↑x3 : Int) = (↑k5 : Int) ∧ k5 < g.l.length ∧ ptrE g.a fun (b9 o5 : Nat) => ∃ (s9 : ByteArray), w12.cell? ⟨b9, o5 + k5, none⟩ = some (Value.string s9) ∧ bcase (!s8.toList == s9.toList) (∃ (x4 : Unit), Value.bool false = Value.bool true ∧ Ext w w13) (∃ (n7 : Int), w12.cell? ⟨b4, 1, none⟩ = some (Value.int .i8 n7) ∧ bcase (n7 != (0 : Int)) (∃ (x4 : Unit), Value.bool false = Value.bool true ∧ Ext w w13) (InR .i64 ((↑x3 : Int) + (1 : Int)) ∧ ∃ (y : Nat), Value.int .i64 ((↑x3 : Int) + (1 : Int)) = Value.int .i64 (↑y : Int) ∧ shoI g w y w13 (Value.pointer (some ⟨b1, 0, none⟩)) ∧ (8 : Nat) - y < 8 - x3))) (InR .i64 ((↑x3 : Int) + (1 : Int)) ∧ ∃ (y : Nat),
 Value.int .i64 ((↑x3 : Int) + (1 : Int)) = Value.int .i64 (↑y : Int) ∧ shoI g w y w13 (Value.pointer (some ⟨b1, 0, none⟩)) ∧ (8 : Nat) - y < 8 - x3)) (InR .i64 ((↑x3 : Int) + (1 : Int)) ∧ ∃ (y : Nat), Value.int .i64 ((↑x3 : Int) + (1 : Int)) = Value.int .i64 (↑y : Int) ∧ shoI g w y w13 (Value.pointer (some ⟨b1, 0, none⟩)) ∧ (8 : Nat) - y < 8 - x3))) (∃ (k3 : Nat), (↑x3 : Int) = (↑k3 : Int) ∧ k3 < g.l.length ∧ ptrE g.a fun (b7 o3 : Nat) => ∃ (s5 : ByteArray), w12.cell? ⟨b7, o3 + k3, none⟩ = some (Value.string s5) ∧ bcase (!s5.toList == (ByteArray.mk #[(45 : UInt8)]).toList) (∃ (k4 : Nat), (↑x3 : Int) = (↑k4 : Int) ∧ k4 < g.l.length ∧ ptrE g.a fun (b8 o4 : Nat) => ∃ (s6 : ByteArray), w12.cell? ⟨b8, o4 + k4, none⟩ = some (Value.string s6) ∧ bcase (!s6.toList == (ByteArray.mk #[(46 : UInt8)]).toList) (∃ (s7 : ByteArray), w12.cell? ⟨b4, 0, none⟩ = some (Value.string s7) ∧ ∃ (k5 : Nat), (↑x3 : Int) = (↑k5 : Int) ∧ k5 < g.l.length ∧ ptrE g.a fun (b9 o5 : Nat) => ∃ (s8 : ByteArray), w12.cell? ⟨b9, o5 + k5, none⟩ = some (Value.string s8) ∧ bcase (!s7.toList == s8.toList) (∃ (x4 : Unit), Value.bool false = Value.bool true ∧ Ext w w13) (∃ (n7 : Int), w12.cell? ⟨b4, 1, none⟩ = some (Value.int .i8 n7) ∧ bcase (n7 != (0 : Int)) (∃ (x4 : Unit), Value.bool false = Value.bool true ∧ Ext w w13) (InR .i64 ((↑x3 : Int) + (1 : Int)) ∧ ∃ (y : Nat), Value.int .i64 ((↑x3 : Int) + (1 : Int)) = Value.int .i64 (↑y : Int) ∧ shoI g w y w13 (Value.pointer (some ⟨b1, 0, none⟩)) ∧ (8 : Nat) - y < 8 - x3))) (InR .i64 ((↑x3 : Int) + (1 : Int)) ∧ ∃ (y : Nat), Value.int .i64 ((↑x3 : Int) + (1 : Int)) = Value.int .i64 (↑y : Int) ∧ shoI g w y w13 (Value.pointer (some ⟨b1, 0, none⟩)) ∧ (8 : Nat) - y < 8 - x3)) (InR .i64 ((↑x3 : Int) + (1 : Int)) ∧ ∃ (y : Nat), Value.int .i64 ((↑x3 : Int) + (1 : Int)) = Value.int .i64 (↑y : Int) ∧ shoI g w y w13 (Value.pointer (some ⟨b1, 0, none⟩)) ∧ (8 : Nat) - y < 8 - x3)))) (∃ (k3 : Nat), (↑x3 : Int) = (↑k3 : Int) ∧ k3 < g.l.length ∧ ptrE g.a fun (b7 o3 : Nat) => ∃ (s4 : ByteArray), w12.cell? ⟨b7, o3 + k3, none⟩ = some (Value.string s4) ∧ bcase (!s4.toList == (ByteArray.mk #[(45 : UInt8)]).toList) (∃ (k4 : Nat), (↑x3 : Int) = (↑k4 : Int) ∧ k4 < g.l.length ∧ ptrE g.a fun (b8 o4 : Nat) => ∃ (s5 : ByteArray), w12.cell? ⟨b8, o4 + k4, none⟩ = some (Value.string s5) ∧ bcase (!s5.toList == (ByteArray.mk #[(46 : UInt8)]).toList) (∃ (s6 : ByteArray), w12.cell? ⟨b4, 0, none⟩ = some (Value.string s6) ∧ ∃ (k5 : Nat), (↑x3 : Int) = (↑k5 : Int) ∧ k5 < g.l.length ∧ ptrE g.a fun (b9 o5 : Nat) => ∃ (s7 : ByteArray), w12.cell? ⟨b9, o5 + k5, none⟩ = some (Value.string s7) ∧ bcase (!s6.toList == s7.toList) (∃ (x4 : Unit), Value.bool false = Value.bool true ∧ Ext w w13) (∃ (n6 : Int), w12.cell? ⟨b4, 1, none⟩ = some (Value.int .i8 n6) ∧ bcase (n6 != (0 : Int)) (∃ (x4 : Unit), Value.bool false = Value.bool true ∧ Ext w w13) (InR .i64 ((↑x3 : Int) + (1 : Int)) ∧ ∃ (y : Nat), Value.int .i64 ((↑x3 : Int) + (1 : Int)) = Value.int .i64 (↑y : Int) ∧
 shoI g w y w13 (Value.pointer (some ⟨b1, 0, none⟩)) ∧ (8 : Nat) - y < 8 - x3))) (InR .i64 ((↑x3 : Int) + (1 : Int)) ∧ ∃ (y : Nat), Value.int .i64 ((↑x3 : Int) + (1 : Int)) = Value.int .i64 (↑y : Int) ∧ shoI g w y w13 (Value.pointer (some ⟨b1, 0, none⟩)) ∧ (8 : Nat) - y < 8 - x3)) (InR .i64 ((↑x3 : Int) + (1 : Int)) ∧ ∃ (y : Nat), Value.int .i64 ((↑x3 : Int) + (1 : Int)) = Value.int .i64 (↑y : Int) ∧ shoI g w y w13 (Value.pointer (some ⟨b1, 0, none⟩)) ∧ (8 : Nat) - y < 8 - x3))))) (∃ (k2 : Nat), (↑x3 : Int) = (↑k2 : Int) ∧ k2 < g.l.length ∧ ptrE g.a fun (b6 o2 : Nat) => ∃ (s2 : ByteArray), w12.cell? ⟨b6, o2 + k2, none⟩ = some (Value.string s2) ∧ bcase (s2.toList == (ByteArray.mk #[(46 : UInt8)]).toList) (∃ (n5 : Int), w12.cell? ⟨b4, 1, none⟩ = some (Value.int .i8 n5) ∧ bcase (n5 != (0 : Int)) (∃ (x4 : Unit), Value.bool false = Value.bool true ∧ Ext w w13) (∃ (s3 : ByteArray), w12.cell? ⟨b4, 0, none⟩ = some (Value.string s3) ∧ bcase (!s3.toList == (ByteArray.mk #[]).toList) (∃ (s4 : ByteArray), w12.cell? ⟨b4, 0, none⟩ = some (Value.string s4) ∧ bcase (!s4.toList == (ByteArray.mk #[(32 : UInt8)]).toList) (∃ (x4 : Unit), Value.bool false = Value.bool true ∧ Ext w w13) (∃ (k3 : Nat), (↑x3 : Int) = (↑k3 : Int) ∧ k3 < g.l.length ∧ ptrE g.a fun (b7 o3 : Nat) => ∃ (s5 : ByteArray), w12.cell? ⟨b7, o3 + k3, none⟩ = some (Value.string s5) ∧ bcase (!s5.toList == (ByteArray.mk #[(45 : UInt8)]).toList) (∃ (k4 : Nat), (↑x3 : Int) = (↑k4 : Int) ∧ k4 < g.l.length ∧ ptrE g.a fun (b8 o4 : Nat) => ∃ (s6 : ByteArray), w12.cell? ⟨b8, o4 + k4, none⟩ = some (Value.string s6) ∧ bcase (!s6.toList == (ByteArray.mk #[(46 : UInt8)]).toList) (∃ (s7 : ByteArray), w12.cell? ⟨b4, 0, none⟩ = some (Value.string s7) ∧ ∃ (k5 : Nat), (↑x3 : Int) = (↑k5 : Int) ∧ k5 < g.l.length ∧ ptrE g.a fun (b9 o5 : Nat) => ∃ (s8 : ByteArray), w12.cell? ⟨b9, o5 + k5, none⟩ = some (Value.string s8) ∧ bcase (!s7.toList == s8.toList) (∃ (x4 : Unit), Value.bool false = Value.bool true ∧ Ext w w13) (∃ (n6 : Int), w12.cell? ⟨b4, 1, none⟩ = some (Value.int .i8 n6) ∧ bcase (n6 != (0 : Int)) (∃ (x4 : Unit), Value.bool false = Value.bool true ∧ Ext w w13) (InR .i64 ((↑x3 : Int) + (1 : Int)) ∧ ∃ (y : Nat), Value.int .i64 ((↑x3 : Int) + (1 : Int)) = Value.int .i64 (↑y : Int) ∧ shoI g w y w13 (Value.pointer (some ⟨b1, 0, none⟩)) ∧ (8 : Nat) - y < 8 - x3))) (InR .i64 ((↑x3 : Int) + (1 : Int)) ∧ ∃ (y : Nat), Value.int .i64 ((↑x3 : Int) + (1 : Int)) = Value.int .i64 (↑y : Int) ∧ shoI g w y w13 (Value.pointer (some ⟨b1, 0, none⟩)) ∧ (8 : Nat) - y < 8 - x3)) (InR .i64 ((↑x3 : Int) + (1 : Int)) ∧ ∃ (y : Nat), Value.int .i64 ((↑x3 : Int) + (1 : Int)) = Value.int .i64 (↑y : Int) ∧ shoI g w y w13 (Value.pointer (some ⟨b1, 0, none⟩)) ∧ (8 : Nat) - y < 8 - x3))) (∃ (k3 : Nat), (↑x3 : Int) = (↑k3 : Int) ∧ k3 < g.l.length ∧ ptrE g.a fun (b7 o3 : Nat) => ∃ (s4 : ByteArray), w12.cell? ⟨b7, o3 + k3, none⟩ = some (Value.string s4) ∧ bcase (!s4.toList == (ByteArray.mk #[(45 : UInt8)]).toList) (∃ (k4 : Nat),
 (↑x3 : Int) = (↑k4 : Int) ∧ k4 < g.l.length ∧ ptrE g.a fun (b8 o4 : Nat) => ∃ (s5 : ByteArray), w12.cell? ⟨b8, o4 + k4, none⟩ = some (Value.string s5) ∧ bcase (!s5.toList == (ByteArray.mk #[(46 : UInt8)]).toList) (∃ (s6 : ByteArray), w12.cell? ⟨b4, 0, none⟩ = some (Value.string s6) ∧ ∃ (k5 : Nat), (↑x3 : Int) = (↑k5 : Int) ∧ k5 < g.l.length ∧ ptrE g.a fun (b9 o5 : Nat) => ∃ (s7 : ByteArray), w12.cell? ⟨b9, o5 + k5, none⟩ = some (Value.string s7) ∧ bcase (!s6.toList == s7.toList) (∃ (x4 : Unit), Value.bool false = Value.bool true ∧ Ext w w13) (∃ (n6 : Int), w12.cell? ⟨b4, 1, none⟩ = some (Value.int .i8 n6) ∧ bcase (n6 != (0 : Int)) (∃ (x4 : Unit), Value.bool false = Value.bool true ∧ Ext w w13) (InR .i64 ((↑x3 : Int) + (1 : Int)) ∧ ∃ (y : Nat), Value.int .i64 ((↑x3 : Int) + (1 : Int)) = Value.int .i64 (↑y : Int) ∧ shoI g w y w13 (Value.pointer (some ⟨b1, 0, none⟩)) ∧ (8 : Nat) - y < 8 - x3))) (InR .i64 ((↑x3 : Int) + (1 : Int)) ∧ ∃ (y : Nat), Value.int .i64 ((↑x3 : Int) + (1 : Int)) = Value.int .i64 (↑y : Int) ∧ shoI g w y w13 (Value.pointer (some ⟨b1, 0, none⟩)) ∧ (8 : Nat) - y < 8 - x3)) (InR .i64 ((↑x3 : Int) + (1 : Int)) ∧ ∃ (y : Nat), Value.int .i64 ((↑x3 : Int) + (1 : Int)) = Value.int .i64 (↑y : Int) ∧ shoI g w y w13 (Value.pointer (some ⟨b1, 0, none⟩)) ∧ (8 : Nat) - y < 8 - x3)))) (∃ (k3 : Nat), (↑x3 : Int) = (↑k3 : Int) ∧ k3 < g.l.length ∧ ptrE g.a fun (b7 o3 : Nat) => ∃ (s3 : ByteArray), w12.cell? ⟨b7, o3 + k3, none⟩ = some (Value.string s3) ∧ bcase (!s3.toList == (ByteArray.mk #[(45 : UInt8)]).toList) (∃ (k4 : Nat), (↑x3 : Int) = (↑k4 : Int) ∧ k4 < g.l.length ∧ ptrE g.a fun (b8 o4 : Nat) => ∃ (s4 : ByteArray), w12.cell? ⟨b8, o4 + k4, none⟩ = some (Value.string s4) ∧ bcase (!s4.toList == (ByteArray.mk #[(46 : UInt8)]).toList) (∃ (s5 : ByteArray), w12.cell? ⟨b4, 0, none⟩ = some (Value.string s5) ∧ ∃ (k5 : Nat), (↑x3 : Int) = (↑k5 : Int) ∧ k5 < g.l.length ∧ ptrE g.a fun (b9 o5 : Nat) => ∃ (s6 : ByteArray), w12.cell? ⟨b9, o5 + k5, none⟩ = some (Value.string s6) ∧ bcase (!s5.toList == s6.toList) (∃ (x4 : Unit), Value.bool false = Value.bool true ∧ Ext w w13) (∃ (n5 : Int), w12.cell? ⟨b4, 1, none⟩ = some (Value.int .i8 n5) ∧ bcase (n5 != (0 : Int)) (∃ (x4 : Unit), Value.bool false = Value.bool true ∧ Ext w w13) (InR .i64 ((↑x3 : Int) + (1 : Int)) ∧ ∃ (y : Nat), Value.int .i64 ((↑x3 : Int) + (1 : Int)) = Value.int .i64 (↑y : Int) ∧ shoI g w y w13 (Value.pointer (some ⟨b1, 0, none⟩)) ∧ (8 : Nat) - y < 8 - x3))) (InR .i64 ((↑x3 : Int) + (1 : Int)) ∧ ∃ (y : Nat), Value.int .i64 ((↑x3 : Int) + (1 : Int)) = Value.int .i64 (↑y : Int) ∧ shoI g w y w13 (Value.pointer (some ⟨b1, 0, none⟩)) ∧ (8 : Nat) - y < 8 - x3)) (InR .i64 ((↑x3 : Int) + (1 : Int)) ∧ ∃ (y : Nat), Value.int .i64 ((↑x3 : Int) + (1 : Int)) = Value.int .i64 (↑y : Int) ∧ shoI g w y w13 (Value.pointer (some ⟨b1, 0, none⟩)) ∧ (8 : Nat) - y < 8 - x3)))) (∃ (x4 : Unit), Value.bool true = Value.bool true ∧ Ext w w'5)) :
    (sShown).Ok Tryd.prog 16 :=
  ok_of_vc sShown annShown spShown (fun _ _ => rfl) (fun _ _ => rfl) hsp Tryd.func16 rfl (n := 4) (fun _ => rfl) (by kernel_rfl) (vcast (by kernel_rfl) h)
set_option maxRecDepth 1000000 in
theorem known26_vc (hsp : SpecsOk Tryd.prog spKnown26) (h : ∀ (g : Unit) (w : World), UP w → (∀ (b : Nat) (w1 : World), New w (Obj.cells #[Value.string (ByteArray.mk #[(97 : UInt8)]), Value.string (ByteArray.mk #[(98 : UInt8)]), Value.string (ByteArray.mk #[(46 : UInt8)]), Value.string (ByteArray.mk #[(46 : UInt8)]), Value.string (ByteArray.mk #[(46 : UInt8)]), Value.string (ByteArray.mk #[(46 : UInt8)]), Value.string (ByteArray.mk #[(46 : UInt8)]), Value.string (ByteArray.mk #[(46 : UInt8)])] (9 : Nat)) b w1 → ∃ (g1 : GSho), #[Value.string (ByteArray.mk #[(97 : UInt8), (98 : UInt8)]), Value.int .i64 2, Value.int .i64 0, Value.slice (some ⟨b, 0, none⟩) (8 : Nat) (8 : Nat)] = #[Value.string g1.s, Value.int .i64 g1.x, Value.int .i64 g1.y, Value.slice g1.a g1.l.length g1.c] ∧ (UP w1 ∧ CellsAt w1 g1.a (List.map Value.string g1.l) ∧ g1.s.size ≤ 1000 ∧ shoB g1 = true) ∧ ∀ (x : Unit) (w' : World), Ext w1 w' → ∀ (b1 : Nat) (w11 : World), New w' (Obj.cells #[Value.string (ByteArray.mk #[(97 : UInt8)]), Value.string (ByteArray.mk #[(98 : UInt8)]), Value.string (ByteArray.mk #[(99 : UInt8)]), Value.string (ByteArray.mk #[(100 : UInt8)]), Value.string (ByteArray.mk #[(46 : UInt8)]), Value.string (ByteArray.mk #[(46 : UInt8)]), Value.string (ByteArray.mk #[(46 : UInt8)]), Value.string (ByteArray.mk #[(46 : UInt8)])] (9 : Nat)) b1 w11 → ∃ (g2 : GSho), #[Value.string (ByteArray.mk #[(97 : UInt8), (98 : UInt8), (99 : UInt8), (100 : UInt8)]), Value.int .i64 3, Value.int .i64 0, Value.slice (some ⟨b1, 0, none⟩) (8 : Nat) (8 : Nat)] = #[Value.string g2.s, Value.int .i64 g2.x, Value.int .i64 g2.y, Value.slice g2.a g2.l.length g2.c] ∧ (UP w11 ∧ CellsAt w11 g2.a (List.map Value.string g2.l) ∧ g2.s.size ≤ 1000 ∧ shoB g2 = true) ∧ ∀ (x1 : Unit) (w'1 : World), Ext w11 w'1 → ∀ (b2 : Nat) (w12 : World), New w'1 (Obj.cells #[Value.string (ByteArray.mk #[(97 : UInt8)]), Value.string (ByteArray.mk #[(98 : UInt8)]), Value.string (ByteArray.mk #[(99 : UInt8)]), Value.string (ByteArray.mk #[(100 : UInt8)]), Value.string (ByteArray.mk #[(101 : UInt8)]), Value.string (ByteArray.mk #[(46 : UInt8)]), Value.string (ByteArray.mk #[(46 : UInt8)]), Value.string (ByteArray.mk #[(46 : UInt8)])] (9 : Nat)) b2 w12 → ∃ (g3 : GSho), #[Value.string (ByteArray.mk #[(97 : UInt8), (98 : UInt8), (99 : UInt8), (100 : UInt8), (101 : UInt8)]), Value.int .i64 1, Value.int .i64 1, Value.slice (some ⟨b2, 0, none⟩) (8 : Nat) (8 : Nat)] = #[Value.string g3.s, Value.int .i64 g3.x, Value.int .i64 g3.y, Value.slice g3.a g3.l.length g3.c] ∧ (UP w12 ∧ CellsAt w12 g3.a (List.map Value.string g3.l) ∧ g3.s.size ≤ 1000 ∧ shoB g3 = true) ∧ ∀ (x2 : Unit) (w'2 : World), Ext w12 w'2 → ∀ (b3 : Nat) (w13 : World), New w'2 (Obj.cells #[Value.string (ByteArray.mk #[(101 : UInt8), (204 : UInt8), (129 : UInt8)]), Value.string (ByteArray.mk #[(46 : UInt8)]), Value.string (ByteArray.mk #[(46 : UInt8)]), Value.string (ByteArray.mk #[(46 : UInt8)]),
 Value.string (ByteArray.mk #[(46 : UInt8)]), Value.string (ByteArray.mk #[(46 : UInt8)]), Value.string (ByteArray.mk #[(46 : UInt8)]), Value.string (ByteArray.mk #[(46 : UInt8)])] (9 : Nat)) b3 w13 → ∃ (g4 : GSho), #[Value.string (ByteArray.mk #[(101 : UInt8), (204 : UInt8), (129 : UInt8)]), Value.int .i64 1, Value.int .i64 0, Value.slice (some ⟨b3, 0, none⟩) (8 : Nat) (8 : Nat)] = #[Value.string g4.s, Value.int .i64 g4.x, Value.int .i64 g4.y, Value.slice g4.a g4.l.length g4.c] ∧ (UP w13 ∧ CellsAt w13 g4.a (List.map Value.string g4.l) ∧ g4.s.size ≤ 1000 ∧ shoB g4 = true) ∧ ∀ (x3 : Unit) (w'3 : World), Ext w13 w'3 → ∃ (c : Unit), Value.bool true = Value.bool true ∧ Ext w w'3) ∧ ∀ (u : Nat → Value) (c : Unit) (w' : World), Ext w w' → (∀ (b : Nat) (w1 : World), New w' (Obj.cells #[Value.string (ByteArray.mk #[(46 : UInt8)]), Value.string (ByteArray.mk #[(46 : UInt8)]), Value.string (ByteArray.mk #[(46 : UInt8)]), Value.string (ByteArray.mk #[(46 : UInt8)]), Value.string (ByteArray.mk #[(46 : UInt8)]), Value.string (ByteArray.mk #[(46 : UInt8)]), Value.string (ByteArray.mk #[(120 : UInt8)]), Value.string (ByteArray.mk #[(46 : UInt8)])] (9 : Nat)) b w1 → ∃ (g1 : GSho), #[Value.string (ByteArray.mk #[(27 : UInt8), (91 : UInt8), (50 : UInt8), (59 : UInt8), (51 : UInt8), (72 : UInt8), (120 : UInt8)]), Value.int .i64 3, Value.int .i64 1, Value.slice (some ⟨b, 0, none⟩) (8 : Nat) (8 : Nat)] = #[Value.string g1.s, Value.int .i64 g1.x, Value.int .i64 g1.y, Value.slice g1.a g1.l.length g1.c] ∧ (UP w1 ∧ CellsAt w1 g1.a (List.map Value.string g1.l) ∧ g1.s.size ≤ 1000 ∧ shoB g1 = true) ∧ ∀ (x : Unit) (w'1 : World), Ext w1 w'1 → ∀ (b1 : Nat) (w11 : World), New w'1 (Obj.cells #[Value.string (ByteArray.mk #[(46 : UInt8)]), Value.string (ByteArray.mk #[(120 : UInt8)]), Value.string (ByteArray.mk #[(46 : UInt8)]), Value.string (ByteArray.mk #[(46 : UInt8)]), Value.string (ByteArray.mk #[(46 : UInt8)]), Value.string (ByteArray.mk #[(46 : UInt8)]), Value.string (ByteArray.mk #[(46 : UInt8)]), Value.string (ByteArray.mk #[(46 : UInt8)])] (9 : Nat)) b1 w11 → ∃ (g2 : GSho), #[Value.string (ByteArray.mk #[(228 : UInt8), (184 : UInt8), (128 : UInt8), (27 : UInt8), (91 : UInt8), (49 : UInt8), (59 : UInt8), (50 : UInt8), (72 : UInt8), (120 : UInt8)]), Value.int .i64 2, Value.int .i64 0, Value.slice (some ⟨b1, 0, none⟩) (8 : Nat) (8 : Nat)] = #[Value.string g2.s, Value.int .i64 g2.x, Value.int .i64 g2.y, Value.slice g2.a g2.l.length g2.c] ∧ (UP w11 ∧ CellsAt w11 g2.a (List.map Value.string g2.l) ∧ g2.s.size ≤ 1000 ∧ shoB g2 = true) ∧ ∀ (x1 : Unit) (w'2 : World), Ext w11 w'2 → ∀ (b2 : Nat) (w12 : World), New w'2 (Obj.cells #[Value.string (ByteArray.mk #[(239 : UInt8), (191 : UInt8), (189 : UInt8)]), Value.string (ByteArray.mk #[(46 : UInt8)]), Value.string (ByteArray.mk #[(46 : UInt8)]), Value.string (ByteArray.mk #[(46 : UInt8)]), Value.string (ByteArray.mk #[(46 : UInt8)]), Value.string (ByteArray.mk #[(46 : UInt8)]),
 Value.string (ByteArray.mk #[(46 : UInt8)]), Value.string (ByteArray.mk #[(46 : UInt8)])] (9 : Nat)) b2 w12 → ∃ (g3 : GSho), #[Value.string (ByteArray.mk #[(255 : UInt8), (226 : UInt8), (128 : UInt8), (174 : UInt8), (7 : UInt8)]), Value.int .i64 1, Value.int .i64 0, Value.slice (some ⟨b2, 0, none⟩) (8 : Nat) (8 : Nat)] = #[Value.string g3.s, Value.int .i64 g3.x, Value.int .i64 g3.y, Value.slice g3.a g3.l.length g3.c] ∧ (UP w12 ∧ CellsAt w12 g3.a (List.map Value.string g3.l) ∧ g3.s.size ≤ 1000 ∧ shoB g3 = true) ∧ ∀ (x2 : Unit) (w'3 : World), Ext w12 w'3 → ∀ (b3 : Nat) (w13 : World), New w'3 (Obj.cells #[Value.string (ByteArray.mk #[(46 : UInt8)]), Value.string (ByteArray.mk #[(46 : UInt8)]), Value.string (ByteArray.mk #[(46 : UInt8)]), Value.string (ByteArray.mk #[(46 : UInt8)]), Value.string (ByteArray.mk #[(46 : UInt8)]), Value.string (ByteArray.mk #[(46 : UInt8)]), Value.string (ByteArray.mk #[(46 : UInt8)]), Value.string (ByteArray.mk #[(46 : UInt8)])] (9 : Nat)) b3 w13 → ∃ (g4 : GSho), #[Value.string (ByteArray.mk #[(27 : UInt8), (91 : UInt8), (49 : UInt8), (10 : UInt8)]), Value.int .i64 0, Value.int .i64 1, Value.slice (some ⟨b3, 0, none⟩) (8 : Nat) (8 : Nat)] = #[Value.string g4.s, Value.int .i64 g4.x, Value.int .i64 g4.y, Value.slice g4.a g4.l.length g4.c] ∧ (UP w13 ∧ CellsAt w13 g4.a (List.map Value.string g4.l) ∧ g4.s.size ≤ 1000 ∧ shoB g4 = true) ∧ ∀ (x3 : Unit) (w'4 : World), Ext w13 w'4 → ∀ (b4 : Nat) (w14 : World), New w'4 (Obj.cells #[Value.string (ByteArray.mk #[(101 : UInt8)]), Value.string (ByteArray.mk #[(102 : UInt8)]), Value.string (ByteArray.mk #[(103 : UInt8)]), Value.string (ByteArray.mk #[(104 : UInt8)]), Value.string (ByteArray.mk #[(105 : UInt8)]), Value.string (ByteArray.mk #[(46 : UInt8)]), Value.string (ByteArray.mk #[(46 : UInt8)]), Value.string (ByteArray.mk #[(46 : UInt8)])] (9 : Nat)) b4 w14 → ∃ (g5 : GSho), #[Value.string (ByteArray.mk #[(97 : UInt8), (98 : UInt8), (99 : UInt8), (100 : UInt8), (101 : UInt8), (102 : UInt8), (103 : UInt8), (104 : UInt8), (105 : UInt8)]), Value.int .i64 1, Value.int .i64 1, Value.slice (some ⟨b4, 0, none⟩) (8 : Nat) (8 : Nat)] = #[Value.string g5.s, Value.int .i64 g5.x, Value.int .i64 g5.y, Value.slice g5.a g5.l.length g5.c] ∧ (UP w14 ∧ CellsAt w14 g5.a (List.map Value.string g5.l) ∧ g5.s.size ≤ 1000 ∧ shoB g5 = true) ∧ ∀ (x4 : Unit) (w'5 : World), Ext w14 w'5 → ∀ (b5 : Nat) (w15 : World), New w'5 (Obj.cells #[Value.string (ByteArray.mk #[(97 : UInt8)]), Value.string (ByteArray.mk #[(46 : UInt8)]), Value.string (ByteArray.mk #[(46 : UInt8)]), Value.string (ByteArray.mk #[(46 : UInt8)]), Value.string (ByteArray.mk #[(46 : UInt8)]), Value.string (ByteArray.mk #[(46 : UInt8)]), Value.string (ByteArray.mk #[(46 : UInt8)]), Value.string (ByteArray.mk #[(46 : UInt8)])] (9 : Nat)) b5 w15 → ∃ (g6 : GSho), #[Value.string (ByteArray.mk #[(97 : UInt8), (27 : UInt8), (91 : UInt8), (63 : UInt8), (50 : UInt8), (53 : UInt8), (108 : UInt8)]), Value.int .i64 (-1 : Int), Value.int .i64 (-1 : Int),
 Value.slice (some ⟨b5, 0, none⟩) (8 : Nat) (8 : Nat)] = #[Value.string g6.s, Value.int .i64 g6.x, Value.int .i64 g6.y, Value.slice g6.a g6.l.length g6.c] ∧ (UP w15 ∧ CellsAt w15 g6.a (List.map Value.string g6.l) ∧ g6.s.size ≤ 1000 ∧ shoB g6 = true) ∧ ∀ (x5 : Unit) (w'6 : World), Ext w15 w'6 → ∃ (c1 : Unit), Value.bool true = Value.bool true ∧ Ext w' w'6) ∧ ∀ (u1 : Nat → Value) (c1 : Unit) (w'1 : World), Ext w' w'1 → ∃ (g1 : Nat × Nat × Bool), #[Value.int .i64 4, Value.int .i64 2, Value.bool false] = #[Value.int .i64 (↑g1.fst : Int), Value.int .i64 (↑g1.snd.fst : Int), Value.bool g1.snd.snd] ∧ (UDB w'1.heap.size w'1 ∧ g1.fst ≤ 1024 ∧ g1.snd.fst ≤ 1024) ∧ ∀ (x : GlP) (w'2 : World), Ext w'1 w'2 ∧ x.B = w'1.heap.size ∧ GlIn w'2 x (newG g1.fst g1.snd.fst g1.snd.snd) ∧ GlRd w'2 x none (0 : Nat) (ByteArray.mk #[]) → ∀ (b : Nat) (w1 : World), New w'2 (Obj.cells #[Value.int .u8 27, Value.int .u8 91, Value.int .u8 49, Value.int .u8 59, Value.int .u8 51, Value.int .u8 56, Value.int .u8 59, Value.int .u8 53, Value.int .u8 59, Value.int .u8 55, Value.int .u8 109, Value.int .u8 97] (5 : Nat)) b w1 → ∀ (w11 : World), Marked w1 b w11 → ∃ (g2 : GFd), #[Value.pointer (some ⟨x.p, 0, none⟩), Value.slice (some ⟨b, 0, none⟩) (12 : Nat) (12 : Nat)] = #[Value.pointer (some ⟨g2.A.p, 0, none⟩), Value.slice g2.ad g2.b.size g2.c] ∧ (GlIn w11 g2.A g2.g ∧ okG g2.g g2.m ∧ GlRd w11 g2.A g2.ha g2.hc g2.h ∧ CellsAt w11 g2.ad (bytesV g2.b) ∧ g2.b.size ≤ 67108864 ∧ g2.m + 3 + g2.b.size ≤ 549755813888) ∧ ∀ (x1 : GlP × Option Addr × Nat) (w'3 : World), FdOut w11 w'3 g2.A g2.ha g2.h x1.fst x1.snd.fst x1.snd.snd (feedG g2.g (fdR (g2.h ++ g2.b))) (fdH (g2.h ++ g2.b)) → ∃ (g3 : GGl), #[Value.pointer (some ⟨x.p, 0, none⟩)] = #[Value.pointer (some ⟨g3.A.p, 0, none⟩)] ∧ (GlIn w'3 g3.A g3.g ∧ fitG g3.g) ∧ ∀ (x2 : (Option Addr × Nat) × Gr) (w'4 : World), gdOut g3.g w'3 w'4 x2 → ∀ (b1 : Nat) (w12 : World), New w'4 (Obj.cells #[Value.int .i64 x2.snd.w, Value.int .i64 x2.snd.h, Value.slice x2.fst.fst x2.snd.cs.length x2.fst.snd, Value.int .i64 x2.snd.x, Value.int .i64 x2.snd.y] (27 : Nat)) b1 w12 → ∃ (a9 : Option Addr) (n : Nat) (c2 : Nat), w12.cell? ⟨b1, 2, none⟩ = some (Value.slice a9 n c2) ∧ bcase ((↑n : Int) == (8 : Int)) (∃ (a10 : Option Addr) (n1 : Nat) (c3 : Nat), w12.cell? ⟨b1, 2, none⟩ = some (Value.slice a10 n1 c3) ∧ ∃ (k : Nat), (0 : Int) = (↑k : Int) ∧ k < n1 ∧ ptrE a10 fun (b2 o : Nat) => ∃ (n2 : Int), w12.cell? ⟨b2, o + k * 6 + 5, none⟩ = some (Value.int .u16 n2) ∧ bcase (n2 == (263 : Int)) (∃ (g4 : Unit), (#[] : Array Value) = #[] ∧ UP w12 ∧ ∀ (x3 : Unit) (w'5 : World), Ext w12 w'5 → ∃ (x4 : Unit), Value.bool true = Value.bool true ∧ Ext w w'5) (∃ (x3 : Unit), Value.bool false = Value.bool true ∧ Ext w w12)) (∃ (x3 : Unit), Value.bool false = Value.bool true ∧ Ext w w12)) :
    (sKnown26).Ok Tryd.prog 6 :=
  ok_of_vc sKnown26 annKnown26 spKnown26 (fun _ _ => rfl) (fun _ _ => rfl) hsp Tryd.func6 rfl (n := 0) (fun _ => rfl) (by kernel_rfl) (vcast (by kernel_rfl) h)
end Go.Proofs.YtjdohhididpomaaDoor
end

section
namespace Go.Proofs.YtjdohhididpomaaDoor
open Go Go.RowKit Vc Ut Tb Cl Orb
theorem bytes_new {w w1 : World} {s : ByteArray} {c b : Nat} (h : NewBytes w s c b w1) : CellsAt w1 (some ⟨b, 0, none⟩) (bytesV s) :=
  .inr ⟨b, 0, rfl, fun j v hj => by
    unfold bytesV at hj
    rw [List.getElem?_map] at hj
    cases e : s.data.toList[j]? with
    | none => rw [e] at hj; cases hj
    | some x =>
      rw [e] at hj
      obtain ⟨hl, -⟩ := List.getElem?_eq_some_iff.1 e
      have e1 : s.data.toList.getD j 0 = x := by rw [List.getD_eq_getElem?_getD, e]; rfl
      have := h.2.2.2.2.2 j (by rw [Array.length_toList] at hl; exact hl)
      rw [e1] at this
      rw [Nat.zero_add, this]
      exact hj⟩
theorem bytes_ext {w w1 : World} {s : ByteArray} {c b : Nat} (h : NewBytes w s c b w1) : Ext w w1 := h.2.2.2.2.1
set_option maxRecDepth 8000 in
theorem shown_ok : sShown.Ok Tryd.prog 16 := by
  refine shown_vc ⟨newK_ok, feedG_ok, gridG_ok, trivial⟩ ?_
  rintro ⟨s, X, Y, a, c, l⟩ w ⟨hU, hcl, hsz, hsho⟩
  dsimp only at hcl hsz hsho ⊢
  unfold shoB at hsho
  simp only [Bool.and_eq_true, beq_iff_eq] at hsho
  obtain ⟨hX, hY, hl, hall⟩ := hsho
  refine ⟨(4, 2, false), rfl, ⟨hU.1, by decide, by decide⟩, ?_⟩
  rintro A w1 ⟨hx1, hB, hG1, hR1⟩
  dsimp only at hG1
  refine ⟨⟨(), rfl⟩, ?_⟩
  rintro _ - w1' h1
  replace h1 := h1.symm; subst h1
  refine ⟨by omega, fun c1 b w2 hn2 => ?_⟩
  have hA1 : GlAt w1 A (newG 4 2 false) 0 none 0 ⟨#[]⟩ := ⟨hG1, ok_new (by decide) (by decide) false, hR1⟩
  have hA2 := hA1.ext (bytes_ext hn2)
  have hx2 := Ext.trans hx1 (bytes_ext hn2)
  refine ⟨⟨A, newG 4 2 false, 0, none, 0, ⟨#[]⟩, some ⟨b, 0, none⟩, c1, s⟩, rfl, ⟨hA2.gl, hA2.ok, hA2.rd, bytes_new hn2, by dsimp only; omega, by dsimp only; omega⟩, ?_⟩
  rintro ⟨A4, ha4, hc4⟩ w4 hF
  dsimp only at hF
  have hA4 := hA2.fed hF
  have hp4 : A4.p = A.p := hF.p
  have hx4 : Ext w w4 := step_ext hF.st hx2 (fun q hq => by have := (hA2.lt q hq).1; omega)
  have hfl := fdR_len ((⟨#[]⟩ : ByteArray) ++ s)
  have hes : (⟨#[]⟩ : ByteArray) ++ s = s := ByteArray.empty_append
  rw [hes] at hfl hA4
  have hA4 : GlAt w4 A4 (shoG s) _ ha4 hc4 _ := hA4
  refine ⟨⟨A4, shoG s⟩, by rw [hp4], ⟨hA4.gl, hA4.ok.fit (by omega)⟩, ?_⟩
  rintro ⟨⟨a5, c5⟩, gr⟩ w5 ⟨hgr, hm5⟩
  dsimp only at hgr hm5
  subst hgr
  intro b1 w6 hn6
  have hx46 : Ext w4 w6 := Ext.trans hm5.ext hn6.ext
  have hx6 := Ext.trans hx4 hx46
  have hbx := hn6.heap
  have hcs6 : CellsAt w6 a5 (flat (shoG s).cs) := hm5.row.cells.ext hn6.ext
  have hff := feed_f (fdR s) (newG 4 2 false)
  have hgw : (shoG s).w = 4 := hff.1
  have hgh : (shoG s).h = 2 := hff.2.1
  have hlen : (shoG s).cs.length = 8 := by rw [hA4.ok.len, hgw, hgh]
  have hiw : (gridG (shoG s)).w = 4 := by show ((shoG s).w : Int) = 4; rw [hgw]; rfl
  have hih : (gridG (shoG s)).h = 2 := by show ((shoG s).h : Int) = 2; rw [hgh]; rfl
  have hgc : (gridG (shoG s)).cs = (shoG s).cs := rfl
  refine ⟨⟨_, (cell_of_heap hbx 3).trans rfl, bcase_mk (fun h => ?_) (fun _ => ⟨_, (cell_of_heap hbx 4).trans rfl, bcase_mk (fun h => ?_) (fun _ => ⟨_, _, _, (cell_of_heap hbx 2).trans rfl, bcase_mk (fun h => ?_) (fun _ => bcase_mk (fun h => ?_) (fun _ => ⟨(), rfl⟩))⟩)⟩)⟩, ?_⟩
  · simp [hX] at h
  · simp [hY] at h
  · rw [hgc, hlen] at h; simp at h
  · rw [hl] at h; simp at h
  rintro _ - w6' h6
  replace h6 := h6.symm; subst h6
  refine ⟨⟨0, rfl, Nat.zero_le _, hx6, b1, a5, c5, rfl, ?_, hcs6⟩, ?_⟩
  · rw [hbx]
    dsimp only
    rw [hiw, hih, hgc, hlen, hX, hY]
  rintro - i w7 ⟨hle, hx7, b', a7, c7, hv, hb7, hcs7⟩
  obtain rfl : b1 = b' := by injection hv with h1; injection h1 with h2; injection h2
  refine bcase_mk (fun hlt => ?_) (fun _ => ⟨(), rfl, hx7⟩)
  have hlt := of_decide_eq_true hlt
  have hi : i < 8 := by rw [hl] at hlt; omega
  have hok := List.all_eq_true.1 hall i (List.mem_range.2 hi)
  have hgi : (l.map Value.string)[i]? = some (.string (l.getD i ⟨#[]⟩)) := by
    rw [List.getElem?_map, List.getD_eq_getElem?_getD, List.getElem?_eq_getElem (by omega)]; rfl
  refine ⟨_, _, _, (cell_of_heap hb7 2).trans rfl, i, rfl, hi, hcs7.ce (i := i) (by rw [hlen]; exact hi) fun b2 o hc => hc.load ?_⟩
  intro b4 w12 hn12 w13 hd13
  have hx12 : Ext w w12 := Ext.trans hx7 hn12.ext
  have hcl12 := hcl.ext hx12
  have hc4 := box_ce hn12.heap
  have hdone : InR .i64 ((i : Int) + 1) ∧ ∃ (y : Nat), Value.int .i64 ((i : Int) + 1) = Value.int .i64 (y : Int) ∧ shoI ⟨s, X, Y, a, c, l⟩ w y w13 (Value.pointer (some ⟨b1, 0, none⟩)) ∧ 8 - y < 8 - i := by
    refine ⟨⟨by show (-9223372036854775808 : Int) ≤ _; omega, by show _ ≤ (9223372036854775807 : Int); omega⟩, i + 1, rfl, ⟨by omega, Ext.trans hx12 hd13.ext, b1, a7, c7, rfl, Ext.heap hd13.ext (Ext.heap hn12.ext hb7), hcs7.ext (Ext.trans hn12.ext hd13.ext)⟩, by omega⟩
  generalize ceG (shoG s).cs i = C at hok hc4
  generalize l.getD i ⟨#[]⟩ = S at hok hgi
  unfold okW at hok
  have hi' : i < l.length := by omega
  refine ⟨i, rfl, hi', hcl12.ptr hgi fun b5 o1 hs1 => ⟨_, hs1, ?_⟩⟩
  repeat' first
    | exact hdone
    | refine bcase_mk (fun h => ?_) (fun h => ?_)
    | refine ⟨_, hc4.1, ?_⟩
    | refine ⟨_, hc4.2.1, ?_⟩
    | refine ⟨i, rfl, hi', hcl12.ptr hgi fun b5 o1 hs1 => ⟨_, hs1, ?_⟩⟩
  all_goals exfalso
  all_goals simp only [str_eq, Bool.not_eq_true', Bool.not_eq_false', decide_eq_true_eq, decide_eq_false_iff_not, bne_iff_ne, ne_eq, bne_eq_false_iff_eq] at *
  all_goals (try split at hok) <;> simp_all
set_option maxRecDepth 8000 in
theorem known26_ok : sKnown26.Ok Tryd.prog 6 := by
  refine known26_vc ⟨shown_ok, newK_ok, feedG_ok, gridG_ok, worksX_ok, trivial⟩ ?_
  rintro - w hU
  refine ⟨?_, ?_⟩
  · have hX : Ext w w := Below.refl _ _
    have hV : UP w := hU
    intro b w1 hn
    refine ⟨⟨⟨#[97, 98]⟩, (2), (0), some ⟨b, 0, none⟩, 8, [⟨#[97]⟩, ⟨#[98]⟩, ⟨#[46]⟩, ⟨#[46]⟩, ⟨#[46]⟩, ⟨#[46]⟩, ⟨#[46]⟩, ⟨#[46]⟩]⟩, rfl, ⟨hV.ext hn.ext, cells_at hn.heap, (show (2 : Nat) ≤ 1000 from by decide), (show shoB ⟨⟨#[97, 98]⟩, (2), (0), none, 0, [⟨#[97]⟩, ⟨#[98]⟩, ⟨#[46]⟩, ⟨#[46]⟩, ⟨#[46]⟩, ⟨#[46]⟩, ⟨#[46]⟩, ⟨#[46]⟩]⟩ = true from by decide +kernel)⟩, ?_⟩
    rintro - w2 hx
    have hX := Ext.trans hX (Ext.trans hn.ext hx)
    have hV := hV.ext (Ext.trans hn.ext hx)
    intro b w1 hn
    refine ⟨⟨⟨#[97, 98, 99, 100]⟩, (3), (0), some ⟨b, 0, none⟩, 8, [⟨#[97]⟩, ⟨#[98]⟩, ⟨#[99]⟩, ⟨#[100]⟩, ⟨#[46]⟩, ⟨#[46]⟩, ⟨#[46]⟩, ⟨#[46]⟩]⟩, rfl, ⟨hV.ext hn.ext, cells_at hn.heap, (show (4 : Nat) ≤ 1000 from by decide), (show shoB ⟨⟨#[97, 98, 99, 100]⟩, (3), (0), none, 0, [⟨#[97]⟩, ⟨#[98]⟩, ⟨#[99]⟩, ⟨#[100]⟩, ⟨#[46]⟩, ⟨#[46]⟩, ⟨#[46]⟩, ⟨#[46]⟩]⟩ = true from by decide +kernel)⟩, ?_⟩
    rintro - w2 hx
    have hX := Ext.trans hX (Ext.trans hn.ext hx)
    have hV := hV.ext (Ext.trans hn.ext hx)
    intro b w1 hn
    refine ⟨⟨⟨#[97, 98, 99, 100, 101]⟩, (1), (1), some ⟨b, 0, none⟩, 8, [⟨#[97]⟩, ⟨#[98]⟩, ⟨#[99]⟩, ⟨#[100]⟩, ⟨#[101]⟩, ⟨#[46]⟩, ⟨#[46]⟩, ⟨#[46]⟩]⟩, rfl, ⟨hV.ext hn.ext, cells_at hn.heap, (show (5 : Nat) ≤ 1000 from by decide), (show shoB ⟨⟨#[97, 98, 99, 100, 101]⟩, (1), (1), none, 0, [⟨#[97]⟩, ⟨#[98]⟩, ⟨#[99]⟩, ⟨#[100]⟩, ⟨#[101]⟩, ⟨#[46]⟩, ⟨#[46]⟩, ⟨#[46]⟩]⟩ = true from by decide +kernel)⟩, ?_⟩
    rintro - w2 hx
    have hX := Ext.trans hX (Ext.trans hn.ext hx)
    have hV := hV.ext (Ext.trans hn.ext hx)
    intro b w1 hn
    refine ⟨⟨⟨#[101, 204, 129]⟩, (1), (0), some ⟨b, 0, none⟩, 8, [⟨#[101, 204, 129]⟩, ⟨#[46]⟩, ⟨#[46]⟩, ⟨#[46]⟩, ⟨#[46]⟩, ⟨#[46]⟩, ⟨#[46]⟩, ⟨#[46]⟩]⟩, rfl, ⟨hV.ext hn.ext, cells_at hn.heap, (show (3 : Nat) ≤ 1000 from by decide), (show shoB ⟨⟨#[101, 204, 129]⟩, (1), (0), none, 0, [⟨#[101, 204, 129]⟩, ⟨#[46]⟩, ⟨#[46]⟩, ⟨#[46]⟩, ⟨#[46]⟩, ⟨#[46]⟩, ⟨#[46]⟩, ⟨#[46]⟩]⟩ = true from by decide +kernel)⟩, ?_⟩
    rintro - w2 hx
    have hX := Ext.trans hX (Ext.trans hn.ext hx)
    have hV := hV.ext (Ext.trans hn.ext hx)
    exact ⟨(), rfl, hX⟩
  rintro - - w1 hx1
  refine ⟨?_, ?_⟩
  · have hX : Ext w1 w1 := Below.refl _ _
    have hV : UP w1 := hU.ext hx1
    intro b w1 hn
    refine ⟨⟨⟨#[27, 91, 50, 59, 51, 72, 120]⟩, (3), (1), some ⟨b, 0, none⟩, 8, [⟨#[46]⟩, ⟨#[46]⟩, ⟨#[46]⟩, ⟨#[46]⟩, ⟨#[46]⟩, ⟨#[46]⟩, ⟨#[120]⟩, ⟨#[46]⟩]⟩, rfl, ⟨hV.ext hn.ext, cells_at hn.heap, (show (7 : Nat) ≤ 1000 from by decide), (show shoB ⟨⟨#[27, 91, 50, 59, 51, 72, 120]⟩, (3), (1), none, 0, [⟨#[46]⟩, ⟨#[46]⟩, ⟨#[46]⟩, ⟨#[46]⟩, ⟨#[46]⟩, ⟨#[46]⟩, ⟨#[120]⟩, ⟨#[46]⟩]⟩ = true from by decide +kernel)⟩, ?_⟩
    rintro - w2 hx
    have hX := Ext.trans hX (Ext.trans hn.ext hx)
    have hV := hV.ext (Ext.trans hn.ext hx)
    intro b w1 hn
    refine ⟨⟨⟨#[228, 184, 128, 27, 91, 49, 59, 50, 72, 120]⟩, (2), (0), some ⟨b, 0, none⟩, 8, [⟨#[46]⟩, ⟨#[120]⟩, ⟨#[46]⟩, ⟨#[46]⟩, ⟨#[46]⟩, ⟨#[46]⟩, ⟨#[46]⟩, ⟨#[46]⟩]⟩, rfl, ⟨hV.ext hn.ext, cells_at hn.heap, (show (10 : Nat) ≤ 1000 from by decide), (show shoB ⟨⟨#[228, 184, 128, 27, 91, 49, 59, 50, 72, 120]⟩, (2), (0), none, 0, [⟨#[46]⟩, ⟨#[120]⟩, ⟨#[46]⟩, ⟨#[46]⟩, ⟨#[46]⟩, ⟨#[46]⟩, ⟨#[46]⟩, ⟨#[46]⟩]⟩ = true from by decide +kernel)⟩, ?_⟩
    rintro - w2 hx
    have hX := Ext.trans hX (Ext.trans hn.ext hx)
    have hV := hV.ext (Ext.trans hn.ext hx)
    intro b w1 hn
    refine ⟨⟨⟨#[255, 226, 128, 174, 7]⟩, (1), (0), some ⟨b, 0, none⟩, 8, [⟨#[239, 191, 189]⟩, ⟨#[46]⟩, ⟨#[46]⟩, ⟨#[46]⟩, ⟨#[46]⟩, ⟨#[46]⟩, ⟨#[46]⟩, ⟨#[46]⟩]⟩, rfl, ⟨hV.ext hn.ext, cells_at hn.heap, (show (5 : Nat) ≤ 1000 from by decide), (show shoB ⟨⟨#[255, 226, 128, 174, 7]⟩, (1), (0), none, 0, [⟨#[239, 191, 189]⟩, ⟨#[46]⟩, ⟨#[46]⟩, ⟨#[46]⟩, ⟨#[46]⟩, ⟨#[46]⟩, ⟨#[46]⟩, ⟨#[46]⟩]⟩ = true from by decide +kernel)⟩, ?_⟩
    rintro - w2 hx
    have hX := Ext.trans hX (Ext.trans hn.ext hx)
    have hV := hV.ext (Ext.trans hn.ext hx)
    intro b w1 hn
    refine ⟨⟨⟨#[27, 91, 49, 10]⟩, (0), (1), some ⟨b, 0, none⟩, 8, [⟨#[46]⟩, ⟨#[46]⟩, ⟨#[46]⟩, ⟨#[46]⟩, ⟨#[46]⟩, ⟨#[46]⟩, ⟨#[46]⟩, ⟨#[46]⟩]⟩, rfl, ⟨hV.ext hn.ext, cells_at hn.heap, (show (4 : Nat) ≤ 1000 from by decide), (show shoB ⟨⟨#[27, 91, 49, 10]⟩, (0), (1), none, 0, [⟨#[46]⟩, ⟨#[46]⟩, ⟨#[46]⟩, ⟨#[46]⟩, ⟨#[46]⟩, ⟨#[46]⟩, ⟨#[46]⟩, ⟨#[46]⟩]⟩ = true from by decide +kernel)⟩, ?_⟩
    rintro - w2 hx
    have hX := Ext.trans hX (Ext.trans hn.ext hx)
    have hV := hV.ext (Ext.trans hn.ext hx)
    intro b w1 hn
    refine ⟨⟨⟨#[97, 98, 99, 100, 101, 102, 103, 104, 105]⟩, (1), (1), some ⟨b, 0, none⟩, 8, [⟨#[101]⟩, ⟨#[102]⟩, ⟨#[103]⟩, ⟨#[104]⟩, ⟨#[105]⟩, ⟨#[46]⟩, ⟨#[46]⟩, ⟨#[46]⟩]⟩, rfl, ⟨hV.ext hn.ext, cells_at hn.heap, (show (9 : Nat) ≤ 1000 from by decide), (show shoB ⟨⟨#[97, 98, 99, 100, 101, 102, 103, 104, 105]⟩, (1), (1), none, 0, [⟨#[101]⟩, ⟨#[102]⟩, ⟨#[103]⟩, ⟨#[104]⟩, ⟨#[105]⟩, ⟨#[46]⟩, ⟨#[46]⟩, ⟨#[46]⟩]⟩ = true from by decide +kernel)⟩, ?_⟩
    rintro - w2 hx
    have hX := Ext.trans hX (Ext.trans hn.ext hx)
    have hV := hV.ext (Ext.trans hn.ext hx)
    intro b w1 hn
    refine ⟨⟨⟨#[97, 27, 91, 63, 50, 53, 108]⟩, (-1), (-1), some ⟨b, 0, none⟩, 8, [⟨#[97]⟩, ⟨#[46]⟩, ⟨#[46]⟩, ⟨#[46]⟩, ⟨#[46]⟩, ⟨#[46]⟩, ⟨#[46]⟩, ⟨#[46]⟩]⟩, rfl, ⟨hV.ext hn.ext, cells_at hn.heap, (show (7 : Nat) ≤ 1000 from by decide), (show shoB ⟨⟨#[97, 27, 91, 63, 50, 53, 108]⟩, (-1), (-1), none, 0, [⟨#[97]⟩, ⟨#[46]⟩, ⟨#[46]⟩, ⟨#[46]⟩, ⟨#[46]⟩, ⟨#[46]⟩, ⟨#[46]⟩, ⟨#[46]⟩]⟩ = true from by decide +kernel)⟩, ?_⟩
    rintro - w2 hx
    have hX := Ext.trans hX (Ext.trans hn.ext hx)
    have hV := hV.ext (Ext.trans hn.ext hx)
    exact ⟨(), rfl, hX⟩
  rintro - - w2 hx12
  have hx2 := Ext.trans hx1 hx12
  have hU2 := hU.ext hx2
  refine ⟨(4, 2, false), rfl, ⟨hU2.1, by decide, by decide⟩, ?_⟩
  rintro A w3 ⟨hx3, hB, hG3, hR3⟩
  dsimp only at hG3
  intro b w4 hn4 w5 hm5
  have z4 := hn4.size
  have hx35 : Ext w3 w5 := mark_ext hm5 hn4.ext (by omega)
  have hA3 : GlAt w3 A (newG 4 2 false) 0 none 0 ⟨#[]⟩ := ⟨hG3, ok_new (by decide) (by decide) false, hR3⟩
  have hA5 := hA3.ext hx35
  have hx5 := Ext.trans hx2 (Ext.trans hx3 hx35)
  obtain ⟨m', hb5⟩ := hm5.at_ _ _ _ hn4.heap
  refine ⟨⟨A, newG 4 2 false, 0, none, 0, ⟨#[]⟩, some ⟨b, 0, none⟩, 12, ⟨#[27, 91, 49, 59, 51, 56, 59, 53, 59, 55, 109, 97]⟩⟩, rfl, ⟨hA5.gl, hA5.ok, hA5.rd, cells_at hb5, by show (12 : Nat) ≤ 67108864; decide, by show 0 + 3 + 12 ≤ 549755813888; decide⟩, ?_⟩
  rintro ⟨A6, ha6, hc6⟩ w6 hF
  dsimp only at hF
  have hA6 := hA5.fed hF
  have hp6 : A6.p = A.p := hF.p
  have hx6 : Ext w w6 := step_ext hF.st hx5 (fun q hq => by have := (hA5.lt q hq).1; have := hx2.size; omega)
  have hG : (feedG (newG 4 2 false) (fdR ((⟨#[]⟩ : ByteArray) ++ ⟨#[27, 91, 49, 59, 51, 56, 59, 53, 59, 55, 109, 97]⟩))).cs.length = 8 ∧ (ceG (feedG (newG 4 2 false) (fdR ((⟨#[]⟩ : ByteArray) ++ ⟨#[27, 91, 49, 59, 51, 56, 59, 53, 59, 55, 109, 97]⟩))).cs 0).st = 263 := by decide +kernel
  have hlen : (fdR ((⟨#[]⟩ : ByteArray) ++ ⟨#[27, 91, 49, 59, 51, 56, 59, 53, 59, 55, 109, 97]⟩)).length ≤ 12 := fdR_len _
  generalize hg : feedG (newG 4 2 false) (fdR ((⟨#[]⟩ : ByteArray) ++ ⟨#[27, 91, 49, 59, 51, 56, 59, 53, 59, 55, 109, 97]⟩)) = G at hG hA6
  refine ⟨⟨A6, G⟩, by rw [hp6], ⟨hA6.gl, hA6.ok.fit (by omega)⟩, ?_⟩
  rintro ⟨⟨a7, c7⟩, gr⟩ w7 ⟨hgr, hm7⟩
  dsimp only at hgr hm7
  subst hgr
  intro b1 w8 hn8
  have hx68 : Ext w6 w8 := Ext.trans hm7.ext hn8.ext
  have hx8 := Ext.trans hx6 hx68
  have hbx := hn8.heap
  have hgc : (gridG G).cs = G.cs := rfl
  have hcs8 : CellsAt w8 a7 (flat G.cs) := hm7.row.cells.ext hn8.ext
  refine ⟨_, _, _, (cell_of_heap hbx 2).trans rfl, bcase_mk (fun _ => ⟨_, _, _, (cell_of_heap hbx 2).trans rfl, 0, rfl, by rw [hgc]; omega, hcs8.ce (i := 0) (by omega) fun b2 o hc => ⟨_, hc.2.2.2.2.2, bcase_mk (fun _ => ⟨(), rfl, hU.ext hx8, fun _ w9 hx9 => ⟨(), rfl, Ext.trans hx8 hx9⟩⟩) (fun h => ?_)⟩⟩) (fun h => ?_)⟩
  · rw [hG.2] at h; cases h
  · rw [hgc, hG.1] at h; cases h
end Go.Proofs.YtjdohhididpomaaDoor
end

section
namespace Go.Proofs.YtjdohhididpomaaDoor.Lw
open Go Go.RowKit Go.ChangeShapes Go.WideShapes Go.ChangeAt Vc
section
variable {H : Type} {enc : TypeId × Value → H} {P : Program}
theorem trodAll_stays (hl : laidOutB P = true) {W W' : World} (hx : Below W.heap.size W W') {sp : Nat → Bool} : ∀ {ts : List TypeId} {vs : List Value} {ds : List (DataW H)} {p : List MemPlace},
    ts.all (fun t => P.readableRec t && decide (t < P.types.size)) = true → DataW.TrodAll enc P W 0 (fun _ => true) true ts vs ds p → (∀ x ∈ p, x.block < W.heap.size) → (∀ x ∈ p, sp x.block = true) → DataW.TrodAll enc P W' 0 sp true ts vs ds p
  | [], vs, ds, p, _, h, _, _ => by
    obtain ⟨rfl, rfl, rfl⟩ := trodAll_nil h
    exact trodAll_mk0
  | t :: ts, vs, ds, p, hp, h, hlt, hs => by
    obtain ⟨v, vs', d, ds', a, b, rfl, rfl, rfl, h1, h2⟩ := trodAll_cons h
    simp only [List.all_cons, Bool.and_eq_true, decide_eq_true_eq] at hp
    have h3 := WideElems.Trod_stays (sp' := sp) hl hp.1.1 hp.1.2 h1 (fun x hx' => hx.same (hlt x (by simp [hx']))) (fun x hx' => hs x (by simp [hx']))
    exact ⟨a, b, h3, trodAll_stays hl hx (by simpa using hp.2) h2 (fun x hx' => hlt x (by simp [hx'])) (fun x hx' => hs x (by simp [hx'])), rfl⟩
theorem post_law {f : Func} {s : ChangeSpec} {apart fresh handsOn again : Bool} {W W' : World} {args : Array Value} {ds gs : List (DataW H)} {before : List MemPlace} {tb : TypeId} (hW : DataW.Whole enc P f.params.toList s.vars apart W args.toList ds gs before) (hvars : s.vars = [])
    (hfn : s.fn H ds = { results := [.lit (.bool true)], args := ds }) (hres : f.resultTypes = #[tb]) (htb : P.underlying tb = some .bool) (hl : laidOutB P = true) (hp : f.params.toList.all (fun t => P.readableRec t && decide (t < P.types.size)) = true) (hx : Below W.heap.size W W') :
    s.post enc P f apart fresh handsOn again W args (.bool true) W' := by
  have hW0 := hW
  obtain ⟨pa, pv, hA, hV, rfl, hz, hn⟩ := hW
  rw [hvars] at hV
  obtain ⟨rfl, rfl⟩ := trodVars_none hV
  simp only [List.append_nil] at hW0 hz hn
  have hlt : ∀ x ∈ pa, x.block < W.heap.size := fun x hx => by simpa using hW0.lt x hx
  have hr : ∀ (b : Nat) (sp : Nat → Bool) (hd : Bool), DataW.TrodAll enc P W' b sp hd f.resultTypes.toList ((Value.bool true).resultList f.resultTypes.size) (s.fn H (ds ++ [])).results [] := by
    intro b sp hd
    rw [List.append_nil, hfn, hres]
    exact trodAll_cons_mk (shut_bool htb _) trodAll_mk0
  have ha : ∀ sp : Nat → Bool, (∀ p ∈ pa, sp p.block = true) → DataW.TrodAll enc P W' 0 sp true f.params.toList args.toList (s.fn H (ds ++ [])).args pa := by
    intro sp hs
    rw [List.append_nil, hfn]
    exact trodAll_stays hl hx hp hA hlt hs
  have hv : ∀ sp : Nat → Bool, DataW.TrodVars enc P W' sp s.vars (s.fn H (ds ++ [])).vars [] := by
    intro sp
    rw [List.append_nil, hfn, hvars]
    rfl
  refine ⟨ds, [], pa, [], pa, [], hW0, hr _ _ _, ha _ (fun p hp => by simpa using hlt p hp), hv _, World.keptBut_mono (fun p hp => ⟨hp, .inr (.inl hp)⟩) (hx.frame _), fun _ => ?_⟩
  refine ⟨ok_one hres rfl (okWide_bool_mk htb _), _, _, ([] ++ pa) ++ [], ⟨[] ++ pa, [], trodAll_append (ha _ (fun _ _ => rfl)) (hr _ _ _), hv _, rfl, ?_, ?_⟩, ?_⟩
  · intro b off hp
    have hp' : MemPlace.cell b off ∈ pa := by simpa using hp
    rw [hx.frozen (hlt _ hp')]
    exact hz b off hp'
  · intro ha'
    have := hn ha'
    simpa using this
  · intro p hp _
    simpa using hp
theorem law_calls {f : FuncId} {fn : Func} {s : ChangeSpec} {apart fresh handsOn again : Bool} {W : World} {args : Array Value} {ds gs : List (DataW H)} {before : List MemPlace} {tb : TypeId} (hW : DataW.Whole enc P fn.params.toList s.vars apart W args.toList ds gs before) (hvars : s.vars = [])
    (hfn : s.fn H ds = { results := [.lit (.bool true)], args := ds }) (hres : fn.resultTypes = #[tb]) (htb : P.underlying tb = some .bool) (hl : laidOutB P = true) (hp : fn.params.toList.all (fun t => P.readableRec t && decide (t < P.types.size)) = true)
    (h : Calls P f args W fun e W' => e = .returned (.bool true) ∧ Below W.heap.size W W') :
    Calls P f args W fun e W' => ∃ v, e = .returned v ∧ s.post enc P fn apart fresh handsOn again W args v W' :=
  h.mono fun e W' ⟨he, hx⟩ => ⟨_, he, post_law hW hvars hfn hres htb hl hp hx⟩
theorem ints_in {W : World} {base b0 : Nat} {t e : TypeId} {k : IntKind} {v : Value} {d : DataW H} {p : List MemPlace} (ht : P.underlying t = some (.slice e)) (he : P.underlying e = some (.int k)) (hc : P.cellsOf e = 1) (hval : Value.okWide P W .any b0 t v)
    (h : DataW.Trod enc P W base (fun _ => true) true t v d p) : ∃ (ad : Option Addr) (c : Nat) (xs : List Int) (more : Nat), v = .slice ad xs.length c ∧ CellsAt W ad (xs.map (Value.int k)) ∧ (∀ x ∈ xs, (Lit.int k x).wf = true) ∧
      ((d = .nil ∧ xs = []) ∨ ∃ elems spare, d = .slice elems spare ∧ elems.length = xs.length) := by
  obtain ⟨fuel, hf⟩ := h
  rcases open_ints ht he hc hf with ⟨h1, h2⟩ | ⟨a, len, cap, zs, h1, h2, h3, h4, h5, h6, h7, h8⟩
  · refine ⟨none, 0, [], 0, ?_, CellsAt.nil _ _, by simp, .inl ⟨?_, rfl⟩⟩
    · cases v <;> simp_all [Value.cells]
      rename_i cs
      simp only [Value.okWide, ht] at hval
      simp [Cell.okWide, Cell.ok, ht] at hval
    · have := congrArg (fun x => x.1) h2; exact this
  · have hv : v = .slice (some a) len cap := by
      cases v <;> simp_all [Value.cells]
      rename_i cs
      simp only [Value.okWide, ht] at hval
      simp [Cell.okWide, Cell.ok, ht] at hval
    simp only [if_true] at h5
    have hlen : (zs.take len).length = len := by rw [List.length_take]; omega
    refine ⟨some a, cap, zs.take len, 0, by rw [hlen]; exact hv, ?_, fun x hx => h8 x (List.mem_of_mem_take hx), .inr ⟨lits k (zs.take len), lits k (zs.drop len), ?_, by simp [lits]⟩⟩
    · by_cases hz : zs.length = 0
      · left
        have : zs = [] := List.eq_nil_of_length_eq_zero hz
        simp [this]
      · have h0 := h7 0 (by omega)
        obtain ⟨b, o, sp⟩ := a
        have hsp : sp = none := by
          cases sp with
          | none => rfl
          | some q =>
            simp only [Addr.add, if_true, World.cell?] at h0
            split at h0 <;> simp at h0
        subst hsp
        refine .inr ⟨b, o, rfl, fun j u hj => ?_⟩
        rw [List.getElem?_map] at hj
        obtain ⟨x, hx, rfl⟩ := Option.map_eq_some_iff.1 hj
        rw [List.getElem?_take] at hx
        split at hx
        · have hj2 : j < zs.length := (List.getElem?_eq_some_iff.1 hx).1
          have := h7 j hj2
          rw [add_lit] at this
          rw [this, List.getD_eq_getElem?_getD, hx]
          rfl
        · cases hx
    · exact congrArg (fun x => x.1) h6
end
theorem reach_le {n b : Nat} (h : n * b ≤ reachBytes) : n * b ≤ 140737488351232 := h
end Go.Proofs.YtjdohhididpomaaDoor.Lw
end

section
namespace Go.Proofs.YtjdohhididpomaaDoor.Bulk
open Go
theorem one_le {H : Type} (d : DataW H) : 1 ≤ Rows.uptoBulk d := by
  cases d with
  | lit l => cases l <;> simp [Rows.uptoBulk]
  | _ => simp only [Rows.uptoBulk]; omega
theorem part_le {H : Type} {d : DataW H} {l : List (DataW H)} (h : d ∈ l) : Rows.uptoBulk d ≤ Rows.uptoBulkAll l := by
  induction l with
  | nil => cases h
  | cons x r ih =>
    simp only [Rows.uptoBulkAll]
    rcases List.mem_cons.1 h with rfl | h
    · omega
    · have := ih h; omega
theorem length_le {H : Type} (l : List (DataW H)) : l.length ≤ Rows.uptoBulkAll l := by
  induction l with
  | nil => simp
  | cons x r ih => have := one_le x; simp only [Rows.uptoBulkAll, List.length_cons]; omega
theorem small {H : Type} {l : List (DataW H)} (hk : Rows.uptoSmall H l = true) : Rows.uptoBulkAll l ≤ 1048576 := of_decide_eq_true hk
theorem slice {H : Type} {l : List (DataW H)} {elems spare : List (DataW H)} (hk : Rows.uptoSmall H l = true) (h : DataW.slice elems spare ∈ l) : elems.length ≤ 1048576 := by
  have h1 := small hk
  have h2 := part_le h
  have h3 := length_le elems
  simp only [Rows.uptoBulk] at h2
  omega
theorem string {H : Type} {l : List (DataW H)} {bytes : List UInt8} (hk : Rows.uptoSmall H l = true) (h : DataW.lit (.string bytes) ∈ l) : bytes.length ≤ 1048576 := by
  have h1 := small hk
  have h2 := part_le h
  simp only [Rows.uptoBulk] at h2
  omega
end Go.Proofs.YtjdohhididpomaaDoor.Bulk
end

section
namespace Go.Proofs.YtjdohhididpomaaDoor
open Go Go.Shelf Go.RowKit Go.Lib
def u8laid : List (String × DataW Unit) := [("unicode/utf8.acceptRanges", Rows.laid_unicode_utf8_acceptRanges), ("unicode/utf8.first", Rows.laid_unicode_utf8_first)]
theorem first_is : Rows.laid_unicode_utf8_first = Lib.firstData := by kernel_rfl
theorem accept_is : (Rows.laid_unicode_utf8_acceptRanges : DataW Unit) = Lib.acceptData := by kernel_rfl
theorem u8_of {W : World} (hL : laidMet Tryd.prog u8laid W) : U8 W := by
  have h3 := Lib.laidMet.reads hL (n := "unicode/utf8.first") (d := Lib.firstData) (by rw [← first_is]; exact .tail _ (.head _))
  have h4 := Lib.laidMet.reads hL (n := "unicode/utf8.acceptRanges") (d := Lib.acceptData) (by rw [← accept_is]; exact .head _)
  exact utf8Tabs_of_reads Tryd.lays260 ⟨by kernel_rfl, by kernel_rfl, by kernel_rfl, by kernel_rfl, by kernel_rfl, by kernel_rfl, by kernel_rfl⟩ h3 h4
noncomputable def laidWorld (os : Os) : World :=
  let w0 := World.holding Tryd.prog os ⟨#[], #[], []⟩
  let put (h : Array Obj) (g : Nat) (cs : Array Value) : Array Obj := h.modify g fun
    | .cells _ t frozen => .cells cs t frozen
    | o => o
  let h1 := put w0.heap 0 (Lib.firstTab.map fun z => Value.int .u8 z).toArray
  let h2 := put h1 1 ((List.range 16).flatMap fun i => [Value.int .u8 (Lib.accLo i), Value.int .u8 (Lib.accHi i)]).toArray
  { w0 with heap := h2 }
theorem laid_met (os : Os) (args : Array Value) : laidMet Tryd.prog u8laid ((laidWorld os).forCall (fun _ _ => 0) ⟨#[], args, []⟩).memory :=
  (LaidIn.of_run (l := u8laid) [1, 0] 8 (by kernel_rfl) (by kernel_rfl) (by kernel_rfl) (by kernel_rfl)).met
end Go.Proofs.YtjdohhididpomaaDoor
end

section
namespace Go.Proofs.YtjdohhididpomaaDoor
open Go Go.Shelf Go.RowKit Go.Lib
def shlaid : List (String × DataW Unit) := [("math/bits.deBruijn32tab", Rows.laid_math_bits_deBruijn32tab), ("math/bits.deBruijn64tab", Rows.laid_math_bits_deBruijn64tab), ("internal/strconv.uint64pow10", Rows.laid_internal_strconv_uint64pow10), ("unicode/utf8.acceptRanges", Rows.laid_unicode_utf8_acceptRanges), ("unicode/utf8.first", Rows.laid_unicode_utf8_first)]
set_option maxRecDepth 100000 in
theorem db_of {W : World} (h : VarReads Tryd.prog W "math/bits.deBruijn64tab" Rows.laid_math_bits_deBruijn64tab) : DB W := by
  obtain ⟨g, t, cs, fuel, p, hg, hty, hvar, hd⟩ := h
  obtain rfl := Option.some.inj ((show Tryd.prog.globalNamed "math/bits.deBruijn64tab" = some 5 by kernel_rfl).symm.trans hg)
  obtain rfl := Option.some.inj ((show (Tryd.prog.globals[5]?).map (·.type) = some 153 by kernel_rfl).symm.trans hty)
  obtain ⟨fuel', d, q, hdi, he⟩ := array_elem (n := 64) (e := 5) (by kernel_rfl) hd 15 (by decide)
  obtain ⟨z, hz, hx, _⟩ := DataW.trod_int (k := .u8) (by kernel_rfl) he
  have hd4 : d = .lit (.int .u8 4) := by
    have : (some d : Option (DataW Unit)) = some (.lit (.int .u8 4)) := hdi.symm.trans (by kernel_rfl)
    exact Option.some.inj this
  have hz4 : z = 4 := by
    have := congrArg (fun x => x.1) hx
    rw [hd4] at this
    injection this with h1
    injection h1 with _ h2
    exact h2.symm
  subst hz4
  show W.cell? _ = _
  rw [World.var?_cell hg hvar 15, ← Array.getElem?_toList]
  have := congrArg (·[0]?) hz
  rw [show Tryd.prog.cellsOf 5 = 1 from by kernel_rfl] at this
  simpa [List.getElem?_take, List.getElem?_drop] using this
theorem ud_of {W : World} (hL : laidMet Tryd.prog shlaid W) : U8 W ∧ DB W := by
  have h3 := Lib.laidMet.reads hL (n := "unicode/utf8.first") (d := Lib.firstData) (by rw [← first_is]; exact .tail _ (.tail _ (.tail _ (.tail _ (.head _)))))
  have h4 := Lib.laidMet.reads hL (n := "unicode/utf8.acceptRanges") (d := Lib.acceptData) (by rw [← accept_is]; exact .tail _ (.tail _ (.tail _ (.head _))))
  have h5 := Lib.laidMet.reads hL (n := "math/bits.deBruijn64tab") (d := Rows.laid_math_bits_deBruijn64tab) (.tail _ (.head _))
  exact ⟨utf8Tabs_of_reads Tryd.lays260 ⟨by kernel_rfl, by kernel_rfl, by kernel_rfl, by kernel_rfl, by kernel_rfl, by kernel_rfl, by kernel_rfl⟩ h3 h4, db_of h5⟩
def flatV : DataW Unit → List Value
  | .agg l => l.filterMap fun
    | .lit (.int k n) => some (.int k n)
    | _ => none
  | _ => []
noncomputable def shWorld (os : Os) : World :=
  let w0 := laidWorld os
  let put (h : Array Obj) (g : Nat) (cs : Array Value) : Array Obj := h.modify g fun
    | .cells _ t frozen => .cells cs t frozen
    | o => o
  let h1 := put w0.heap 4 (flatV Rows.laid_math_bits_deBruijn32tab).toArray
  let h2 := put h1 5 (flatV Rows.laid_math_bits_deBruijn64tab).toArray
  let h3 := put h2 2 (flatV Rows.laid_internal_strconv_uint64pow10).toArray
  { w0 with heap := h3 }
theorem sh_met (os : Os) (args : Array Value) : laidMet Tryd.prog shlaid ((shWorld os).forCall (fun _ _ => 0) ⟨#[], args, []⟩).memory :=
  (LaidIn.of_run (l := shlaid) [4, 5, 2, 1, 0] 8 (by kernel_rfl) (by kernel_rfl) (by kernel_rfl) (by kernel_rfl)).met
def isStruct : Option TypeDesc → Bool
  | some (.struct _) => true
  | _ => false
theorem look_in {P : Program} {W : World} {r : Reach} {base : Nat} {t ti tb t8 : TypeId} {v : Value} (ht : isStruct (P.underlying t) = true) (hc : P.cellTypes P.depth t = some [ti, tb, t8, tb, tb]) (hn : P.cellsOf t = 5)
    (hi : P.underlying ti = some (.int .i64)) (hb : P.underlying tb = some .bool) (h8 : P.underlying t8 = some (.int .i8)) (hv : Value.okWide P W r base t v) : ∃ l : Lk, v = lkV l := by
  obtain ⟨fs, ht⟩ : ∃ fs, P.underlying t = some (.struct fs) := by
    unfold isStruct at ht
    split at ht
    · rename_i fs h; exact ⟨fs, h⟩
    · cases ht
  unfold Value.okWide at hv
  rw [ht] at hv
  obtain ⟨cs, rfl, hsz, ts, hts, _, hall⟩ := hv
  rw [hc] at hts
  cases hts
  rw [hn] at hsz
  have ok_i : ∀ {k : IntKind} {u : TypeId} {x : Value}, P.underlying u = some (.int k) → Cell.okWide P W r base u x → ∃ n, x = .int k n := by
    intro k u x hu h
    unfold Cell.okWide at h
    rw [hu] at h
    simp only [Cell.ok, hu] at h
    cases x <;> simp_all
  have ok_b : ∀ {u : TypeId} {x : Value}, P.underlying u = some .bool → Cell.okWide P W r base u x → ∃ n, x = .bool n := by
    intro u x hu h
    unfold Cell.okWide at h
    rw [hu] at h
    simp only [Cell.ok, hu] at h
    cases x <;> simp_all
  have at' : ∀ (j : Nat) (hj : j < cs.size) (u : TypeId), [ti, tb, t8, tb, tb][j % 5]? = some u → Cell.okWide P W r base u cs[j] := by
    intro j hj u hu
    obtain ⟨u', h1, h2⟩ := hall j cs[j] (Array.getElem?_eq_getElem hj)
    have h1 : [ti, tb, t8, tb, tb][j % 5]? = some u' := h1
    rw [hu] at h1
    cases h1
    exact h2
  obtain ⟨a, ha⟩ := ok_i hi (at' 0 (by omega) ti rfl)
  obtain ⟨b, hb1⟩ := ok_b hb (at' 1 (by omega) tb rfl)
  obtain ⟨c, hc2⟩ := ok_i h8 (at' 2 (by omega) t8 rfl)
  obtain ⟨d, hd3⟩ := ok_b hb (at' 3 (by omega) tb rfl)
  obtain ⟨e, he4⟩ := ok_b hb (at' 4 (by omega) tb rfl)
  refine ⟨⟨a, b, c, d, e⟩, ?_⟩
  unfold lkV
  congr 1
  apply Array.ext
  · rw [hsz]; rfl
  · intro i h1 h2
    have : i = 0 ∨ i = 1 ∨ i = 2 ∨ i = 3 ∨ i = 4 := by omega
    rcases this with rfl | rfl | rfl | rfl | rfl
    · exact ha
    · exact hb1
    · exact hc2
    · exact hd3
    · exact he4
end Go.Proofs.YtjdohhididpomaaDoor
end
