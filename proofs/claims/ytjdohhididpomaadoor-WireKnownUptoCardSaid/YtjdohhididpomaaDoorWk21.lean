/-
  Texts joined by program: SpXq, VgXq, Qn, Qo, Qp, Qs.
-/
import Derived.Test.YtjdohhididpomaaDoorWk20
import Derived.Test.YtjdohhididpomaaDoorWk19
import Derived.Test.YtjdohhididpomaaDoorWk16
import Derived.Test.YtjdohhididpomaaDoorProg
import Derived.KernelRfl
import Derived.Test.YtjdohhididpomaaDoorWk15
set_option linter.unusedVariables false
set_option linter.unusedSimpArgs false

section
namespace Go.Proofs.YtjdohhididpomaaDoor
open Go Go.RowKit Vc Ut Tb Cl
def feedS (x : Gs × ByteArray) (b : ByteArray) : Gs × ByteArray := (feedG x.1 (fdR (x.2 ++ b)), fdH (x.2 ++ b))
def UP (w : World) : Prop := UDB w.heap.size w ∧ P10 w.heap.size w
def sWorksX : CallSpec where
  G := Unit
  args := fun _ => #[]
  pre := fun _ w => UP w
  X := Unit
  res := fun _ => .bool true
  post := fun _ w _ w' => Ext w w'
def sNewK : CallSpec where
  G := Nat × Nat × Bool
  args := fun g => #[.int .i64 (g.1 : Int), .int .i64 (g.2.1 : Int), .bool g.2.2]
  pre := fun g w => UDB w.heap.size w ∧ g.1 ≤ 1024 ∧ g.2.1 ≤ 1024
  X := GlP
  res := fun A => .tuple #[.pointer (some ⟨A.p, 0, none⟩), .int .i64 0]
  post := fun g w A w' => Ext w w' ∧ A.B = w.heap.size ∧ GlIn w' A (newG g.1 g.2.1 g.2.2) ∧ GlRd w' A none 0 ⟨#[]⟩
def spWorksX : List (Nat × CallSpec) := [(11, sNewK), (12, sFeedG), (13, sGridG), (9, sRightW), (10, sDiff), (14, sSameW)]
def annWorksX (_ : Unit) (_ : World) : Ann where
  sp := spWorksX
  cuts := [(2, 3, { X := Unit, sh := fun _ _ => [], inv := fun _ w0 _ w => w = w0 }), (6, 7, { X := Unit, sh := fun _ _ => [], inv := fun _ w0 _ w => Ext w0 w })]
end Go.Proofs.YtjdohhididpomaaDoor
end

section
set_option linter.unusedVariables false
namespace Go.Proofs.YtjdohhididpomaaDoor
open Go Go.RowKit Vc Ut Tb Cl
set_option maxRecDepth 1000000 in
theorem worksX_vc (hsp : SpecsOk Tryd.prog spWorksX) (h : ∀ (g : Unit) (w : World), UP w → ∃ (g1 : Nat × Nat × Bool), #[Value.int .i64 4, Value.int .i64 2, Value.bool false] = #[Value.int .i64 (↑g1.fst : Int), Value.int .i64 (↑g1.snd.fst : Int), Value.bool g1.snd.snd] ∧ (UDB w.heap.size w ∧ g1.fst ≤ 1024 ∧ g1.snd.fst ≤ 1024) ∧ ∀ (x : GlP) (w' : World), Ext w w' ∧ x.B = w.heap.size ∧ GlIn w' x (newG g1.fst g1.snd.fst g1.snd.snd) ∧ GlRd w' x none (0 : Nat) (ByteArray.mk #[]) → (∃ (c : Unit), w' = w') ∧ ∀ (u : Nat → Value) (c : Unit) (w'1 : World), w'1 = w' → ∀ (b : Nat) (w1 : World), New w'1 (Obj.cells #[Value.int .u8 228, Value.int .u8 184, Value.int .u8 128, Value.int .u8 228, Value.int .u8 186, Value.int .u8 140, Value.int .u8 228, Value.int .u8 184, Value.int .u8 137] (5 : Nat)) b w1 → ∀ (w11 : World), Marked w1 b w11 → ∃ (g2 : GFd), #[Value.pointer (some ⟨x.p, 0, none⟩), Value.slice (some ⟨b, 0, none⟩) (9 : Nat) (9 : Nat)] = #[Value.pointer (some ⟨g2.A.p, 0, none⟩), Value.slice g2.ad g2.b.size g2.c] ∧ (GlIn w11 g2.A g2.g ∧ okG g2.g g2.m ∧ GlRd w11 g2.A g2.ha g2.hc g2.h ∧ CellsAt w11 g2.ad (bytesV g2.b) ∧ g2.b.size ≤ 67108864 ∧ g2.m + 3 + g2.b.size ≤ 549755813888) ∧ ∀ (x1 : GlP × Option Addr × Nat) (w'2 : World), FdOut w11 w'2 g2.A g2.ha g2.h x1.fst x1.snd.fst x1.snd.snd (feedG g2.g (fdR (g2.h ++ g2.b))) (fdH (g2.h ++ g2.b)) → ∃ (g3 : GGl), #[Value.pointer (some ⟨x.p, 0, none⟩)] = #[Value.pointer (some ⟨g3.A.p, 0, none⟩)] ∧ (GlIn w'2 g3.A g3.g ∧ fitG g3.g) ∧ ∀ (x2 : (Option Addr × Nat) × Gr) (w'3 : World), gdOut g3.g w'2 w'3 x2 → ∀ (b1 : Nat) (w12 : World), New w'3 (Obj.cells #[Value.int .i64 x2.snd.w, Value.int .i64 x2.snd.h, Value.slice x2.fst.fst x2.snd.cs.length x2.fst.snd, Value.int .i64 x2.snd.x, Value.int .i64 x2.snd.y] (27 : Nat)) b1 w12 → (∃ (a8 : Option Addr) (n : Nat) (c1 : Nat), w12.cell? ⟨b1, 2, none⟩ = some (Value.slice a8 n c1) ∧ bcase ((↑n : Int) != (8 : Int)) (∃ (x3 : Unit), Value.bool false = Value.bool true ∧ Ext w w12) (∃ (a9 : Option Addr) (n1 : Nat) (c2 : Nat), w12.cell? ⟨b1, 2, none⟩ = some (Value.slice a9 n1 c2) ∧ ∃ (k : Nat), (0 : Int) = (↑k : Int) ∧ k < n1 ∧ ptrE a9 fun (b2 o : Nat) => ∃ (s : ByteArray), w12.cell? ⟨b2, o + k * 6, none⟩ = some (Value.string s) ∧ bcase (!s.toList == (ByteArray.mk #[(228 : UInt8), (184 : UInt8), (128 : UInt8)]).toList) (∃ (x3 : Unit), Value.bool false = Value.bool true ∧ Ext w w12) (∃ (a10 : Option Addr) (n2 : Nat) (c3 : Nat), w12.cell? ⟨b1, 2, none⟩ = some (Value.slice a10 n2 c3) ∧ ∃ (k1 : Nat), (1 : Int) = (↑k1 : Int) ∧ k1 < n2 ∧ ptrE a10 fun (b3 o1 : Nat) => ∃ (n3 : Int), w12.cell? ⟨b3, o1 + k1 * 6 + 1, none⟩ = some (Value.int .i8 n3) ∧ bcase (n3 != (1 : Int)) (∃ (x3 : Unit), Value.bool false = Value.bool true ∧ Ext w w12) (∃ (a11 : Option Addr) (n4 : Nat) (c4 : Nat), w12.cell? ⟨b1, 2, none⟩ = some (Value.slice a11 n4 c4) ∧ ∃ (k2 : Nat), (4 : Int) = (↑k2 : Int) ∧ k2 < n4 ∧ ptrE a11 fun (b4 o2 : Nat) => ∃ (s1 : ByteArray), w12.cell? ⟨b4, o2 + k2 * 6, none⟩ = some (Value.string s1) ∧
 bcase (!s1.toList == (ByteArray.mk #[(228 : UInt8), (184 : UInt8), (137 : UInt8)]).toList) (∃ (x3 : Unit), Value.bool false = Value.bool true ∧ Ext w w12) (∃ (n5 : Int), w12.cell? ⟨b1, 3, none⟩ = some (Value.int .i64 n5) ∧ bcase (n5 != (2 : Int)) (∃ (x3 : Unit), Value.bool false = Value.bool true ∧ Ext w w12) (∃ (n6 : Int), w12.cell? ⟨b1, 4, none⟩ = some (Value.int .i64 n6) ∧ bcase (n6 != (1 : Int)) (∃ (x3 : Unit), Value.bool false = Value.bool true ∧ Ext w w12) (∃ (n7 : Int), w12.cell? ⟨b1, 0, none⟩ = some (Value.int .i64 n7) ∧ ∃ (n8 : Int), w12.cell? ⟨b1, 1, none⟩ = some (Value.int .i64 n8) ∧ ∃ (a12 : Option Addr) (n9 : Nat) (c5 : Nat), w12.cell? ⟨b1, 2, none⟩ = some (Value.slice a12 n9 c5) ∧ ∃ (n10 : Int), w12.cell? ⟨b1, 3, none⟩ = some (Value.int .i64 n10) ∧ ∃ (n11 : Int), w12.cell? ⟨b1, 4, none⟩ = some (Value.int .i64 n11) ∧ ∃ (g4 : GGr), #[Value.agg #[Value.int .i64 n7, Value.int .i64 n8, Value.slice a12 n9 c5, Value.int .i64 n10, Value.int .i64 n11], Value.bool false] = #[Value.agg #[Value.int .i64 g4.g.w, Value.int .i64 g4.g.h, Value.slice g4.ad g4.g.cs.length g4.c, Value.int .i64 g4.g.x, Value.int .i64 g4.g.y], Value.bool g4.wd] ∧ (UD w12 ∧ grIn w12 g4.ad g4.g.cs) ∧ ∀ (x3 : Bool) (w'4 : World), x3 = rightB g4.g g4.wd ∧ Ext w12 w'4 → bcase (!x3) (∃ (x4 : Unit), Value.bool false = Value.bool true ∧ Ext w w'4) (∃ (c6 : Unit), Ext w12 w'4)))))))) ∧ ∀ (u1 : Nat → Value) (c1 : Unit) (w'4 : World), Ext w12 w'4 → ∃ (n : Nat) (m : Nat), (8 : Int) = (↑n : Int) ∧ (8 : Int) = (↑m : Int) ∧ n ≤ m ∧ (48 : Nat) * m ≤ 281474976710656 ∧ m ≤ 9223372036854775807 ∧ ∀ (b2 : Nat) (w13 : World), New w'4 (Obj.cells (mkRow (Value.agg #[Value.string (ByteArray.mk #[]), Value.int .i8 0, Value.int .i64 0, Value.int .i64 0, Value.bool false, Value.int .u16 0]).cells m) (46 : Nat)) b2 w13 → ∀ (b3 : Nat) (w14 : World), New w13 (Obj.cells #[Value.int .i64 4, Value.int .i64 2, Value.slice (some ⟨b2, 0, none⟩) n m, Value.int .i64 1, Value.int .i64 1] (27 : Nat)) b3 w14 → ∃ (a11 : Option Addr) (n1 : Nat) (c2 : Nat), w14.cell? ⟨b3, 2, none⟩ = some (Value.slice a11 n1 c2) ∧ ∃ (k : Nat), (5 : Int) = (↑k : Int) ∧ k < n1 ∧ ptrE a11 fun (b4 o : Nat) => true = true ∧ (∃ (old : Value), w14.cell? ⟨b4, o + k * 6, none⟩ = some old) ∧ w14.frozen? ⟨b4, o + k * 6, none⟩ = false ∧ ∀ (w15 : World), Stored w14 ⟨b4, o + k * 6, none⟩ (Value.string (ByteArray.mk #[(120 : UInt8)])) w15 → true = true ∧ (∃ (old : Value), w15.cell? ⟨b4, o + k * 6 + 1, none⟩ = some old) ∧ w15.frozen? ⟨b4, o + k * 6 + 1, none⟩ = false ∧ ∀ (w16 : World), Stored w15 ⟨b4, o + k * 6 + 1, none⟩ (Value.int .i8 0) w16 → true = true ∧ (∃ (old : Value), w16.cell? ⟨b4, o + k * 6 + 2, none⟩ = some old) ∧ w16.frozen? ⟨b4, o + k * 6 + 2, none⟩ = false ∧ ∀ (w17 : World), Stored w16 ⟨b4, o + k * 6 + 2, none⟩ (Value.int .i64 0) w17 → true = true ∧ (∃ (old : Value), w17.cell? ⟨b4, o + k * 6 + 3, none⟩ = some old) ∧ w17.frozen? ⟨b4, o + k * 6 + 3, none⟩ = false ∧ ∀ (w18 : World),
 Stored w17 ⟨b4, o + k * 6 + 3, none⟩ (Value.int .i64 0) w18 → true = true ∧ (∃ (old : Value), w18.cell? ⟨b4, o + k * 6 + 4, none⟩ = some old) ∧ w18.frozen? ⟨b4, o + k * 6 + 4, none⟩ = false ∧ ∀ (w19 : World), Stored w18 ⟨b4, o + k * 6 + 4, none⟩ (Value.bool false) w19 → true = true ∧ (∃ (old : Value), w19.cell? ⟨b4, o + k * 6 + 5, none⟩ = some old) ∧ w19.frozen? ⟨b4, o + k * 6 + 5, none⟩ = false ∧ ∀ (w110 : World), Stored w19 ⟨b4, o + k * 6 + 5, none⟩ (Value.int .u16 263) w110 → ∃ (n2 : Int), w110.cell? ⟨b1, 0, none⟩ = some (Value.int .i64 n2) ∧ ∃ (n3 : Int), w110.cell? ⟨b1, 1, none⟩ = some (Value.int .i64 n3) ∧ ∃ (a18 : Option Addr) (n4 : Nat) (c3 : Nat), w110.cell? ⟨b1, 2, none⟩ = some (Value.slice a18 n4 c3) ∧ ∃ (n5 : Int), w110.cell? ⟨b1, 3, none⟩ = some (Value.int .i64 n5) ∧ ∃ (n6 : Int), w110.cell? ⟨b1, 4, none⟩ = some (Value.int .i64 n6) ∧ ∃ (n7 : Int), w110.cell? ⟨b3, 0, none⟩ = some (Value.int .i64 n7) ∧ ∃ (n8 : Int), w110.cell? ⟨b3, 1, none⟩ = some (Value.int .i64 n8) ∧ ∃ (a19 : Option Addr) (n9 : Nat) (c4 : Nat), w110.cell? ⟨b3, 2, none⟩ = some (Value.slice a19 n9 c4) ∧ ∃ (n10 : Int), w110.cell? ⟨b3, 3, none⟩ = some (Value.int .i64 n10) ∧ ∃ (n11 : Int), w110.cell? ⟨b3, 4, none⟩ = some (Value.int .i64 n11) ∧ ∃ (g4 : GDf), #[Value.agg #[Value.int .i64 n2, Value.int .i64 n3, Value.slice a18 n4 c3, Value.int .i64 n5, Value.int .i64 n6], Value.agg #[Value.int .i64 n7, Value.int .i64 n8, Value.slice a19 n9 c4, Value.int .i64 n10, Value.int .i64 n11], Value.bool false] = #[Value.agg #[Value.int .i64 g4.g1.w, Value.int .i64 g4.g1.h, Value.slice g4.a1 g4.g1.cs.length g4.c1, Value.int .i64 g4.g1.x, Value.int .i64 g4.g1.y], Value.agg #[Value.int .i64 g4.g2.w, Value.int .i64 g4.g2.h, Value.slice g4.a2 g4.g2.cs.length g4.c2, Value.int .i64 g4.g2.x, Value.int .i64 g4.g2.y], Value.bool g4.wd] ∧ (UDB w110.heap.size w110 ∧ P10 w110.heap.size w110 ∧ grIn w110 g4.a1 g4.g1.cs ∧ grIn w110 g4.a2 g4.g2.cs ∧ bulkG g4.g1 g4.g2) ∧ ∀ (x3 : Option Addr × Nat × Nat) (w'5 : World), Made w110 w'5 (5 : TypeId) (1 : Nat) x3.fst x3.snd.fst (bytesV ((diffB g4.g1 g4.g2 g4.wd).getD (ByteArray.mk #[]))) x3.snd.snd → ∃ (g5 : GFd), #[Value.pointer (some ⟨x.p, 0, none⟩), Value.slice x3.fst x3.snd.fst x3.snd.snd] = #[Value.pointer (some ⟨g5.A.p, 0, none⟩), Value.slice g5.ad g5.b.size g5.c] ∧ (GlIn w'5 g5.A g5.g ∧ okG g5.g g5.m ∧ GlRd w'5 g5.A g5.ha g5.hc g5.h ∧ CellsAt w'5 g5.ad (bytesV g5.b) ∧ g5.b.size ≤ 67108864 ∧ g5.m + 3 + g5.b.size ≤ 549755813888) ∧ ∀ (x4 : GlP × Option Addr × Nat) (w'6 : World), FdOut w'5 w'6 g5.A g5.ha g5.h x4.fst x4.snd.fst x4.snd.snd (feedG g5.g (fdR (g5.h ++ g5.b))) (fdH (g5.h ++ g5.b)) → ∀ (w111 : World), Drew w'6 w111 → ∃ (n12 : Int), w'6.cell? ⟨b3, 0, none⟩ = some (Value.int .i64 n12) ∧ ∃ (n13 : Int), w'6.cell? ⟨b3, 1, none⟩ = some (Value.int .i64 n13) ∧ ∃ (a23 : Option Addr) (n14 : Nat) (c5 : Nat), w'6.cell? ⟨b3, 2, none⟩ = some (Value.slice a23 n14 c5) ∧ ∃ (n15 : Int), w'6.cell? ⟨b3, 3, none⟩ = some (Value.int .i64 n15) ∧ ∃ (n16 : Int),
 w'6.cell? ⟨b3, 4, none⟩ = some (Value.int .i64 n16) ∧ ∃ (g6 : GGl), #[Value.pointer (some ⟨x.p, 0, none⟩)] = #[Value.pointer (some ⟨g6.A.p, 0, none⟩)] ∧ (GlIn w111 g6.A g6.g ∧ fitG g6.g) ∧ ∀ (x5 : (Option Addr × Nat) × Gr) (w'7 : World), gdOut g6.g w111 w'7 x5 → Below w111.heap.size w111 w'7 ∧ ∃ (g7 : GGg), #[Value.agg #[Value.int .i64 x5.snd.w, Value.int .i64 x5.snd.h, Value.slice x5.fst.fst x5.snd.cs.length x5.fst.snd, Value.int .i64 x5.snd.x, Value.int .i64 x5.snd.y], Value.agg #[Value.int .i64 n12, Value.int .i64 n13, Value.slice a23 n14 c5, Value.int .i64 n15, Value.int .i64 n16]] = #[Value.agg #[Value.int .i64 g7.g1.w, Value.int .i64 g7.g1.h, Value.slice g7.a1 g7.g1.cs.length g7.c1, Value.int .i64 g7.g1.x, Value.int .i64 g7.g1.y], Value.agg #[Value.int .i64 g7.g2.w, Value.int .i64 g7.g2.h, Value.slice g7.a2 g7.g2.cs.length g7.c2, Value.int .i64 g7.g2.x, Value.int .i64 g7.g2.y]] ∧ (grIn w'7 g7.a1 g7.g1.cs ∧ grIn w'7 g7.a2 g7.g2.cs) ∧ ∀ (x6 : Bool) (w'8 : World), x6 = sameB g7.g1 g7.g2 ∧ Ext w'7 w'8 → bcase x6 (∃ (n17 : Int), w'8.cell? ⟨b1, 0, none⟩ = some (Value.int .i64 n17) ∧ ∃ (n18 : Int), w'8.cell? ⟨b1, 1, none⟩ = some (Value.int .i64 n18) ∧ ∃ (a26 : Option Addr) (n19 : Nat) (c6 : Nat), w'8.cell? ⟨b1, 2, none⟩ = some (Value.slice a26 n19 c6) ∧ ∃ (n20 : Int), w'8.cell? ⟨b1, 3, none⟩ = some (Value.int .i64 n20) ∧ ∃ (n21 : Int), w'8.cell? ⟨b1, 4, none⟩ = some (Value.int .i64 n21) ∧ ∃ (n22 : Int), w'8.cell? ⟨b3, 0, none⟩ = some (Value.int .i64 n22) ∧ ∃ (n23 : Int), w'8.cell? ⟨b3, 1, none⟩ = some (Value.int .i64 n23) ∧ ∃ (a27 : Option Addr) (n24 : Nat) (c7 : Nat), w'8.cell? ⟨b3, 2, none⟩ = some (Value.slice a27 n24 c7) ∧ ∃ (n25 : Int), w'8.cell? ⟨b3, 3, none⟩ = some (Value.int .i64 n25) ∧ ∃ (n26 : Int), w'8.cell? ⟨b3, 4, none⟩ = some (Value.int .i64 n26) ∧ ∃ (g8 : GGg), #[Value.agg #[Value.int .i64 n17, Value.int .i64 n18, Value.slice a26 n19 c6, Value.int .i64 n20, Value.int .i64 n21], Value.agg #[Value.int .i64 n22, Value.int .i64 n23, Value.slice a27 n24 c7, Value.int .i64 n25, Value.int .i64 n26]] = #[Value.agg #[Value.int .i64 g8.g1.w, Value.int .i64 g8.g1.h, Value.slice g8.a1 g8.g1.cs.length g8.c1, Value.int .i64 g8.g1.x, Value.int .i64 g8.g1.y], Value.agg #[Value.int .i64 g8.g2.w, Value.int .i64 g8.g2.h, Value.slice g8.a2 g8.g2.cs.length g8.c2, Value.int .i64 g8.g2.x, Value.int .i64 g8.g2.y]] ∧ (grIn w'8 g8.a1 g8.g1.cs ∧ grIn w'8 g8.a2 g8.g2.cs) ∧ ∀ (x7 : Bool) (w'9 : World), x7 = sameB g8.g1 g8.g2 ∧ Ext w'8 w'9 → bcase (!x7) (∃ (n27 : Int), w'9.cell? ⟨b3, 0, none⟩ = some (Value.int .i64 n27) ∧ ∃ (n28 : Int), w'9.cell? ⟨b3, 1, none⟩ = some (Value.int .i64 n28) ∧ ∃ (a29 : Option Addr) (n29 : Nat) (c8 : Nat), w'9.cell? ⟨b3, 2, none⟩ = some (Value.slice a29 n29 c8) ∧ ∃ (n30 : Int), w'9.cell? ⟨b3, 3, none⟩ = some (Value.int .i64 n30) ∧ ∃ (n31 : Int), w'9.cell? ⟨b3, 4, none⟩ = some (Value.int .i64 n31) ∧ ∃ (n32 : Int), w'9.cell? ⟨b3, 0, none⟩ = some (Value.int .i64 n32) ∧ ∃ (n33 : Int), w'9.cell? ⟨b3, 1, none⟩ = some (Value.int .i64 n33) ∧
 ∃ (a30 : Option Addr) (n34 : Nat) (c9 : Nat), w'9.cell? ⟨b3, 2, none⟩ = some (Value.slice a30 n34 c9) ∧ ∃ (n35 : Int), w'9.cell? ⟨b3, 3, none⟩ = some (Value.int .i64 n35) ∧ ∃ (n36 : Int), w'9.cell? ⟨b3, 4, none⟩ = some (Value.int .i64 n36) ∧ ∃ (g9 : GDf), #[Value.agg #[Value.int .i64 n27, Value.int .i64 n28, Value.slice a29 n29 c8, Value.int .i64 n30, Value.int .i64 n31], Value.agg #[Value.int .i64 n32, Value.int .i64 n33, Value.slice a30 n34 c9, Value.int .i64 n35, Value.int .i64 n36], Value.bool false] = #[Value.agg #[Value.int .i64 g9.g1.w, Value.int .i64 g9.g1.h, Value.slice g9.a1 g9.g1.cs.length g9.c1, Value.int .i64 g9.g1.x, Value.int .i64 g9.g1.y], Value.agg #[Value.int .i64 g9.g2.w, Value.int .i64 g9.g2.h, Value.slice g9.a2 g9.g2.cs.length g9.c2, Value.int .i64 g9.g2.x, Value.int .i64 g9.g2.y], Value.bool g9.wd] ∧ (UDB w'9.heap.size w'9 ∧ P10 w'9.heap.size w'9 ∧ grIn w'9 g9.a1 g9.g1.cs ∧ grIn w'9 g9.a2 g9.g2.cs ∧ bulkG g9.g1 g9.g2) ∧ ∀ (x8 : Option Addr × Nat × Nat) (w'10 : World), Made w'9 w'10 (5 : TypeId) (1 : Nat) x8.fst x8.snd.fst (bytesV ((diffB g9.g1 g9.g2 g9.wd).getD (ByteArray.mk #[]))) x8.snd.snd → ∃ (x9 : Unit), Value.bool ((↑x8.snd.fst : Int) == (0 : Int)) = Value.bool true ∧ Ext w w'10) (∃ (x8 : Unit), Value.bool false = Value.bool true ∧ Ext w w'9)) (∃ (x7 : Unit), Value.bool false = Value.bool true ∧ Ext w w'8)) :
    (sWorksX).Ok Tryd.prog 7 :=
  ok_of_vc sWorksX annWorksX spWorksX (fun _ _ => rfl) (fun _ _ => rfl) hsp Tryd.func7 rfl (n := 0) (fun _ => rfl) (by kernel_rfl) (vcast (by kernel_rfl) h)
end Go.Proofs.YtjdohhididpomaaDoor
end

section
namespace Go.Proofs.YtjdohhididpomaaDoor
open Go Vc Ut Tb Cl Orb
theorem wf_nil (f s : Nat) : wearF f [] s = s := by cases f <;> simp only [wearF]
theorem wf_0 (f : Nat) (l : List Int) (s : Nat) : wearF (f + 1) (0 :: l) s = wearF f l 0 := by
  simp only [wearF]; rw [if_pos (by decide)]
theorem wf_1 (f : Nat) (l : List Int) (s : Nat) : wearF (f + 1) (1 :: l) s = wearF f l (s ||| 256) := by
  simp only [wearF]; rw [if_neg (by decide), if_pos trivial]
theorem wf_3 (f : Nat) (l : List Int) (s : Nat) : wearF (f + 1) (3 :: l) s = wearF f l (s ||| 512) := by
  simp only [wearF]; rw [if_neg (by decide), if_neg (by decide), if_pos trivial]
theorem wf_4 (f : Nat) (l : List Int) (s : Nat) : wearF (f + 1) (4 :: l) s = wearF f l (s ||| 1024) := by
  simp only [wearF]; rw [if_neg (by decide), if_neg (by decide), if_neg (by decide), if_pos trivial]
theorem wf_7 (f : Nat) (l : List Int) (s : Nat) : wearF (f + 1) (7 :: l) s = wearF f l (s ||| 2048) := by
  simp only [wearF]; rw [if_neg (by decide), if_neg (by decide), if_neg (by decide), if_neg (by decide), if_pos trivial]
theorem wf_38 (f : Nat) (l : List Int) (s k : Nat) (hk : k ≤ 255) : wearF (f + 1) (38 :: 5 :: (k : Int) :: l) s = wearF f l ((s / 256 * 256) ||| k) := by
  simp only [wearF]
  rw [if_neg (by decide), if_neg (by decide), if_neg (by decide), if_neg (by decide), if_neg (by decide), if_pos ⟨trivial, trivial, by omega, by omega⟩, Int.toNat_natCast]
theorem wf_48 (f : Nat) (l : List Int) (s k : Nat) (hk : k ≤ 15) : wearF (f + 1) (48 :: 5 :: (k : Int) :: l) s = wearF f l ((s % 4096) ||| (k * 4096)) := by
  simp only [wearF]
  rw [if_neg (by decide), if_neg (by decide), if_neg (by decide), if_neg (by decide), if_neg (by decide), if_neg (fun h => absurd h.1 (by decide)), if_pos ⟨trivial, trivial, by omega, by omega⟩, Int.toNat_natCast]
def flagL (s : Nat) : List Int := (if s / 256 % 2 = 1 then [1] else []) ++ (if s / 512 % 2 = 1 then [3] else []) ++ (if s / 1024 % 2 = 1 then [4] else []) ++ (if s / 2048 % 2 = 1 then [7] else [])
theorem wearA_flag (s : Nat) : wearA s 4 = flagL s := by
  unfold wearA flagL
  rw [show List.range 4 = [0, 1, 2, 3] from by decide]
  by_cases h0 : s / 256 % 2 = 1 <;> by_cases h1 : s / 512 % 2 = 1 <;> by_cases h2 : s / 1024 % 2 = 1 <;> by_cases h3 : s / 2048 % 2 = 1 <;>
    simp [List.filter, h0, h1, h2, h3]
theorem flag_wear {s : Nat} (f : Nat) (T : List Int) : wearF (f + (flagL s).length) (flagL s ++ T) 0 = wearF f T (s / 256 % 16 * 256) := by
  unfold flagL
  by_cases h0 : s / 256 % 2 = 1 <;> by_cases h1 : s / 512 % 2 = 1 <;> by_cases h2 : s / 1024 % 2 = 1 <;> by_cases h3 : s / 2048 % 2 = 1 <;>
    simp only [h0, h1, h2, h3, if_true, if_false, List.nil_append, List.append_nil, List.cons_append, List.length_cons, List.length_nil, ← Nat.add_assoc, Nat.add_zero, Nat.zero_add] <;>
    first
    | (simp only [wf_1, wf_3, wf_4, wf_7]; congr 1; first | omega | (simp only [Nat.zero_or]; omega) | (simp; omega))
    | (congr 1; omega)
theorem or_add {a b k : Nat} (h : a < 2 ^ k) : (2 ^ k * b) ||| a = 2 ^ k * b + a := (Nat.two_pow_add_eq_or_of_lt h b).symm
theorem wear_num {s : Nat} (h : s < 65536) (s0 : Nat) : wearL (wearN s) s0 = s := by
  unfold wearL wearN
  rw [wearA_flag]
  have e1 : ([0] ++ flagL s ++ (if s % 256 ≠ 0 then [38, 5, ((s % 256 : Nat) : Int)] else []) ++ (if s / 4096 ≠ 0 then [48, 5, ((s / 4096 : Nat) : Int)] else [])) = 0 :: (flagL s ++ ((if s % 256 ≠ 0 then [38, 5, ((s % 256 : Nat) : Int)] else []) ++ (if s / 4096 ≠ 0 then [48, 5, ((s / 4096 : Nat) : Int)] else []))) := by simp
  rw [e1]
  generalize hT : ((if s % 256 ≠ 0 then [38, 5, ((s % 256 : Nat) : Int)] else []) ++ (if s / 4096 ≠ 0 then [48, 5, ((s / 4096 : Nat) : Int)] else [])) = T
  rw [List.length_cons, List.length_append, wf_0, Nat.add_comm (flagL s).length, flag_wear, ← hT]
  have c1 : s / 256 % 16 * 256 / 256 * 256 ||| s % 256 = s % 4096 := by
    rw [show s / 256 % 16 * 256 / 256 * 256 = 2 ^ 8 * (s / 256 % 16) by omega, or_add (show s % 256 < 2 ^ 8 by omega)]; omega
  have c2 : ∀ a, a = s % 4096 → a % 4096 ||| s / 4096 * 4096 = s := by
    intro a ha
    rw [Nat.or_comm, show s / 4096 * 4096 = 2 ^ 12 * (s / 4096) by omega, or_add (show a % 4096 < 2 ^ 12 by omega)]; omega
  by_cases h1 : s % 256 = 0 <;> by_cases h2 : s / 4096 = 0
  · rw [if_neg (by omega), if_neg (by omega)]
    show wearF 0 [] _ = _
    rw [wf_nil]; omega
  · rw [if_neg (by omega), if_pos (by omega)]
    show wearF 3 (48 :: 5 :: ((s / 4096 : Nat) : Int) :: []) _ = _
    rw [wf_48 _ _ _ _ (by omega), wf_nil]
    exact c2 _ (by omega)
  · rw [if_pos (by omega), if_neg (by omega)]
    show wearF 3 (38 :: 5 :: ((s % 256 : Nat) : Int) :: []) _ = _
    rw [wf_38 _ _ _ _ (by omega), wf_nil, c1]; omega
  · rw [if_pos (by omega), if_pos (by omega)]
    show wearF 6 (38 :: 5 :: ((s % 256 : Nat) : Int) :: 48 :: 5 :: ((s / 4096 : Nat) : Int) :: []) _ = _
    rw [wf_38 _ _ _ _ (by omega), wf_48 _ _ _ _ (by omega), wf_nil, c1]
    exact c2 _ rfl
theorem wearN_dig {s : Nat} (h : s < 65536) : digsN (wearN s) := by
  intro n hn
  unfold wearN at hn
  rw [wearA_flag] at hn
  unfold flagL at hn
  simp only [List.mem_append] at hn
  rcases hn with ((hn | hn) | hn) | hn
  · rw [List.mem_singleton.1 hn]; omega
  · rcases hn with ((hn | hn) | hn) | hn <;> split at hn <;> simp at hn <;> omega
  · split at hn <;> simp at hn; omega
  · split at hn <;> simp at hn; omega
theorem wearN_ne (s : Nat) : wearN s ≠ [] := by unfold wearN; simp
def movG (g : Gs) (i : Nat) : Gs := { seqG g [((i / g.w + 1 : Nat) : Int), ((i % g.w + 1 : Nat) : Int)] with y := i / g.w, x := i % g.w }
def weaG (g : Gs) (s : Nat) : Gs := { seqG g (wearN s) with sty := s }
def clrG (g : Gs) : Gs := backG { seqG g [2] with cs := List.replicate g.cs.length (blkC 0) }
def hidG (g : Gs) (b : Bool) : Gs := { g with last := 0, stt := 0, num := [25], asked := true, void := false, hid := b }
theorem mov_feed {g : Gs} {i : Nat} (hs : g.stt = 0) (hw : g.w ≤ 1024) (hh : g.h ≤ 1024) (hi : i < g.w * g.h) : digsN [((i / g.w + 1 : Nat) : Int), ((i % g.w + 1 : Nat) : Int)] ∧ feedG g (runes (sayB 72 [((i / g.w + 1 : Nat) : Int), ((i % g.w + 1 : Nat) : Int)])) = movG g i := by
  have hw0 : 0 < g.w := by
    rcases Nat.eq_zero_or_pos g.w with e | e
    · rw [e, Nat.zero_mul] at hi; omega
    · exact e
  have h1 : i / g.w < g.h := Nat.div_lt_of_lt_mul hi
  have h2 : i % g.w < g.w := Nat.mod_lt _ hw0
  generalize hq : i / g.w = q at h1 ⊢
  generalize hr : i % g.w = r at h2 ⊢
  have hd : digsN [((q + 1 : Nat) : Int), ((r + 1 : Nat) : Int)] := by
    intro n hn
    rcases List.mem_cons.1 hn with hn | hn
    · omega
    · rw [List.mem_singleton.1 hn]; omega
  refine ⟨hd, ?_⟩
  rw [say_feed hs (by simp) hd (by decide) (by decide)]
  show doesG _ 72 = _
  unfold doesG
  rw [if_neg (by show ¬ false = true; decide), if_neg (by show ¬ false = true; decide), if_pos rfl]
  have e1 : clampG ((q + 1 : Nat) : Int) g.h = q := by unfold clampG; omega
  have e2 : clampG ((r + 1 : Nat) : Int) g.w = r := by unfold clampG; omega
  unfold movG
  rw [hq, hr]
  show ({ seqG g _ with y := clampG ((q + 1 : Nat) : Int) g.h, x := clampG ((r + 1 : Nat) : Int) g.w } : Gs) = _
  rw [e1, e2]
theorem wea_feed {g : Gs} {s : Nat} (hs : g.stt = 0) (h : s < 65536) : feedG g (runes (sayB 109 (wearN s))) = weaG g s := by
  rw [say_feed hs (wearN_ne s) (wearN_dig h) (by decide) (by decide)]
  show doesG _ 109 = _
  unfold doesG
  rw [if_neg (by show ¬ false = true; decide), if_neg (by show ¬ false = true; decide), if_neg (by decide), if_neg (fun hh => absurd hh.1 (by decide)), if_pos rfl]
  show ({ seqG g _ with sty := wearL (wearN s) g.sty } : Gs) = _
  rw [wear_num h]; rfl
theorem clr_feed {g : Gs} (hs : g.stt = 0) : feedG g (runes (sayB 74 [2])) = clrG g := by
  rw [say_feed hs (by simp) (fun n hn => by rw [List.mem_singleton.1 hn]; decide) (by decide) (by decide)]
  show doesG _ 74 = _
  unfold doesG
  rw [if_neg (by show ¬ false = true; decide), if_neg (by show ¬ false = true; decide), if_neg (by decide), if_pos ⟨rfl, rfl⟩]
  rfl
theorem shw_asc (b : Bool) : validB ⟨#[27, 91, 63, 50, 53, if b then 108 else 104]⟩ = true ∧ runes ⟨#[27, 91, 63, 50, 53, if b then 108 else 104]⟩ = [27, 91] ++ [63, 50, 53, if b then 108 else 104] := by
  cases b
  · exact asc_runes (l := [27, 91, 63, 50, 53, 104]) (by decide)
  · exact asc_runes (l := [27, 91, 63, 50, 53, 108]) (by decide)
theorem take_ask {g : Gs} (hs : g.stt = 2) (hn : g.num = []) : takeG g 63 = { g with num := [-1], asked := true } := by
  unfold takeG
  rw [if_neg (by omega), if_pos hs]
  dsimp only
  rw [if_pos (by decide), if_pos hn]
  unfold holdG
  rw [if_pos ⟨rfl, decide_eq_true hn⟩]
theorem shw_feed {g : Gs} (hs : g.stt = 0) (b : Bool) : feedG g (runes ⟨#[27, 91, 63, 50, 53, if b then 108 else 104]⟩) = hidG g b := by
  rw [(shw_asc b).2, esc_feed hs, feed_cons, take_ask rfl rfl, feed_cons]
  rw [take_dig (pre := []) (v := -1) rfl rfl (by decide) (by decide), feed_cons]
  rw [take_dig (pre := []) (v := 2) rfl rfl (by decide) (by decide), feed_cons]
  rw [take_does rfl (by simp) (by cases b <;> decide) (by cases b <;> decide)]
  unfold doesG
  rw [if_neg (by show ¬ false = true; decide), if_pos rfl, if_pos ⟨rfl, by cases b <;> decide⟩]
  cases b <;> rfl
end Go.Proofs.YtjdohhididpomaaDoor
end

section
namespace Go.Proofs.YtjdohhididpomaaDoor
open Go Vc Ut Tb Cl Orb
theorem look_ne {v d : Int} {r : Int} : ∀ {l : List (List RC × Int)}, (∀ p ∈ l, p.2 ≠ v) → d ≠ v → lookC l d r ≠ v
  | [], _, hd => hd
  | (c, u) :: l, h, hd => by
    unfold lookC
    split
    · exact h (c, u) (by simp)
    · exact look_ne (fun p hp => h p (List.mem_cons_of_mem _ hp)) hd
theorem kind_tail : ∀ p ∈ kindL.tail, p.2 ≠ 0 := by decide +kernel
theorem kind_ctl {r : Int} (h : kindR r = 0) : r ≤ 31 ∨ 127 ≤ r ∧ r ≤ 159 := by
  unfold kindR at h
  rw [show kindL = ([.le 31, .rg 127 159], 0) :: kindL.tail from rfl] at h
  unfold lookC at h
  cases hc : anyC [.le 31, .rg 127 159] (knownF r) with
  | true =>
    have hc : (decide (knownF r ≤ 31) || (decide (knownF r ≥ 127) && decide (knownF r ≤ 159))) = true := hc
    simp only [Bool.or_eq_true, Bool.and_eq_true, decide_eq_true_eq] at hc
    unfold knownF at hc
    split at hc
    · omega
    · omega
  | false =>
    rw [hc] at h
    exact absurd h (look_ne kind_tail (by decide))
theorem takes_ctl {x z y : Int} {n : Nat} (h : kindR y = 0) : takesB x z y n = false := by
  have hb := kind_ctl h
  have h1 : joinB y = false := by
    unfold joinB
    rw [Bool.or_eq_false_iff]
    exact ⟨beq_eq_false_iff_ne.2 (by omega), beq_eq_false_iff_ne.2 (by omega)⟩
  have h2 : regB y = false := by
    unfold regB
    rw [decide_eq_false (show ¬ 127462 ≤ y by omega)]; rfl
  have h3 : partN y = 0 := by
    unfold partN
    rw [if_neg (by omega), if_neg (by omega), if_neg (by omega), if_neg (by omega)]
  unfold takesB sylB picB
  rw [h, h1, h2, h3, syl0]
  simp
theorem goN_all {s : ByteArray} {k : Nat} : ∀ (f n m : Nat), n ≤ m → m < goN s k f n → goB s k m = true
  | 0, n, m, h1, h2 => by simp only [goN] at h2; omega
  | f + 1, n, m, h1, h2 => by
    simp only [goN] at h2
    split at h2
    · rename_i hg
      rcases Nat.lt_or_ge n m with h | h
      · exact goN_all f (n + 1) m h h2
      · rw [show m = n by omega]; exact hg
    · omega
theorem PlainK.kind {s : ByteArray} {wd : Bool} (h : PlainK s wd) {n : Nat} (hn : n < cnt s) : kindR (sg s n) ≠ 0 := by
  intro hk
  rcases Nat.eq_zero_or_pos n with e | e
  · subst e
    have hb := kind_ctl hk
    have h1 := h.ctl
    have h2 := h.fmt
    unfold fmtB at h2
    rw [Bool.or_eq_false_iff, Bool.or_eq_false_iff] at h2
    have h3 := of_decide_eq_false h2.1.1
    omega
  · obtain ⟨h0, hf, -⟩ := one_first h.one
    unfold firstN at hf
    rw [if_neg (by rw [h.bad]; decide)] at hf
    split at hf
    · rename_i hcr
      unfold crB at hcr
      rw [Bool.and_eq_true] at hcr
      have h1 := beq_iff_eq.1 hcr.1
      have := h.ctl
      omega
    split at hf
    · omega
    · have hg := goN_all (s := s) (k := 0) 32 1 n e (by rw [hf]; exact hn)
      unfold goB at hg
      simp only [Bool.and_eq_true, Nat.zero_add] at hg
      have := hg.2.2.2
      rw [takes_ctl hk] at this
      cases this
def hdK (s : ByteArray) (k : Nat) : ByteArray := s.extract 0 (pos s k)
theorem hd_all (s : ByteArray) : hdK s (cnt s) = s := by unfold hdK; rw [pos_cnt, ByteArray.extract_zero_size]
theorem runesB_one (r : Int) : runesBytes [r] = enc1 r := by
  rw [runesBytes_cons]
  show Utf8.encode r ++ ByteArray.empty = _
  rw [ByteArray.append_empty]; rfl
theorem hd_one {s : ByteArray} (h : validB s = true) (h0 : 0 < cnt s) : hdK s 1 = enc1 ((runes s).getD 0 0) := by
  have hl := runes_len s
  unfold hdK
  rw [← take_valid h (show 1 ≤ cnt s by omega)]
  cases hr : runes s with
  | nil => rw [hr] at hl; simp at hl; omega
  | cons r l => exact runesB_one r
theorem hd_step {s : ByteArray} (h : validB s = true) {k : Nat} (hk : k < cnt s) : hdK s k ++ enc1 ((runes s).getD k 0) = hdK s (k + 1) := by
  have hl := runes_len s
  unfold hdK
  rw [← take_valid h (show k ≤ cnt s by omega), ← take_valid h (show k + 1 ≤ cnt s by omega), ← runesB_one, ← runesBytes_app]
  congr 1
  rw [List.take_add_one, List.getElem?_eq_getElem (by omega), List.getD_eq_getElem?_getD, List.getElem?_eq_getElem (by omega)]
  rfl
theorem PlainK.hd {s : ByteArray} {wd : Bool} (h : PlainK s wd) {j : Nat} (h1 : 1 ≤ j) (hj : j ≤ cnt s) : PlainK (hdK s j) wd := h.head h1 hj
theorem PlainK.hd_mono {s : ByteArray} {wd : Bool} (h : PlainK s wd) {j k : Nat} (h1 : 1 ≤ j) (hj : j ≤ k) (hk : k ≤ cnt s) : widK (hdK s j) wd ≤ widK (hdK s k) wd := by
  have hp := h.hd (show 1 ≤ k by omega) hk
  have hc : cnt (hdK s k) = k := cnt_take hk
  have := hp.head_le h1 (show j ≤ cnt (hdK s k) by omega)
  have e : (hdK s k).extract 0 (pos (hdK s k) j) = hdK s j := by
    unfold hdK
    have hm := pos_mono s hj
    rw [pos_take hj hk, ByteArray.extract_extract]
    congr 1
    omega
  rw [e] at this
  exact this
theorem PlainK.hd_le {s : ByteArray} {wd : Bool} (h : PlainK s wd) {j : Nat} (h1 : 1 ≤ j) (hj : j ≤ cnt s) : widK (hdK s j) wd ≤ widK s wd := h.head_le h1 hj
structure PutS (g : Gs) (i : Nat) (s : ByteArray) (k : Nat) (g' : Gs) : Prop where
  stt : g'.stt = 0
  w : g'.w = g.w
  h : g'.h = g.h
  wd : g'.wd = g.wd
  sty : g'.sty = g.sty
  hid : g'.hid = g.hid
  y : g'.y = g.y
  x : g'.x = g.x + widK (hdK s k) g.wd
  last : g'.last = i + 1
  len : g'.cs.length = g.cs.length
  p : (ceG g'.cs i).p = 0
  t : txC (ceG g'.cs i) = hdK s k
  st : (ceG g'.cs i).st = g.sty
  two : widK (hdK s k) g.wd = 2 → (ceG g'.cs (i + 1)).p = 1 ∧ (ceG g'.cs (i + 1)).st = g.sty ∧ (ceG g'.cs (i + 1)).t.size = 0
  low : ∀ j, j < i → ceG g'.cs j = ceG g.cs j
  high : ∀ j, i < j → (widK (hdK s k) g.wd = 2 → j ≠ i + 1) → (ceG g.cs j).p = 0 → ceG g'.cs j = ceG g.cs j
theorem lay_put {g : Gs} {i n : Nat} {s : ByteArray} (hi : i < g.cs.length) (hxy : g.y * g.w + g.x = i) (hp : (ceG g.cs i).p = 0) (hn : n = 1 ∨ n = 2) (h2 : n = 2 → (i + 1) % g.w ≠ 0 ∧ i + 1 < g.cs.length) :
    (layG g s n).cs.length = g.cs.length ∧ ceG (layG g s n).cs i = ⟨s, 0, 0, 0, false, g.sty⟩ ∧ (n = 2 → ceG (layG g s n).cs (i + 1) = hlfC g.sty) ∧ (∀ j, j < i → ceG (layG g s n).cs j = ceG g.cs j) ∧ (∀ j, i < j → (n = 2 → j ≠ i + 1) → (ceG g.cs j).p = 0 → ceG (layG g s n).cs j = ceG g.cs j) := by
  unfold layG
  dsimp only
  rw [hxy]
  rcases hn with hn | hn
  · subst hn
    rw [if_neg (by decide), if_neg (by decide)]
    have hc := ceG_lay (w := g.w) (c := (⟨s, 0, 0, 0, false, g.sty⟩ : Ce)) hi (fun h => by rw [hp] at h; cases h)
    refine ⟨lay_len _ _ _ _, by rw [hc, if_pos rfl], fun h => absurd h (by decide), fun j hj => ?_, fun j hj _ hpj => ?_⟩
    · rw [hc, if_neg (by omega), if_neg (by rw [hp]; decide), if_neg (fun h => by have := h.2.2; omega)]
    · rw [hc, if_neg (by omega), if_neg (by rw [hp]; decide), if_neg (fun h => ?_)]
      have e := h.2.2
      rw [e] at hpj
      rw [hpj] at h
      exact absurd h.2.1 (by decide)
  · subst hn
    obtain ⟨hm, hi1⟩ := h2 rfl
    rw [if_pos rfl, if_pos rfl]
    have hc1 := ceG_lay (l := g.cs) (w := g.w) (c := blkC g.sty) hi1 (fun _ => Nat.succ_pos i)
    simp only [Nat.add_sub_cancel] at hc1
    have hl1 := lay_len g.cs g.w (i + 1) (blkC g.sty)
    generalize layL g.cs g.w (i + 1) (blkC g.sty) = c1 at hc1 hl1 ⊢
    have p1 : (ceG c1 i).p = 0 := by
      rw [hc1, if_neg (by omega)]
      split
      · rw [if_pos rfl]; rfl
      · rw [if_neg (fun h => by have := h.2.2; omega)]; exact hp
    have q1 : ceG c1 (i + 1) = blkC g.sty := by rw [hc1, if_pos rfl]
    have hc2 := ceG_lay (l := c1) (i := i) (w := g.w) (c := (⟨s, 0, 0, 0, false, g.sty⟩ : Ce)) (by omega) (fun h => by rw [p1] at h; cases h)
    have hl2 := lay_len c1 g.w i (⟨s, 0, 0, 0, false, g.sty⟩ : Ce)
    generalize layL c1 g.w i (⟨s, 0, 0, 0, false, g.sty⟩ : Ce) = c2 at hc2 hl2 ⊢
    have hc2' : ∀ j, ceG c2 j = if j = i then (⟨s, 0, 0, 0, false, g.sty⟩ : Ce) else ceG c1 j := fun j => by
      rw [hc2]
      by_cases hj : j = i
      · rw [if_pos hj, if_pos hj]
      · rw [if_neg hj, if_neg hj, if_neg (by rw [p1]; decide), if_neg (fun h => by rw [q1] at h; exact absurd (show (0 : Int) = 1 from h.2.1) (by decide))]
    have q2 : ceG c2 (i + 1) = blkC g.sty := by rw [hc2', if_neg (by omega), q1]
    have hs : ∀ j, ceG (c2.set (i + 1) { ceG c2 (i + 1) with p := 1 }) j = if j = i + 1 then { ceG c2 (i + 1) with p := 1 } else ceG c2 j := fun j => ceG_set (by omega)
    refine ⟨by rw [List.length_set, hl2, hl1], ?_, fun _ => ?_, fun j hj => ?_, fun j hj hn2 hpj => ?_⟩
    · rw [hs, if_neg (by omega), hc2', if_pos rfl]
    · rw [hs, if_pos rfl, q2]; rfl
    · rw [hs, if_neg (by omega), hc2', if_neg (by omega), hc1, if_neg (by omega)]
      split
      · rw [if_neg (by omega)]
      · rw [if_neg (fun h => by have := h.2.2; omega)]
    · have hne := hn2 rfl
      rw [hs, if_neg hne, hc2', if_neg (by omega), hc1, if_neg hne]
      split
      · rw [if_neg (by omega)]
      · rw [if_neg (fun h => ?_)]
        have e := h.2.2
        rw [e] at hpj
        rw [hpj] at h
        exact absurd h.2.1 (by decide)
theorem lay_all (g : Gs) (s : ByteArray) (n : Nat) : (layG g s n).stt = g.stt ∧ (layG g s n).w = g.w ∧ (layG g s n).h = g.h ∧ (layG g s n).wd = g.wd ∧ (layG g s n).sty = g.sty ∧ (layG g s n).hid = g.hid ∧ (layG g s n).y = g.y ∧ (layG g s n).x = g.x + n ∧ (layG g s n).last = g.y * g.w + g.x + 1 :=
  ⟨rfl, rfl, rfl, rfl, rfl, rfl, rfl, rfl, rfl⟩
theorem put_one {g : Gs} {i : Nat} {s : ByteArray} {r : Int} (hs : g.stt = 0) (hp : PlainK s g.wd) (hr : r = (runes s).getD 0 0) (hi : i < g.cs.length) (hl : g.cs.length = g.w * g.h) (hxy : g.y * g.w + g.x = i) (hx : g.x < g.w)
    (h2 : widK s g.wd = 2 → (i + 1) % g.w ≠ 0) (hp0 : (ceG g.cs i).p = 0) (hj : joinG g r = none) : PutS g i s 1 (takeG g r) := by
  obtain ⟨h0, -, -⟩ := one_first hp.one
  have hk : kindR r ≠ 0 := by
    rw [hr, runes_at h0]
    exact hp.kind h0
  have h1 := hp.hd (Nat.le_refl 1) h0
  have hd1 := hd_one hp.val h0
  rw [← hr] at hd1
  have hbd := h1.bd
  have hle := hp.hd_le (Nat.le_refl 1) h0
  have hpl := h1.plN
  have hpo := plain_oneC h1
  have htx : (textC (enc1 r) 0 (lkW g.wd)).1 = hdK s 1 := by rw [← hd1, one_text h1.one, hpo]
  have e0 : takeG g r = putG g r := by
    unfold takeG
    rw [if_neg (by omega), if_neg (by omega)]
    unfold freeG
    rw [if_pos hk]
  have hw0 : 0 < g.w := by omega
  have hh0 : g.h ≠ 0 := by
    intro e
    rw [e, Nat.mul_zero] at hl; omega
  have two : widK (hdK s 1) g.wd = 2 → (i + 1) % g.w ≠ 0 ∧ i + 1 < g.cs.length ∧ g.x + 2 ≤ g.w := by
    intro e
    have hm := h2 (by have := hp.bd; omega)
    have hxw : g.x + 1 ≠ g.w := by
      intro e2
      apply hm
      rw [show i + 1 = g.w + g.y * g.w by omega, Nat.add_mul_mod_self_right, Nat.mod_self]
    refine ⟨hm, ?_, by omega⟩
    rcases Nat.lt_or_ge (i + 1) g.cs.length with h | h
    · exact h
    · exfalso; apply hm
      rw [show i + 1 = g.w * g.h by omega, Nat.mul_mod_right]
  have e1 : putG g r = layG { g with last := 0 } (hdK s 1) (widK (hdK s 1) g.wd) := by
    unfold putG
    rw [hj]
    dsimp only
    rw [htx, hpl]
    generalize widK (hdK s 1) g.wd = n at hbd two
    have hb : n ≠ 0 ∧ n ≤ g.w ∧ g.x + n ≤ g.w := by
      by_cases e : n = 2
      · have := two e; omega
      · omega
    rw [if_neg (by omega), if_neg (by omega)]
  rw [e0, e1]
  have hlp := lay_put (g := { g with last := 0 }) (s := hdK s 1) (n := widK (hdK s 1) g.wd) hi hxy hp0 (by omega) (fun e => ⟨(two e).1, (two e).2.1⟩)
  obtain ⟨l1, l2, l3, l4, l5⟩ := hlp
  obtain ⟨f1, f2, f3, f4, f5, f6, f7, f8, f9⟩ := lay_all { g with last := 0 } (hdK s 1) (widK (hdK s 1) g.wd)
  generalize layG { g with last := 0 } (hdK s 1) (widK (hdK s 1) g.wd) = G at l1 l2 l3 l4 l5 f1 f2 f3 f4 f5 f6 f7 f8 f9 ⊢
  refine ⟨f1.trans hs, f2, f3, f4, f5, f6, f7, f8, ?_, l1, by rw [l2], ?_, by rw [l2], fun e => ?_, l4, l5⟩
  · rw [f9, ← hxy]
  · rw [l2]
    exact tx_pl (wd := g.wd) (c := ⟨hdK s 1, 0, 0, 0, false, g.sty⟩) rfl (by show plN (hdK s 1) g.wd ≠ 0; rw [hpl]; omega)
  · rw [l3 e]; exact ⟨rfl, rfl, rfl⟩
theorem put_more {g g' : Gs} {i k : Nat} {s : ByteArray} {r : Int} (hp : PlainK s g.wd) (hk1 : 1 ≤ k) (hk : k < cnt s) (hr : r = (runes s).getD k 0) (hi : i < g.cs.length) (hl : g.cs.length = g.w * g.h)
    (h2 : widK s g.wd = 2 → (i + 1) % g.w ≠ 0) (h : PutS g i s k g') : PutS g i s (k + 1) (takeG g' r) := by
  have hkd : kindR r ≠ 0 := by
    rw [hr, runes_at hk]
    exact hp.kind hk
  have hst := hd_step hp.val hk
  rw [← hr] at hst
  have pa := hp.hd hk1 (Nat.le_of_lt hk)
  have pb := hp.hd (j := k + 1) (by omega) hk
  have hmono := hp.hd_mono (k := k + 1) hk1 (by omega) hk
  have hle := hp.hd_le (j := k + 1) (by omega) hk
  have ba := pa.bd; have bb := pb.bd; have bs := hp.bd
  have hs' := h.stt
  have e0 : takeG g' r = putG g' r := by
    unfold takeG
    rw [if_neg (by omega), if_neg (by omega)]
    unfold freeG
    rw [if_pos hkd]
  have hlast := h.last
  have hn1 : plN (txC (ceG g'.cs i)) g'.wd = widK (hdK s k) g.wd := by rw [h.t, h.wd, pa.plN]
  have hn2 : plN (txC (ceG g'.cs i) ++ enc1 r) g'.wd = widK (hdK s (k + 1)) g.wd := by rw [h.t, hst, h.wd, pb.plN]
  have htn : txC (ceG g'.cs i) ++ enc1 r = hdK s (k + 1) := by rw [h.t, hst]
  have hi' : i < g'.cs.length := by rw [h.len]; exact hi
  have tx : ∀ c : Ce, c.p = 0 → txC { c with t := hdK s (k + 1) } = hdK s (k + 1) := fun c hc => tx_pl (wd := g.wd) hc (by show plN (hdK s (k + 1)) g.wd ≠ 0; rw [pb.plN]; omega)
  rw [e0]
  by_cases hgr : widK (hdK s k) g.wd < widK (hdK s (k + 1)) g.wd
  · have hm : (i + 1) % g.w ≠ 0 := h2 (by omega)
    have hi1 : i + 1 < g'.cs.length := by
      rw [h.len]
      rcases Nat.lt_or_ge (i + 1) g.cs.length with hh | hh
      · exact hh
      · exfalso; apply hm
        rw [show i + 1 = g.w * g.h by omega, Nat.mul_mod_right]
    have ej : joinG g' r = some { g' with cs := (layL g'.cs g'.w (i + 1) (hlfC (ceG g'.cs i).st)).set i { ceG (layL g'.cs g'.w (i + 1) (hlfC (ceG g'.cs i).st)) i with t := hdK s (k + 1) }, x := g'.x + 1 } := by
      unfold joinG
      simp only [hlast, Nat.add_sub_cancel]
      rw [if_neg (Nat.succ_ne_zero i), hn1, hn2, if_neg (by omega), if_pos hgr, h.w, if_neg hm, htn]
    have ep : putG g' r = { g' with cs := (layL g'.cs g'.w (i + 1) (hlfC (ceG g'.cs i).st)).set i { ceG (layL g'.cs g'.w (i + 1) (hlfC (ceG g'.cs i).st)) i with t := hdK s (k + 1) }, x := g'.x + 1 } := by
      unfold putG; rw [ej]
    rw [ep]
    have hc := ceG_lay (l := g'.cs) (w := g'.w) (c := hlfC (ceG g'.cs i).st) hi1 (fun _ => Nat.succ_pos i)
    simp only [Nat.add_sub_cancel] at hc
    have hll := lay_len g'.cs g'.w (i + 1) (hlfC (ceG g'.cs i).st)
    rw [h.st] at hc hll ⊢
    generalize layL g'.cs g'.w (i + 1) (hlfC g.sty) = c1 at hc hll ⊢
    have c1i : (ceG c1 i).p = 0 ∧ (ceG c1 i).st = g.sty := by
      rw [hc, if_neg (by omega)]
      split
      · rw [if_pos rfl]; exact ⟨rfl, rfl⟩
      · rw [if_neg (fun hh => by have := hh.2.2; omega)]; exact ⟨h.p, h.st⟩
    have hset : ∀ j, ceG (c1.set i { ceG c1 i with t := hdK s (k + 1) }) j = if j = i then { ceG c1 i with t := hdK s (k + 1) } else ceG c1 j := fun j => ceG_set (by omega)
    have w1 : widK (hdK s k) g.wd = 1 := by omega
    have w2 : widK (hdK s (k + 1)) g.wd = 2 := by omega
    refine ⟨hs', h.w, h.h, h.wd, h.sty, h.hid, h.y, ?_, hlast, ?_, ?_, ?_, ?_, fun _ => ?_, fun j hj => ?_, fun j hj hn hpj => ?_⟩
    · show g'.x + 1 = _
      rw [h.x, w1, w2]
    · show (c1.set i _).length = _
      rw [List.length_set, hll, h.len]
    · show (ceG (c1.set i _) i).p = 0
      rw [hset, if_pos rfl]; exact c1i.1
    · show txC (ceG (c1.set i _) i) = _
      rw [hset, if_pos rfl]; exact tx _ c1i.1
    · show (ceG (c1.set i _) i).st = _
      rw [hset, if_pos rfl]; exact c1i.2
    · show (ceG (c1.set i _) (i + 1)).p = 1 ∧ (ceG (c1.set i _) (i + 1)).st = _ ∧ (ceG (c1.set i _) (i + 1)).t.size = 0
      rw [hset, if_neg (by omega), hc, if_pos rfl]
      exact ⟨rfl, rfl, rfl⟩
    · show ceG (c1.set i _) j = _
      rw [hset, if_neg (by omega), hc, if_neg (by omega), ← h.low j hj]
      split
      · rw [if_neg (by omega)]
      · rw [if_neg (fun hh => by have := hh.2.2; omega)]
    · show ceG (c1.set i _) j = _
      have hne := hn w2
      have hhi := h.high j hj (fun e => by omega) hpj
      rw [hset, if_neg (by omega), hc, if_neg hne]
      split
      · rw [if_neg (by omega)]; exact hhi
      · rw [if_neg (fun hh => ?_)]
        · exact hhi
        · have e := hh.2.2
          have h5 := hh.2.1
          rw [← e, hhi, hpj] at h5
          exact absurd h5 (by decide)
  · have ej : joinG g' r = some { g' with cs := g'.cs.set i { ceG g'.cs i with t := hdK s (k + 1) } } := by
      unfold joinG
      simp only [hlast, Nat.add_sub_cancel]
      rw [if_neg (Nat.succ_ne_zero i), hn1, hn2, if_neg (by omega), if_neg hgr, htn]
    have ep : putG g' r = { g' with cs := g'.cs.set i { ceG g'.cs i with t := hdK s (k + 1) } } := by
      unfold putG; rw [ej]
    rw [ep]
    have hset : ∀ j, ceG (g'.cs.set i { ceG g'.cs i with t := hdK s (k + 1) }) j = if j = i then { ceG g'.cs i with t := hdK s (k + 1) } else ceG g'.cs j := fun j => ceG_set hi'
    have ww : widK (hdK s (k + 1)) g.wd = widK (hdK s k) g.wd := by omega
    refine ⟨hs', h.w, h.h, h.wd, h.sty, h.hid, h.y, ?_, hlast, ?_, ?_, ?_, ?_, fun e => ?_, fun j hj => ?_, fun j hj hn hpj => ?_⟩
    · show g'.x = _
      rw [h.x, ww]
    · show (g'.cs.set i _).length = _
      rw [List.length_set, h.len]
    · show (ceG (g'.cs.set i _) i).p = 0
      rw [hset, if_pos rfl]; exact h.p
    · show txC (ceG (g'.cs.set i _) i) = _
      rw [hset, if_pos rfl]; exact tx _ h.p
    · show (ceG (g'.cs.set i _) i).st = _
      rw [hset, if_pos rfl]; exact h.st
    · show (ceG (g'.cs.set i _) (i + 1)).p = 1 ∧ (ceG (g'.cs.set i _) (i + 1)).st = _ ∧ (ceG (g'.cs.set i _) (i + 1)).t.size = 0
      rw [hset, if_neg (by omega)]
      exact h.two (by omega)
    · show ceG (g'.cs.set i _) j = _
      rw [hset, if_neg (by omega)]
      exact h.low j hj
    · show ceG (g'.cs.set i _) j = _
      rw [hset, if_neg (by omega)]
      exact h.high j hj (fun e => hn (by omega)) hpj
theorem feed_take (g : Gs) (l : List Int) {k : Nat} (hk : k < l.length) : feedG g (l.take (k + 1)) = takeG (feedG g (l.take k)) (l.getD k 0) := by
  unfold feedG
  rw [List.take_add_one, List.getElem?_eq_getElem hk, Option.toList_some, List.foldl_append, List.getD_eq_getElem?_getD, List.getElem?_eq_getElem hk]
  rfl
theorem put_all {g : Gs} {i : Nat} {s : ByteArray} (hs : g.stt = 0) (hp : PlainK s g.wd) (hi : i < g.cs.length) (hl : g.cs.length = g.w * g.h) (hxy : g.y * g.w + g.x = i) (hx : g.x < g.w)
    (h2 : widK s g.wd = 2 → (i + 1) % g.w ≠ 0) (hp0 : (ceG g.cs i).p = 0) (hj : joinG g ((runes s).getD 0 0) = none) : PutS g i s (cnt s) (feedG g (runes s)) := by
  obtain ⟨h0, -, -⟩ := one_first hp.one
  have hrl := runes_len s
  have key : ∀ k, k + 1 ≤ cnt s → PutS g i s (k + 1) (feedG g ((runes s).take (k + 1))) := by
    intro k
    induction k with
    | zero =>
      intro _
      rw [feed_take g _ (by omega)]
      exact put_one hs hp rfl hi hl hxy hx h2 hp0 hj
    | succ k ih =>
      intro hk
      rw [feed_take g _ (by omega)]
      exact put_more hp (by omega) (by omega) rfl hi hl h2 (ih (by omega))
  obtain ⟨k, hk⟩ : ∃ k, cnt s = k + 1 := ⟨cnt s - 1, by omega⟩
  have := key k (by omega)
  rw [← hk, List.take_of_length_le (by omega)] at this
  exact this
end Go.Proofs.YtjdohhididpomaaDoor
end

section
namespace Go.Proofs.YtjdohhididpomaaDoor
open Go Vc Ut Tb Cl Orb
structure Lnk (t : Te) (g : Gs) : Prop where
  stt : g.stt = 0
  st : g.sty = t.st
  w : t.w = g.w
  wd : t.wd = g.wd
  ps : t.ps ≠ -1 → t.ps = ((g.y * g.w + g.x : Nat) : Int) ∧ g.x < g.w
  l0 : t.last.size = 0 → g.last = 0
  l1 : t.last.size ≠ 0 → g.last ≠ 0 ∧ txC (ceG g.cs (g.last - 1)) = t.last
structure Fed (g0 : Gs) (t : Te) (g : Gs) : Prop where
  val : validB t.b = true
  fed : g = feedG g0 (runes t.b)
  lnk : Lnk t g
theorem Fed.ok {g0 g : Gs} {t : Te} {m : Nat} (h : Fed g0 t g) (h0 : okG g0 m) : okG g (m + (runes t.b).length) := by rw [h.fed]; exact ok_feed _ h0
theorem fed_more {g0 g : Gs} {a b : ByteArray} (h : validB a = true) (hf : g = feedG g0 (runes a)) (hb : validB b = true) : validB (a ++ b) = true ∧ feedG g0 (runes (a ++ b)) = feedG g (runes b) := by
  have := valid_app h hb
  exact ⟨this.1, by rw [this.2, feed_app, ← hf]⟩
theorem fed_move {g0 g : Gs} {t : Te} {i : Nat} (hv : validB t.b = true) (hf : g = feedG g0 (runes t.b)) (hs : g.stt = 0) (hw : t.w = g.w) (h1 : g.w ≤ 1024) (h2 : g.h ≤ 1024) (hi : i < g.w * g.h) :
    validB (moveT t (i : Int)).b = true ∧ movG g i = feedG g0 (runes (moveT t (i : Int)).b) := by
  obtain ⟨m1, m2⟩ := mov_feed hs h1 h2 hi
  have e : [(i : Int) / t.w + 1, (i : Int) % t.w + 1] = [((i / g.w + 1 : Nat) : Int), ((i % g.w + 1 : Nat) : Int)] := by
    rw [hw, Int.natCast_add, Int.natCast_add, Int.natCast_ediv, Int.natCast_emod]; rfl
  have hb : (moveT t (i : Int)).b = t.b ++ sayB 72 [((i / g.w + 1 : Nat) : Int), ((i % g.w + 1 : Nat) : Int)] := by
    unfold moveT sayT; rw [e]
  rw [hb]
  have := fed_more hv hf (say_asc (c := 72) (by decide) m1).1
  exact ⟨this.1, by rw [this.2, m2]⟩
theorem mov_at {g : Gs} {i : Nat} (hw : 0 < g.w) : (movG g i).y * (movG g i).w + (movG g i).x = i ∧ (movG g i).x < (movG g i).w :=
  ⟨by show i / g.w * g.w + i % g.w = i; rw [Nat.mul_comm]; exact Nat.div_add_mod i g.w, Nat.mod_lt _ hw⟩
theorem pos_w {w h i : Nat} (hi : i < w * h) : 0 < w := by
  rcases Nat.eq_zero_or_pos w with e | e
  · rw [e, Nat.zero_mul] at hi; omega
  · exact e
theorem Fed.move {g0 g : Gs} {t : Te} {i : Nat} (h : Fed g0 t g) (h1 : g.w ≤ 1024) (h2 : g.h ≤ 1024) (hi : i < g.w * g.h) : Fed g0 (moveT t (i : Int)) (movG g i) := by
  obtain ⟨v, f⟩ := fed_move h.val h.fed h.lnk.stt h.lnk.w h1 h2 hi
  have ha := mov_at (g := g) (i := i) (pos_w hi)
  exact ⟨v, f, ⟨rfl, h.lnk.st, h.lnk.w, h.lnk.wd, fun _ => ⟨by rw [ha.1]; rfl, ha.2⟩, fun _ => rfl, fun hh => absurd rfl hh⟩⟩
theorem Fed.wear {g0 g : Gs} {t : Te} {s : Nat} (h : Fed g0 t g) (hs : s < 65536) : Fed g0 (wearT t s) (weaG g s) := by
  have := fed_more h.val h.fed (say_asc (c := 109) (by decide) (wearN_dig hs)).1
  exact ⟨this.1, by rw [← wea_feed h.lnk.stt hs, ← this.2]; rfl, ⟨rfl, rfl, h.lnk.w, h.lnk.wd, h.lnk.ps, fun _ => rfl, fun hh => absurd rfl hh⟩⟩
theorem Fed.clear {g0 g : Gs} {t : Te} (h : Fed g0 t g) (hp : t.ps = -1) : Fed g0 (sayT t 74 [2]) (clrG g) := by
  have := fed_more h.val h.fed (say_asc (c := 74) (l := [2]) (by decide) (fun n hn => by rw [List.mem_singleton.1 hn]; decide)).1
  have hb : ∀ g : Gs, (backG g).stt = g.stt ∧ (backG g).sty = g.sty ∧ (backG g).w = g.w ∧ (backG g).wd = g.wd ∧ (backG g).last = g.last := fun g => by
    unfold backG; split <;> exact ⟨rfl, rfl, rfl, rfl, rfl⟩
  have hc := hb { seqG g [2] with cs := List.replicate g.cs.length (blkC 0) }
  exact ⟨this.1, by rw [← clr_feed h.lnk.stt, ← this.2]; rfl, ⟨hc.1, hc.2.1.trans h.lnk.st, by rw [show (clrG g).w = g.w from hc.2.2.1]; exact h.lnk.w, by rw [show (clrG g).wd = g.wd from hc.2.2.2.1]; exact h.lnk.wd, fun hh => absurd hp hh, fun _ => hc.2.2.2.2, fun hh => absurd rfl hh⟩⟩
structure Stay (g g' : Gs) : Prop where
  cs : g'.cs = g.cs
  w : g'.w = g.w
  h : g'.h = g.h
  wd : g'.wd = g.wd
  hid : g'.hid = g.hid
theorem Stay.refl (g : Gs) : Stay g g := ⟨rfl, rfl, rfl, rfl, rfl⟩
theorem Stay.trans {a b c : Gs} (h : Stay a b) (k : Stay b c) : Stay a c := ⟨k.cs.trans h.cs, k.w.trans h.w, k.h.trans h.h, k.wd.trans h.wd, k.hid.trans h.hid⟩
theorem stay_mov (g : Gs) (i : Nat) : Stay g (movG g i) := ⟨rfl, rfl, rfl, rfl, rfl⟩
theorem stay_wea (g : Gs) (s : Nat) : Stay g (weaG g s) := ⟨rfl, rfl, rfl, rfl, rfl⟩
theorem nx_head {s : ByteArray} (h0 : 0 < cnt s) : s.extract 0 (nxN s) = hdK s 1 := by
  have hp := cnt_lt.1 h0
  have h1 := pos_succ hp
  have e0 : pos s 0 = 0 := rfl
  unfold hdK nxN
  rw [if_neg (by omega), h1, e0, Nat.zero_add]
structure Told (g : Gs) (i : Nat) (c : Ce) (g' : Gs) : Prop where
  len : g'.cs.length = g.cs.length
  w : g'.w = g.w
  h : g'.h = g.h
  wd : g'.wd = g.wd
  hid : g'.hid = g.hid
  p : (ceG g'.cs i).p = 0
  t : txC (ceG g'.cs i) = txC c
  st : (ceG g'.cs i).st = c.st
  low : ∀ j, j < i → ceG g'.cs j = ceG g.cs j
  high : ∀ j, i < j → (plN (txC c) g.wd = 2 → j ≠ i + 1) → (ceG g.cs j).p = 0 → ceG g'.cs j = ceG g.cs j
theorem Fed.tell {g0 g : Gs} {t : Te} {m i : Nat} {c : Ce} (h : Fed g0 t g) (h0 : okG g0 m) (hi : i < g.cs.length) (hst : c.st < 65536) (hp : PlainK (txC c) g.wd) (h2 : plN (txC c) g.wd = 2 → (i + 1) % g.w ≠ 0) (hp0 : (ceG g.cs i).p = 0) :
    ∃ g', Fed g0 (tellT t (i : Int) c) g' ∧ Told g i c g' := by
  unfold tellT
  have hok := h.ok h0
  have hw := hok.w; have hh := hok.h; have hlen := hok.len
  have hi' : i < g.w * g.h := by omega
  have hw0 := pos_w hi'
  rw [hp.plN] at h2
  obtain ⟨g1, f1, s1, p1⟩ : ∃ g1, Fed g0 (te1 t i) g1 ∧ Stay g g1 ∧ (te1 t i).ps = i := by
    unfold te1
    by_cases e : t.ps ≠ i
    · rw [if_pos e]
      exact ⟨movG g i, h.move hw hh hi', stay_mov g i, rfl⟩
    · rw [if_neg e]
      exact ⟨g, h, Stay.refl g, Decidable.not_not.1 e⟩
  obtain ⟨g2, f2, s2, p2, q2⟩ : ∃ g2, Fed g0 (te2 (te1 t i) c.st) g2 ∧ Stay g g2 ∧ (te2 (te1 t i) c.st).ps = i ∧ g2.sty = c.st := by
    unfold te2
    by_cases e : (te1 t i).st ≠ c.st
    · rw [if_pos e]
      exact ⟨weaG g1 c.st, f1.wear hst, s1.trans (stay_wea g1 c.st), p1, rfl⟩
    · rw [if_neg e]
      exact ⟨g1, f1, s1, p1, f1.lnk.st.trans (Decidable.not_not.1 e)⟩
  generalize te2 (te1 t i) c.st = t2 at f2 p2 ⊢
  obtain ⟨hc0, -, -⟩ := one_first hp.one
  obtain ⟨g3, f3, s3, p3, q3, j3⟩ : ∃ g3, Fed g0 (te3 t2 i (txC c)) g3 ∧ Stay g g3 ∧ (te3 t2 i (txC c)).ps = i ∧ g3.sty = c.st ∧ joinG g3 ((runes (txC c)).getD 0 0) = none := by
    unfold te3
    by_cases e : joinsT t2 (txC c) = true
    · rw [if_pos e]
      refine ⟨movG g2 i, f2.move (by rw [s2.w]; exact hw) (by rw [s2.h]; exact hh) (by rw [s2.w, s2.h]; exact hi'), s2.trans (stay_mov g2 i), rfl, q2, ?_⟩
      unfold joinG
      rw [if_pos (show (movG g2 i).last = 0 from rfl)]
    · rw [if_neg e]
      refine ⟨g2, f2, s2, p2, q2, ?_⟩
      by_cases hl : g2.last = 0
      · unfold joinG; rw [if_pos hl]
      · have hsz : t2.last.size ≠ 0 := fun hh => hl (f2.lnk.l0 hh)
        obtain ⟨-, htx⟩ := f2.lnk.l1 hsz
        have hok2 := f2.ok h0
        have hlo := hok2.last hl
        have h12 := okAt_two (i := g2.last - 1) hok2.ok (by have := hlo.le; omega) hlo.p
        have hn1 : 1 ≤ plN (txC (ceG g2.cs (g2.last - 1))) g2.wd := by rcases h12 with h12 | h12 <;> omega
        have hnc : ¬ ncl (t2.last ++ enc1 ((runes (txC c)).getD 0 0)) = 1 := by
          intro hh
          apply e
          unfold joinsT
          rw [nx_head hc0, hd_one hp.val hc0, hh, decide_eq_true hsz]
          rfl
        have hz : plN (txC (ceG g2.cs (g2.last - 1)) ++ enc1 ((runes (txC c)).getD 0 0)) g2.wd = 0 := by
          rw [htx]
          unfold plN
          rw [if_neg (fun hh => hnc hh.2.1)]
        unfold joinG
        rw [if_neg hl, hz, if_pos (by omega)]
  generalize te3 t2 i (txC c) = t3 at f3 p3 ⊢
  have hps := f3.lnk.ps (by rw [p3]; omega)
  have hxy : g3.y * g3.w + g3.x = i := by have := hps.1; rw [p3] at this; omega
  have hx := hps.2
  have hput := put_all (i := i) (s := txC c) f3.lnk.stt (by rw [s3.wd]; exact hp) (by rw [s3.cs]; exact hi) (by rw [s3.cs, s3.w, s3.h]; exact hlen) hxy hx (by rw [s3.wd, s3.w]; exact h2) (by rw [s3.cs]; exact hp0) j3
  have hmore := fed_more f3.val f3.fed hp.val
  have hwid : widK (hdK (txC c) (cnt (txC c))) g3.wd = widK (txC c) g.wd := by rw [hd_all, s3.wd]
  refine ⟨feedG g3 (runes (txC c)), ⟨hmore.1, hmore.2.symm, ?_⟩, ?_⟩
  · have hsz := one_bt hp.one
    have hbd := hp.bd
    refine ⟨hput.stt, ?_, ?_, ?_, ?_, fun hh => ?_, fun _ => ⟨?_, ?_⟩⟩
    · rw [hput.sty]; exact f3.lnk.st
    · rw [hput.w]; exact f3.lnk.w
    · rw [hput.wd]; exact f3.lnk.wd
    · show (if ((i : Int) + plN (txC c) t3.wd) % t3.w = 0 then (-1 : Int) else (i : Int) + plN (txC c) t3.wd) ≠ -1 → (if ((i : Int) + plN (txC c) t3.wd) % t3.w = 0 then (-1 : Int) else (i : Int) + plN (txC c) t3.wd) = _ ∧ _
      have ew : t3.w = g3.w := f3.lnk.w
      have ed : t3.wd = g.wd := f3.lnk.wd.trans s3.wd
      rw [ew, ed, hp.plN, hput.x, hput.y, hput.w, hwid, ← Int.natCast_add, ← Int.natCast_emod]
      have hxn : g3.x + widK (txC c) g.wd ≤ g3.w := by
        by_cases e2 : widK (txC c) g.wd = 2
        · have := h2 e2
          rw [← s3.w] at this
          have hne : g3.x + 1 ≠ g3.w := by
            intro e3
            apply this
            rw [show i + 1 = g3.w + g3.y * g3.w by omega, Nat.add_mul_mod_self_right, Nat.mod_self]
          omega
        · omega
      by_cases e : (((i + widK (txC c) g.wd) % g3.w : Nat) : Int) = 0
      · rw [if_pos e]; intro hh; exact absurd rfl hh
      · rw [if_neg e]
        intro _
        refine ⟨by omega, ?_⟩
        rcases Nat.lt_or_ge (g3.x + widK (txC c) g.wd) g3.w with h5 | h5
        · exact h5
        · exfalso; apply e
          rw [show i + widK (txC c) g.wd = g3.w + g3.y * g3.w by omega, Nat.add_mul_mod_self_right, Nat.mod_self]; rfl
    · exact absurd hh (by show ¬ (txC c).size = 0; omega)
    · rw [hput.last]; exact Nat.succ_ne_zero i
    · rw [hput.last, Nat.add_sub_cancel, hput.t, hd_all]; rfl
  · refine ⟨by rw [hput.len, s3.cs], by rw [hput.w, s3.w], by rw [hput.h, s3.h], by rw [hput.wd, s3.wd], by rw [hput.hid, s3.hid], hput.p, by rw [hput.t, hd_all], by rw [hput.st, q3], fun j hj => by rw [hput.low j hj, s3.cs], fun j hj hn hpj => ?_⟩
    rw [hput.high j hj (fun e => hn (by rw [hp.plN, ← hwid]; exact e)) (by rw [s3.cs]; exact hpj), s3.cs]
end Go.Proofs.YtjdohhididpomaaDoor
end

section
namespace Go.Proofs.YtjdohhididpomaaDoor
open Go Vc Ut Tb Cl Orb
structure LoopI (b : List Ce) (g0 g1 : Gs) (t : Te) (g : Gs) (i : Nat) : Prop where
  fed : Fed g0 t g
  w : g.w = g1.w
  h : g.h = g1.h
  wd : g.wd = g1.wd
  len : g.cs.length = b.length
  pre : ∀ j, j < i → alikeB (ceG g.cs j) (ceG b j) = true
  post : ∀ j, i ≤ j → (ceG b j).p = 0 → (ceG g1.cs j).p = 0 → ceG g.cs j = ceG g1.cs j
theorem loop_step {kn : Bool} {a b : List Ce} {g0 g1 g : Gs} {t0 : Te} {m i : Nat} (h0 : okG g0 m) (hb : okL b g1.w g1.wd) (hst : ∀ c ∈ b, c.st < 65536)
    (hk : kn = true → ∀ j, j < b.length → alikeB (ceG g1.cs j) (ceG a j) = true) (hi : i < b.length) (h : LoopI b g0 g1 (loopT kn a b t0 i) g i) : ∃ g', LoopI b g0 g1 (loopT kn a b t0 (i + 1)) g' (i + 1) := by
  have hok := h.fed.ok h0
  have hg := hok.ok
  have hlen := h.len
  have hbi := hb i hi
  simp only [loopT]
  by_cases hT : tellsB kn a b i = true
  · rw [if_pos hT]
    have hp : (ceG b i).p = 0 := by
      unfold tellsB at hT
      rw [Bool.and_eq_true] at hT
      exact beq_iff_eq.1 hT.1
    have h2 := okAt_two hb hi hp
    have hpl : plN (txC (ceG b i)) g.wd ≠ 0 := by rw [h.wd]; rcases h2 with h2 | h2 <;> omega
    have hp0 : (ceG g.cs i).p = 0 := by
      have hgi := hg i (by omega)
      unfold okAt at hgi
      split at hgi
      · exfalso
        obtain ⟨k1, k2, k3⟩ := hgi
        obtain ⟨e1, -, e3⟩ := alike_iff.1 (h.pre (i - 1) (by omega))
        have hb1 := okAt_two (i := i - 1) hb (by omega) (by rw [← e1]; exact k2)
        rw [← e3, ← h.wd, k3] at hb1
        rcases hb1 with hb1 | hb1
        · omega
        · have := hb1.2.2.2.1
          rw [show i - 1 + 1 = i by omega, hp] at this
          exact absurd this (by decide)
      · exact hgi.1
    obtain ⟨g', f', d'⟩ := h.fed.tell (i := i) (c := ceG b i) h0 (by omega) (hst _ (ceG_mem hi)) (plain_of hpl) (fun e => by
      rw [h.wd] at e
      rw [h.w]
      rcases h2 with h2 | h2
      · omega
      · exact h2.2.1) hp0
    refine ⟨g', f', d'.w.trans h.w, d'.h.trans h.h, d'.wd.trans h.wd, d'.len.trans h.len, fun j hj => ?_, fun j hj hbj hgj => ?_⟩
    · by_cases e : j = i
      · rw [e]
        exact alike_iff.2 ⟨by rw [d'.p, hp], d'.st, d'.t⟩
      · rw [d'.low j (by omega)]
        exact h.pre j (by omega)
    · have hs := h.post j (by omega) hbj hgj
      rw [d'.high j (by omega) (fun e he => ?_) (by rw [hs]; exact hgj), hs]
      rw [h.wd] at e
      rcases h2 with h2 | h2
      · omega
      · rw [he, h2.2.2.2.1] at hbj
        exact absurd hbj (by decide)
  · rw [if_neg hT]
    refine ⟨g, h.fed, h.w, h.h, h.wd, h.len, fun j hj => ?_, fun j hj => h.post j (by omega)⟩
    by_cases e : j = i
    rotate_left
    · exact h.pre j (by omega)
    rw [e]
    unfold okAt at hbi
    split at hbi
    · rename_i hp1
      obtain ⟨k1, k2, k3⟩ := hbi
      have hb1 := okAt_two (i := i - 1) hb (by omega) k2
      obtain ⟨e1, e2, e3⟩ := alike_iff.1 (h.pre (i - 1) (by omega))
      have hg1 := okAt_two (i := i - 1) hg (by omega) (by rw [e1]; exact k2)
      rw [show i - 1 + 1 = i by omega] at hb1 hg1
      rw [e3, h.wd, k3] at hg1
      rcases hg1 with hg1 | hg1
      · omega
      rcases hb1 with hb1 | hb1
      · omega
      have tx1 : ∀ c : Ce, c.p = 1 → c.t.size = 0 → txC c = ⟨#[]⟩ := fun c hp hs => by
        unfold txC
        rw [if_neg (fun hh => by have := hh.1; rw [hp] at this; exact absurd this (by decide)), size_zero hs]
      refine alike_iff.2 ⟨by rw [hg1.2.2.2.1, hp1], ?_, ?_⟩
      · rw [hg1.2.2.2.2.1, hb1.2.2.2.2.1, e2]
      · rw [tx1 _ hg1.2.2.2.1 hg1.2.2.2.2.2, tx1 _ hp1 hb1.2.2.2.2.2]
    · have hp := hbi.1
      unfold tellsB at hT
      rw [hp] at hT
      simp only [beq_self_eq_true, Bool.true_and, Bool.or_eq_true, Bool.not_eq_true', not_or, Bool.not_eq_true, Bool.not_eq_false] at hT
      obtain ⟨t1, t2, -⟩ := hT
      obtain ⟨a1, a2, a3⟩ := alike_iff.1 t2
      obtain ⟨c1, c2, c3⟩ := alike_iff.1 (hk t1 i hi)
      rw [h.post i (Nat.le_refl _) hp (by rw [c1, a1, hp])]
      exact alike_iff.2 ⟨c1.trans a1, c2.trans a2, c3.trans a3⟩
theorem loop_all {kn : Bool} {a b : List Ce} {g0 g1 : Gs} {t0 : Te} {m : Nat} (h0 : okG g0 m) (hb : okL b g1.w g1.wd) (hst : ∀ c ∈ b, c.st < 65536)
    (hk : kn = true → ∀ j, j < b.length → alikeB (ceG g1.cs j) (ceG a j) = true) (hl : g1.cs.length = b.length) (hf : Fed g0 t0 g1) : ∀ i, i ≤ b.length → ∃ g, LoopI b g0 g1 (loopT kn a b t0 i) g i
  | 0, _ => ⟨g1, hf, rfl, rfl, rfl, hl, fun j hj => by omega, fun _ _ _ _ => rfl⟩
  | i + 1, hi => by
    obtain ⟨g, hg⟩ := loop_all h0 hb hst hk hl hf i (by omega)
    exact loop_step h0 hb hst hk (by omega) hg
theorem fed_beg {g0 : Gs} {b : Gr} {wd kn : Bool} (hs : g0.stt = 0) (hw : b.w = g0.w) (hd : wd = g0.wd) : Fed g0 (begT kn b wd) (if kn then weaG g0 0 else clrG (weaG g0 0)) := by
  have h1 : Fed g0 (wearT ⟨⟨#[]⟩, -1, ⟨#[]⟩, 0, b.w, wd⟩ 0) (weaG g0 0) := by
    have := fed_more (g0 := g0) (g := g0) (a := ⟨#[]⟩) (b := sayB 109 (wearN 0)) none_asc.1 (by rw [none_asc.2]; rfl) (say_asc (c := 109) (by decide) (wearN_dig (by decide))).1
    exact ⟨this.1, by rw [← wea_feed hs (by decide), ← this.2]; rfl, ⟨rfl, rfl, hw, hd, fun hh => absurd rfl hh, fun _ => rfl, fun hh => absurd rfl hh⟩⟩
  unfold begT
  cases kn
  · exact h1.clear rfl
  · exact h1
theorem clr_f (g : Gs) : (clrG g).w = g.w ∧ (clrG g).h = g.h ∧ (clrG g).wd = g.wd ∧ (clrG g).cs = List.replicate g.cs.length (blkC 0) := by
  unfold clrG backG; split <;> exact ⟨rfl, rfl, rfl, rfl⟩
theorem grid_x (g : Gs) : (gridG g).x = if g.hid = false ∧ g.cs ≠ [] then (min (g.x : Int) ((g.w : Int) - 1)) else -1 := rfl
theorem grid_y (g : Gs) : (gridG g).y = if g.hid = false ∧ g.cs ≠ [] then (g.y : Int) else -1 := rfl
theorem diff_shows {g0 : Gs} {m : Nat} {a b : Gr} {wd : Bool} {s : ByteArray} (hg : okG g0 m) (hs : g0.stt = 0) (hd : wd = g0.wd) (hw : b.w = g0.w) (hh : b.h = g0.h) (hb : rightB b wd = true) (hst : ∀ c ∈ b.cs, c.st < 65536)
    (hk : knownG a b wd = true → samL g0.cs a.cs = true) (hD : diffB a b wd = some s) :
    validB s = true ∧ sameB (gridG (feedG g0 (runes s))) b = true ∧ (feedG g0 (runes s)).stt = 0 := by
  obtain ⟨b1, b2, b3, b4, b5, b6, b7⟩ := right_facts hb
  have hlen : g0.cs.length = b.cs.length := by
    have h1 := hg.len
    rw [hw, hh, ← Int.natCast_mul] at b5
    omega
  have hokb : okL b.cs g0.w g0.wd := by
    rw [hw, Int.toNat_natCast, hd] at b7
    exact rgt_iff.1 b7
  unfold diffB at hD
  split at hD
  · cases hD
  have hD := Option.some.inj hD
  have hf := fed_beg (kn := knownG a b wd) hs hw hd
  have hc := clr_f (weaG g0 0)
  generalize hkn : knownG a b wd = kn at hD hf hk
  generalize hg1 : (if kn = true then weaG g0 0 else clrG (weaG g0 0)) = g1 at hf
  have f1 : g1.w = g0.w ∧ g1.h = g0.h ∧ g1.wd = g0.wd ∧ g1.cs.length = g0.cs.length ∧ (kn = true → g1.cs = g0.cs) := by
    cases kn
    · rw [if_neg (by decide)] at hg1
      rw [← hg1, hc.1, hc.2.1, hc.2.2.1, hc.2.2.2, List.length_replicate]
      exact ⟨rfl, rfl, rfl, rfl, fun h => by cases h⟩
    · rw [if_pos rfl] at hg1
      rw [← hg1]; exact ⟨rfl, rfl, rfl, rfl, fun _ => rfl⟩
  obtain ⟨e1, e2, e3, e4, e5⟩ := f1
  obtain ⟨g, hL⟩ := loop_all (kn := kn) (a := a.cs) (b := b.cs) (t0 := begT kn b wd) hg (by rw [e1, e3]; exact hokb) hst (fun h j hj => by
    have h1 := (sam_iff.1 (hk h)).2 j (by omega)
    rw [e5 h]; exact h1) (by omega) hf b.cs.length (Nat.le_refl _)
  generalize loopT kn a.cs b.cs (begT kn b wd) b.cs.length = t at hD hL
  have hF := hL.fed
  have hok := hF.ok hg
  have hgl := hL.len
  have hsam : samL g.cs b.cs = true := sam_iff.2 ⟨hgl, fun j hj => hL.pre j (by omega)⟩
  have gw : (g.w : Int) = b.w := by rw [hL.w, e1, hw]
  have gh : (g.h : Int) = b.h := by rw [hL.h, e2, hh]
  have cur : ((b.x = -1 ∧ b.y = -1) ∨ (0 ≤ b.x ∧ b.x < b.w ∧ 0 ≤ b.y ∧ b.y < b.h)) := by
    unfold curB at b6
    simpa only [Bool.or_eq_true, Bool.and_eq_true, beq_iff_eq, decide_eq_true_eq] using b6
  have same : ∀ g' : Gs, g'.w = g.w → g'.h = g.h → g'.cs = g.cs → (gridG g').x = b.x → (gridG g').y = b.y → sameB (gridG g') b = true := fun g' k1 k2 k3 k4 k5 => by
    rw [same_is (by show (g'.w : Int) = b.w; rw [k1, gw]) (by show (g'.h : Int) = b.h; rw [k2, gh]) k4 k5]
    show samL g'.cs b.cs = true
    rw [k3]; exact hsam
  unfold endT at hD
  by_cases hx : b.x < 0
  · rw [if_pos hx] at hD
    have hD : t.b ++ ⟨#[27, 91, 63, 50, 53, if true then 108 else 104]⟩ = s := hD
    have hm := fed_more hF.val hF.fed (shw_asc true).1
    rw [hD, shw_feed hF.lnk.stt] at hm
    refine ⟨hm.1, ?_, by rw [hm.2]; rfl⟩
    rw [hm.2]
    have hcur : b.x = -1 ∧ b.y = -1 := by
      rcases cur with c | c
      · exact c
      · omega
    refine same _ rfl rfl rfl ?_ ?_
    · rw [hcur.1, grid_x]
      rw [if_neg (fun hh => by have := hh.1; cases this)]
    · rw [hcur.2, grid_y]
      rw [if_neg (fun hh => by have := hh.1; cases this)]
  · rw [if_neg hx] at hD
    have hcur : 0 ≤ b.x ∧ b.x < b.w ∧ 0 ≤ b.y ∧ b.y < b.h := by
      rcases cur with c | c
      · omega
      · exact c
    obtain ⟨x, hxe⟩ : ∃ x : Nat, b.x = x := ⟨b.x.toNat, by omega⟩
    obtain ⟨y, hye⟩ : ∃ y : Nat, b.y = y := ⟨b.y.toNat, by omega⟩
    have hxw : x < g.w := by omega
    have hyh : y < g.h := by omega
    have hlt : y * g.w + x < g.w * g.h := by
      have : (y + 1) * g.w ≤ g.h * g.w := Nat.mul_le_mul_right _ hyh
      rw [Nat.add_mul, Nat.one_mul, Nat.mul_comm g.h] at this
      omega
    have hi : b.y * t.w + b.x = ((y * g.w + x : Nat) : Int) := by
      rw [hF.lnk.w, hxe, hye, Int.natCast_add, Int.natCast_mul]
    have hm := fed_more hF.val hF.fed (shw_asc false).1
    rw [shw_feed hF.lnk.stt] at hm
    have hmv := fed_move (t := { t with b := t.b ++ ⟨#[27, 91, 63, 50, 53, if false then 108 else 104]⟩ }) (g := hidG g false) (i := y * g.w + x) hm.1 hm.2.symm rfl hF.lnk.w hok.w hok.h hlt
    have hD : (moveT { t with b := t.b ++ ⟨#[27, 91, 63, 50, 53, if false then 108 else 104]⟩ } (b.y * t.w + b.x)).b = s := hD
    rw [hi] at hD
    rw [hD] at hmv
    refine ⟨hmv.1, ?_, by rw [← hmv.2]; rfl⟩
    rw [← hmv.2]
    have hcs : g.cs ≠ [] := by
      intro hh
      have := hok.len
      rw [hh, List.length_nil] at this
      omega
    have hw0 : 0 < g.w := by omega
    have m1 : (movG (hidG g false) (y * g.w + x)).x = x := by
      show (y * g.w + x) % g.w = x
      rw [Nat.add_comm, Nat.add_mul_mod_self_right, Nat.mod_eq_of_lt hxw]
    have m2 : (movG (hidG g false) (y * g.w + x)).y = y := by
      show (y * g.w + x) / g.w = y
      rw [Nat.add_comm, Nat.add_mul_div_right _ _ hw0, Nat.div_eq_of_lt hxw, Nat.zero_add]
    refine same _ rfl rfl rfl ?_ ?_
    · rw [grid_x, if_pos ⟨rfl, hcs⟩, m1, hxe]
      show min (x : Int) ((g.w : Int) - 1) = x
      omega
    · rw [grid_y, if_pos ⟨rfl, hcs⟩, m2, hye]
theorem grid_right {g : Gs} {m : Nat} (h : okG g m) : rightB (gridG g) g.wd = true := by
  have hw := h.w; have hh := h.h; have hl := h.len
  unfold rightB
  simp only [Bool.and_eq_true, beq_iff_eq]
  refine ⟨decide_eq_true (show (0 : Int) ≤ (g.w : Int) ∧ (g.w : Int) ≤ 1024 ∧ (0 : Int) ≤ (g.h : Int) ∧ (g.h : Int) ≤ 1024 by omega), ?_, ?_, ?_⟩
  · show (g.cs.length : Int) = g.w * g.h
    rw [hl, Int.natCast_mul]
  · unfold curB gridG
    dsimp only
    by_cases hc : g.hid = false ∧ g.cs ≠ []
    · rw [if_pos hc, if_pos hc]
      have h0 : 0 < g.w * g.h := by rw [← hl]; exact List.length_pos_iff.2 hc.2
      have hw0 := pos_w h0
      have hh0 : 0 < g.h := by
        rcases Nat.eq_zero_or_pos g.h with e | e
        · rw [e, Nat.mul_zero] at h0; omega
        · exact e
      have hx := h.x
      have hy : g.y < g.h := by
        rcases h.y with e | e
        · exact e
        · omega
      rw [Bool.or_eq_true]
      right
      exact decide_eq_true (by omega)
    · rw [if_neg hc, if_neg hc]; rfl
  · show rgtL (g.w : Int).toNat g.wd g.cs 0 = true
    rw [Int.toNat_natCast]
    exact rgt_iff.2 h.ok
end Go.Proofs.YtjdohhididpomaaDoor
end
