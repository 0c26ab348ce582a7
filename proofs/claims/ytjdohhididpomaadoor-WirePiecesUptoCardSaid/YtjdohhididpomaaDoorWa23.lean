/-
  Texts joined by program: VgXr, WkYb, Lw, Bulk, U8, U9.
-/
import Derived.Test.YtjdohhididpomaaDoorWa22
import Derived.Test.YtjdohhididpomaaDoorProg
import Derived.KernelRfl
import Derived.Test.YtjdohhididpomaaDoorWa17
import Derived.Test.YtjdohhididpomaaDoorRows
import Derived.Test.YtjdohhididpomaaDoorWa03
import Derived.WalkKit
import Derived.ProofKit
import Derived.OpenShut
import Derived.JoinedCond
import Derived.SizedLaws
import Derived.Carry
import Derived.Test.YtjdohhididpomaaDoorWa09
import Derived.Lib.LaidIn
import Derived.Lib.LaidU8
import Derived.Test.YtjdohhididpomaaDoorWa10
set_option linter.unusedVariables false
set_option linter.unusedSimpArgs false

section
set_option linter.unusedVariables false
namespace Go.Proofs.YtjdohhididpomaaDoor
open Go Go.RowKit Vc Ut Tb Cl
set_option maxRecDepth 1000000 in
theorem nilK_vc (hsp : SpecsOk Tryd.prog spNilK) (h : ∀ (g : GNil) (w : World), UP w ∧ sizeB g.w g.h = true → ∃ (g1 : Option Addr × Nat × Nat), #[Value.pointer none, Value.slice g.ad g.n g.c] = #[Value.pointer none, Value.slice g1.fst g1.snd.fst g1.snd.snd] ∧ True ∧ ∀ (x : Unit) (w' : World), Ext w w' → ∃ (g2 : Unit), #[Value.pointer none] = #[Value.pointer none] ∧ True ∧ ∀ (x1 : Unit) (w'1 : World), Ext w' w'1 → ∀ (b : Nat) (w1 : World), New w'1 (Obj.cells #[Value.int .i64 0, Value.int .i64 0, Value.slice none (0 : Nat) (0 : Nat), Value.int .i64 0, Value.int .i64 0] (27 : Nat)) b w1 → ∃ (g3 : Nat × Nat × Bool), #[Value.int .i64 g.w, Value.int .i64 g.h, Value.bool g.wd] = #[Value.int .i64 (↑g3.fst : Int), Value.int .i64 (↑g3.snd.fst : Int), Value.bool g3.snd.snd] ∧ (UDB w1.heap.size w1 ∧ g3.fst ≤ 1024 ∧ g3.snd.fst ≤ 1024) ∧ ∀ (x2 : GlP) (w'2 : World), Ext w1 w'2 ∧ x2.B = w1.heap.size ∧ GlIn w'2 x2 (newG g3.fst g3.snd.fst g3.snd.snd) ∧ GlRd w'2 x2 none (0 : Nat) (ByteArray.mk #[]) → ∃ (n : Int), w'2.cell? ⟨b, 0, none⟩ = some (Value.int .i64 n) ∧ ∃ (n1 : Int), w'2.cell? ⟨b, 1, none⟩ = some (Value.int .i64 n1) ∧ ∃ (a5 : Option Addr) (n2 : Nat) (c : Nat), w'2.cell? ⟨b, 2, none⟩ = some (Value.slice a5 n2 c) ∧ ∃ (n3 : Int), w'2.cell? ⟨b, 3, none⟩ = some (Value.int .i64 n3) ∧ ∃ (n4 : Int), w'2.cell? ⟨b, 4, none⟩ = some (Value.int .i64 n4) ∧ ∃ (g4 : GGg), #[Value.agg #[Value.int .i64 n, Value.int .i64 n1, Value.slice a5 n2 c, Value.int .i64 n3, Value.int .i64 n4], Value.agg #[Value.int .i64 0, Value.int .i64 0, Value.slice none (0 : Nat) (0 : Nat), Value.int .i64 0, Value.int .i64 0]] = #[Value.agg #[Value.int .i64 g4.g1.w, Value.int .i64 g4.g1.h, Value.slice g4.a1 g4.g1.cs.length g4.c1, Value.int .i64 g4.g1.x, Value.int .i64 g4.g1.y], Value.agg #[Value.int .i64 g4.g2.w, Value.int .i64 g4.g2.h, Value.slice g4.a2 g4.g2.cs.length g4.c2, Value.int .i64 g4.g2.x, Value.int .i64 g4.g2.y]] ∧ (grIn w'2 g4.a1 g4.g1.cs ∧ grIn w'2 g4.a2 g4.g2.cs) ∧ ∀ (x3 : Bool) (w'3 : World), x3 = likeB g4.g1 g4.g2 ∧ Ext w'2 w'3 → bcase x3 (bcase ((!(some (⟨x2.p, 0, none⟩ : Addr)).isNone) == (decide (g.w ≥ (0 : Int)) && (decide (g.w ≤ (1024 : Int)) && (decide (g.h ≥ (0 : Int)) && decide (g.h ≤ (1024 : Int)))))) (bcase (((0 : Int) == (0 : Int)) == (decide (g.w ≥ (0 : Int)) && (decide (g.w ≤ (1024 : Int)) && (decide (g.h ≥ (0 : Int)) && decide (g.h ≤ (1024 : Int)))))) (bcase (decide (g.w ≥ (0 : Int)) && (decide (g.w ≤ (1024 : Int)) && (decide (g.h ≥ (0 : Int)) && decide (g.h ≤ (1024 : Int))))) (∃ (g5 : Unit), (#[] : Array Value) = #[] ∧ UP w'3 ∧ ∀ (x4 : Unit) (w'4 : World), Ext w'3 w'4 → ∃ (x5 : Unit), Value.bool true = Value.bool true ∧ Ext w w'4) (∃ (x4 : Unit), Value.bool false = Value.bool true ∧ Ext w w'3)) (∃ (x4 : Unit), Value.bool false = Value.bool true ∧ Ext w w'3)) (∃ (x4 : Unit), Value.bool false = Value.bool true ∧ Ext w w'3)) (∃ (x4 : Unit), Value.bool false = Value.bool true ∧ Ext w w'3)) :
    ((sLawNil true)).Ok Tryd.prog 5 :=
  ok_of_vc (sLawNil true) (annOf spNilK) spNilK (fun _ _ => rfl) (fun _ _ => rfl) hsp Tryd.func5 rfl (n := 4) (fun _ => rfl) (by kernel_rfl) (vcast (by kernel_rfl) h)
set_option maxRecDepth 1000000 in
theorem nilB_vc (hsp : SpecsOk Tryd.prog spNilB) (h : ∀ (g : GNil) (w : World), UP w ∧ sizeB g.w g.h = false → ∃ (g1 : Option Addr × Nat × Nat), #[Value.pointer none, Value.slice g.ad g.n g.c] = #[Value.pointer none, Value.slice g1.fst g1.snd.fst g1.snd.snd] ∧ True ∧ ∀ (x : Unit) (w' : World), Ext w w' → ∃ (g2 : Unit), #[Value.pointer none] = #[Value.pointer none] ∧ True ∧ ∀ (x1 : Unit) (w'1 : World), Ext w' w'1 → ∀ (b : Nat) (w1 : World), New w'1 (Obj.cells #[Value.int .i64 0, Value.int .i64 0, Value.slice none (0 : Nat) (0 : Nat), Value.int .i64 0, Value.int .i64 0] (27 : Nat)) b w1 → ∃ (g3 : Int × Int × Bool), #[Value.int .i64 g.w, Value.int .i64 g.h, Value.bool g.wd] = #[Value.int .i64 g3.fst, Value.int .i64 g3.snd.fst, Value.bool g3.snd.snd] ∧ (UDB w1.heap.size w1 ∧ sizeB g3.fst g3.snd.fst = false) ∧ ∀ (x2 : Unit) (w'2 : World), Ext w1 w'2 → ∃ (n : Int), w'2.cell? ⟨b, 0, none⟩ = some (Value.int .i64 n) ∧ ∃ (n1 : Int), w'2.cell? ⟨b, 1, none⟩ = some (Value.int .i64 n1) ∧ ∃ (a5 : Option Addr) (n2 : Nat) (c : Nat), w'2.cell? ⟨b, 2, none⟩ = some (Value.slice a5 n2 c) ∧ ∃ (n3 : Int), w'2.cell? ⟨b, 3, none⟩ = some (Value.int .i64 n3) ∧ ∃ (n4 : Int), w'2.cell? ⟨b, 4, none⟩ = some (Value.int .i64 n4) ∧ ∃ (g4 : GGg), #[Value.agg #[Value.int .i64 n, Value.int .i64 n1, Value.slice a5 n2 c, Value.int .i64 n3, Value.int .i64 n4], Value.agg #[Value.int .i64 0, Value.int .i64 0, Value.slice none (0 : Nat) (0 : Nat), Value.int .i64 0, Value.int .i64 0]] = #[Value.agg #[Value.int .i64 g4.g1.w, Value.int .i64 g4.g1.h, Value.slice g4.a1 g4.g1.cs.length g4.c1, Value.int .i64 g4.g1.x, Value.int .i64 g4.g1.y], Value.agg #[Value.int .i64 g4.g2.w, Value.int .i64 g4.g2.h, Value.slice g4.a2 g4.g2.cs.length g4.c2, Value.int .i64 g4.g2.x, Value.int .i64 g4.g2.y]] ∧ (grIn w'2 g4.a1 g4.g1.cs ∧ grIn w'2 g4.a2 g4.g2.cs) ∧ ∀ (x3 : Bool) (w'3 : World), x3 = likeB g4.g1 g4.g2 ∧ Ext w'2 w'3 → bcase x3 (bcase ((!(none : Option Addr).isNone) == (decide (g.w ≥ (0 : Int)) && (decide (g.w ≤ (1024 : Int)) && (decide (g.h ≥ (0 : Int)) && decide (g.h ≤ (1024 : Int)))))) (bcase (((5 : Int) == (0 : Int)) == (decide (g.w ≥ (0 : Int)) && (decide (g.w ≤ (1024 : Int)) && (decide (g.h ≥ (0 : Int)) && decide (g.h ≤ (1024 : Int)))))) (bcase (decide (g.w ≥ (0 : Int)) && (decide (g.w ≤ (1024 : Int)) && (decide (g.h ≥ (0 : Int)) && decide (g.h ≤ (1024 : Int))))) (∃ (g5 : Unit), (#[] : Array Value) = #[] ∧ UP w'3 ∧ ∀ (x4 : Unit) (w'4 : World), Ext w'3 w'4 → ∃ (x5 : Unit), Value.bool true = Value.bool true ∧ Ext w w'4) (∃ (g5 : Unit), (#[] : Array Value) = #[] ∧ UP w'3 ∧ ∀ (x4 : Unit) (w'4 : World), Ext w'3 w'4 → ∃ (x5 : Unit), Value.bool true = Value.bool true ∧ Ext w w'4)) (∃ (x4 : Unit), Value.bool false = Value.bool true ∧ Ext w w'3)) (∃ (x4 : Unit), Value.bool false = Value.bool true ∧ Ext w w'3)) (∃ (x4 : Unit), Value.bool false = Value.bool true ∧ Ext w w'3)) :
    ((sLawNil false)).Ok Tryd.prog 5 :=
  ok_of_vc (sLawNil false) (annOf spNilB) spNilB (fun _ _ => rfl) (fun _ _ => rfl) hsp Tryd.func5 rfl (n := 4) (fun _ => rfl) (by kernel_rfl) (vcast (by kernel_rfl) h)
set_option maxRecDepth 1000000 in
theorem pcsB_vc (hsp : SpecsOk Tryd.prog spPcsB) (h : ∀ (g : GPcs) (w : World), UP w ∧ sizeB g.w g.h = false ∧ CellsAt w g.ad (List.map peV g.l) ∧ (∀ (e : PcE), e ∈ g.l → CellsAt w e.ad (bytesV e.b)) ∧ bulkP g.l ≤ 1048576 → ∃ (g1 : Unit), (#[] : Array Value) = #[] ∧ UP w ∧ ∀ (x : Unit) (w' : World), Ext w w' → ∃ (g2 : Int × Int × Bool), #[Value.int .i64 g.w, Value.int .i64 g.h, Value.bool g.wd] = #[Value.int .i64 g2.fst, Value.int .i64 g2.snd.fst, Value.bool g2.snd.snd] ∧ (UDB w'.heap.size w' ∧ sizeB g2.fst g2.snd.fst = false) ∧ ∀ (x1 : Unit) (w'1 : World), Ext w' w'1 → ∃ (g3 : Int × Int × Bool), #[Value.int .i64 g.w, Value.int .i64 g.h, Value.bool g.wd] = #[Value.int .i64 g3.fst, Value.int .i64 g3.snd.fst, Value.bool g3.snd.snd] ∧ (UDB w'1.heap.size w'1 ∧ sizeB g3.fst g3.snd.fst = false) ∧ ∀ (x2 : Unit) (w'2 : World), Ext w'1 w'2 → ∃ (x3 : Unit), Value.bool true = Value.bool true ∧ Ext w w'2) :
    ((sPcs false)).Ok Tryd.prog 4 :=
  ok_of_vc (sPcs false) (annPcs spPcsB) spPcsB (fun _ _ => rfl) (fun _ _ => rfl) hsp Tryd.func4 rfl (n := 4) (fun _ => rfl) (by kernel_rfl) (vcast (by kernel_rfl) h)
set_option maxRecDepth 1000000 in
theorem pcsK_vc (hsp : SpecsOk Tryd.prog spPcsK) (h : ∀ (g : GPcs) (w : World), UP w ∧ sizeB g.w g.h = true ∧ CellsAt w g.ad (List.map peV g.l) ∧ (∀ (e : PcE), e ∈ g.l → CellsAt w e.ad (bytesV e.b)) ∧ bulkP g.l ≤ 1048576 → ∃ (g1 : Unit), (#[] : Array Value) = #[] ∧ UP w ∧ ∀ (x : Unit) (w' : World), Ext w w' → ∃ (g2 : Nat × Nat × Bool), #[Value.int .i64 g.w, Value.int .i64 g.h, Value.bool g.wd] = #[Value.int .i64 (↑g2.fst : Int), Value.int .i64 (↑g2.snd.fst : Int), Value.bool g2.snd.snd] ∧ (UDB w'.heap.size w' ∧ g2.fst ≤ 1024 ∧ g2.snd.fst ≤ 1024) ∧ ∀ (x1 : GlP) (w'1 : World), Ext w' w'1 ∧ x1.B = w'.heap.size ∧ GlIn w'1 x1 (newG g2.fst g2.snd.fst g2.snd.snd) ∧ GlRd w'1 x1 none (0 : Nat) (ByteArray.mk #[]) → ∃ (g3 : Nat × Nat × Bool), #[Value.int .i64 g.w, Value.int .i64 g.h, Value.bool g.wd] = #[Value.int .i64 (↑g3.fst : Int), Value.int .i64 (↑g3.snd.fst : Int), Value.bool g3.snd.snd] ∧ (UDB w'1.heap.size w'1 ∧ g3.fst ≤ 1024 ∧ g3.snd.fst ≤ 1024) ∧ ∀ (x2 : GlP) (w'2 : World), Ext w'1 w'2 ∧ x2.B = w'1.heap.size ∧ GlIn w'2 x2 (newG g3.fst g3.snd.fst g3.snd.snd) ∧ GlRd w'2 x2 none (0 : Nat) (ByteArray.mk #[]) → (∃ (x3 : PcX), Value.int .i64 0 = Value.int .i64 (↑x3.i : Int) ∧ Value.int .i64 0 = Value.int .i64 (↑(bulkP (List.take x3.i g.l)) : Int) ∧ Value.slice none (0 : Nat) (0 : Nat) = Value.slice x3.aa (catP (List.take x3.i g.l)).size x3.ca ∧ PcI g w x3 w'2 (Value.pointer (some ⟨x1.p, 0, none⟩)) (Value.pointer (some ⟨x2.p, 0, none⟩))) ∧ ∀ (u : Nat → Value) (x3 : PcX) (w'3 : World), PcI g w x3 w'3 (Value.pointer (some ⟨x1.p, 0, none⟩)) (Value.pointer (some ⟨x2.p, 0, none⟩)) → bcase (decide ((↑x3.i : Int) < (↑g.l.length : Int))) (∃ (k : Nat), (↑x3.i : Int) = (↑k : Int) ∧ k < g.l.length ∧ ptrE g.ad fun (b o : Nat) => ∃ (a5 : Option Addr) (n : Nat) (c : Nat), w'3.cell? ⟨b, o + k, none⟩ = some (Value.slice a5 n c) ∧ InR .i64 ((1 : Int) + (↑n : Int)) ∧ InR .i64 ((↑(bulkP (List.take x3.i g.l)) : Int) + ((1 : Int) + (↑n : Int))) ∧ bcase (decide ((↑(bulkP (List.take x3.i g.l)) : Int) + ((1 : Int) + (↑n : Int)) > (1048576 : Int))) (∃ (x4 : Unit), Value.bool true = Value.bool true ∧ Ext w w'3) (∃ (k1 : Nat), (↑x3.i : Int) = (↑k1 : Int) ∧ k1 < g.l.length ∧ ptrE g.ad fun (b1 o1 : Nat) => ∃ (a6 : Option Addr) (n1 : Nat) (c1 : Nat), w'3.cell? ⟨b1, o1 + k1, none⟩ = some (Value.slice a6 n1 c1) ∧ ∃ (g4 : GFd), #[Value.pointer (some ⟨x1.p, 0, none⟩), Value.slice a6 n1 c1] = #[Value.pointer (some ⟨g4.A.p, 0, none⟩), Value.slice g4.ad g4.b.size g4.c] ∧ (GlIn w'3 g4.A g4.g ∧ okG g4.g g4.m ∧ GlRd w'3 g4.A g4.ha g4.hc g4.h ∧ CellsAt w'3 g4.ad (bytesV g4.b) ∧ g4.b.size ≤ 67108864 ∧ g4.m + 3 + g4.b.size ≤ 549755813888) ∧ ∀ (x4 : GlP × Option Addr × Nat) (w'4 : World), FdOut w'3 w'4 g4.A g4.ha g4.h x4.fst x4.snd.fst x4.snd.snd (feedG g4.g (fdR (g4.h ++ g4.b))) (fdH (g4.h ++ g4.b)) → ∃ (k2 : Nat), (↑x3.i : Int) = (↑k2 : Int) ∧ k2 < g.l.length ∧ ptrE g.ad fun (b2 o2 : Nat) => ∃ (a8 : Option Addr) (n2 : Nat) (c2 : Nat), w'4.cell? ⟨b2, o2 + k2, none⟩ = some (Value.slice a8 n2 c2) ∧
 ∃ (a' : Option Addr) (c' : Nat) (w'5 : World), AppRun Tryd.prog #[(30 : Nat), (30 : Nat)] (30 : Nat) (Value.slice x3.aa (catP (List.take x3.i g.l)).size x3.ca) (Value.slice a8 n2 c2) w'4 a' ((catP (List.take x3.i g.l)).size + n2) c' w'5 ∧ KO w'4 w'5 ∧ InR .i64 (g.w * g.h) ∧ bcase (decide (g.w * g.h ≤ (256 : Int))) (∃ (g5 : GGl), #[Value.pointer (some ⟨x1.p, 0, none⟩)] = #[Value.pointer (some ⟨g5.A.p, 0, none⟩)] ∧ (GlIn w'5 g5.A g5.g ∧ fitG g5.g) ∧ ∀ (x5 : (Option Addr × Nat) × Gr) (w'6 : World), gdOut g5.g w'5 w'6 x5 → ∃ (g6 : GGr), #[Value.agg #[Value.int .i64 x5.snd.w, Value.int .i64 x5.snd.h, Value.slice x5.fst.fst x5.snd.cs.length x5.fst.snd, Value.int .i64 x5.snd.x, Value.int .i64 x5.snd.y], Value.bool g.wd] = #[Value.agg #[Value.int .i64 g6.g.w, Value.int .i64 g6.g.h, Value.slice g6.ad g6.g.cs.length g6.c, Value.int .i64 g6.g.x, Value.int .i64 g6.g.y], Value.bool g6.wd] ∧ (UD w'6 ∧ grIn w'6 g6.ad g6.g.cs) ∧ ∀ (x6 : Bool) (w'7 : World), x6 = rightB g6.g g6.wd ∧ Ext w'6 w'7 → bcase (!x6) (∃ (x7 : Unit), Value.bool false = Value.bool true ∧ Ext w w'7) (InR .i64 ((↑x3.i : Int) + (1 : Int)) ∧ ∃ (y : PcX), Value.int .i64 ((↑x3.i : Int) + (1 : Int)) = Value.int .i64 (↑y.i : Int) ∧ Value.int .i64 ((↑(bulkP (List.take x3.i g.l)) : Int) + ((1 : Int) + (↑n : Int))) = Value.int .i64 (↑(bulkP (List.take y.i g.l)) : Int) ∧ Value.slice a' ((catP (List.take x3.i g.l)).size + n2) c' = Value.slice y.aa (catP (List.take y.i g.l)).size y.ca ∧ PcI g w y w'7 (Value.pointer (some ⟨x1.p, 0, none⟩)) (Value.pointer (some ⟨x2.p, 0, none⟩)) ∧ g.l.length - y.i < g.l.length - x3.i)) (InR .i64 ((↑x3.i : Int) + (1 : Int)) ∧ ∃ (y : PcX), Value.int .i64 ((↑x3.i : Int) + (1 : Int)) = Value.int .i64 (↑y.i : Int) ∧ Value.int .i64 ((↑(bulkP (List.take x3.i g.l)) : Int) + ((1 : Int) + (↑n : Int))) = Value.int .i64 (↑(bulkP (List.take y.i g.l)) : Int) ∧ Value.slice a' ((catP (List.take x3.i g.l)).size + n2) c' = Value.slice y.aa (catP (List.take y.i g.l)).size y.ca ∧ PcI g w y w'5 (Value.pointer (some ⟨x1.p, 0, none⟩)) (Value.pointer (some ⟨x2.p, 0, none⟩)) ∧ g.l.length - y.i < g.l.length - x3.i))) (∃ (g4 : GFd), #[Value.pointer (some ⟨x2.p, 0, none⟩), Value.slice x3.aa (catP (List.take x3.i g.l)).size x3.ca] = #[Value.pointer (some ⟨g4.A.p, 0, none⟩), Value.slice g4.ad g4.b.size g4.c] ∧ (GlIn w'3 g4.A g4.g ∧ okG g4.g g4.m ∧ GlRd w'3 g4.A g4.ha g4.hc g4.h ∧ CellsAt w'3 g4.ad (bytesV g4.b) ∧ g4.b.size ≤ 67108864 ∧ g4.m + 3 + g4.b.size ≤ 549755813888) ∧ ∀ (x4 : GlP × Option Addr × Nat) (w'4 : World), FdOut w'3 w'4 g4.A g4.ha g4.h x4.fst x4.snd.fst x4.snd.snd (feedG g4.g (fdR (g4.h ++ g4.b))) (fdH (g4.h ++ g4.b)) → ∃ (g5 : GGl), #[Value.pointer (some ⟨x1.p, 0, none⟩)] = #[Value.pointer (some ⟨g5.A.p, 0, none⟩)] ∧ (GlIn w'4 g5.A g5.g ∧ fitG g5.g) ∧ ∀ (x5 : (Option Addr × Nat) × Gr) (w'5 : World), gdOut g5.g w'4 w'5 x5 → ∃ (g6 : GGl), #[Value.pointer (some ⟨x2.p, 0, none⟩)] = #[Value.pointer (some ⟨g6.A.p, 0, none⟩)] ∧ (GlIn w'5 g6.A g6.g ∧ fitG g6.g) ∧
 ∀ (x6 : (Option Addr × Nat) × Gr) (w'6 : World), gdOut g6.g w'5 w'6 x6 → ∀ (b : Nat) (w1 : World), New w'6 (Obj.cells #[Value.int .i64 0, Value.int .i64 0, Value.slice none (0 : Nat) (0 : Nat), Value.int .i64 0, Value.int .i64 0] (27 : Nat)) b w1 → ∀ (b1 : Nat) (w11 : World), New w1 (Obj.cells #[Value.int .i64 0, Value.int .i64 0, Value.slice none (0 : Nat) (0 : Nat), Value.int .i64 0, Value.int .i64 0] (27 : Nat)) b1 w11 → true = true ∧ (∃ (old : Value), w11.cell? ⟨b, 0, none⟩ = some old) ∧ w11.frozen? ⟨b, 0, none⟩ = false ∧ ∀ (w12 : World), Stored w11 ⟨b, 0, none⟩ (Value.int .i64 x5.snd.w) w12 → true = true ∧ (∃ (old : Value), w12.cell? ⟨b, 1, none⟩ = some old) ∧ w12.frozen? ⟨b, 1, none⟩ = false ∧ ∀ (w13 : World), Stored w12 ⟨b, 1, none⟩ (Value.int .i64 x5.snd.h) w13 → true = true ∧ (∃ (old : Value), w13.cell? ⟨b, 2, none⟩ = some old) ∧ w13.frozen? ⟨b, 2, none⟩ = false ∧ ∀ (w14 : World), Stored w13 ⟨b, 2, none⟩ (Value.slice x5.fst.fst x5.snd.cs.length x5.fst.snd) w14 → true = true ∧ (∃ (old : Value), w14.cell? ⟨b, 3, none⟩ = some old) ∧ w14.frozen? ⟨b, 3, none⟩ = false ∧ ∀ (w15 : World), Stored w14 ⟨b, 3, none⟩ (Value.int .i64 x5.snd.x) w15 → true = true ∧ (∃ (old : Value), w15.cell? ⟨b, 4, none⟩ = some old) ∧ w15.frozen? ⟨b, 4, none⟩ = false ∧ ∀ (w16 : World), Stored w15 ⟨b, 4, none⟩ (Value.int .i64 x5.snd.y) w16 → true = true ∧ (∃ (old : Value), w16.cell? ⟨b1, 0, none⟩ = some old) ∧ w16.frozen? ⟨b1, 0, none⟩ = false ∧ ∀ (w17 : World), Stored w16 ⟨b1, 0, none⟩ (Value.int .i64 x6.snd.w) w17 → true = true ∧ (∃ (old : Value), w17.cell? ⟨b1, 1, none⟩ = some old) ∧ w17.frozen? ⟨b1, 1, none⟩ = false ∧ ∀ (w18 : World), Stored w17 ⟨b1, 1, none⟩ (Value.int .i64 x6.snd.h) w18 → true = true ∧ (∃ (old : Value), w18.cell? ⟨b1, 2, none⟩ = some old) ∧ w18.frozen? ⟨b1, 2, none⟩ = false ∧ ∀ (w19 : World), Stored w18 ⟨b1, 2, none⟩ (Value.slice x6.fst.fst x6.snd.cs.length x6.fst.snd) w19 → true = true ∧ (∃ (old : Value), w19.cell? ⟨b1, 3, none⟩ = some old) ∧ w19.frozen? ⟨b1, 3, none⟩ = false ∧ ∀ (w110 : World), Stored w19 ⟨b1, 3, none⟩ (Value.int .i64 x6.snd.x) w110 → true = true ∧ (∃ (old : Value), w110.cell? ⟨b1, 4, none⟩ = some old) ∧ w110.frozen? ⟨b1, 4, none⟩ = false ∧ ∀ (w111 : World), Stored w110 ⟨b1, 4, none⟩ (Value.int .i64 x6.snd.y) w111 → ∃ (n : Int), w111.cell? ⟨b, 0, none⟩ = some (Value.int .i64 n) ∧ ∃ (n1 : Int), w111.cell? ⟨b, 1, none⟩ = some (Value.int .i64 n1) ∧ ∃ (a20 : Option Addr) (n2 : Nat) (c : Nat), w111.cell? ⟨b, 2, none⟩ = some (Value.slice a20 n2 c) ∧ ∃ (n3 : Int), w111.cell? ⟨b, 3, none⟩ = some (Value.int .i64 n3) ∧ ∃ (n4 : Int), w111.cell? ⟨b, 4, none⟩ = some (Value.int .i64 n4) ∧ ∃ (n5 : Int), w111.cell? ⟨b1, 0, none⟩ = some (Value.int .i64 n5) ∧ ∃ (n6 : Int), w111.cell? ⟨b1, 1, none⟩ = some (Value.int .i64 n6) ∧ ∃ (a21 : Option Addr) (n7 : Nat) (c1 : Nat), w111.cell? ⟨b1, 2, none⟩ = some (Value.slice a21 n7 c1) ∧ ∃ (n8 : Int), w111.cell? ⟨b1, 3, none⟩ = some (Value.int .i64 n8) ∧ ∃ (n9 : Int),
 w111.cell? ⟨b1, 4, none⟩ = some (Value.int .i64 n9) ∧ ∃ (g7 : GGg), #[Value.agg #[Value.int .i64 n, Value.int .i64 n1, Value.slice a20 n2 c, Value.int .i64 n3, Value.int .i64 n4], Value.agg #[Value.int .i64 n5, Value.int .i64 n6, Value.slice a21 n7 c1, Value.int .i64 n8, Value.int .i64 n9]] = #[Value.agg #[Value.int .i64 g7.g1.w, Value.int .i64 g7.g1.h, Value.slice g7.a1 g7.g1.cs.length g7.c1, Value.int .i64 g7.g1.x, Value.int .i64 g7.g1.y], Value.agg #[Value.int .i64 g7.g2.w, Value.int .i64 g7.g2.h, Value.slice g7.a2 g7.g2.cs.length g7.c2, Value.int .i64 g7.g2.x, Value.int .i64 g7.g2.y]] ∧ (grIn w111 g7.a1 g7.g1.cs ∧ grIn w111 g7.a2 g7.g2.cs) ∧ ∀ (x7 : Bool) (w'7 : World), x7 = sameB g7.g1 g7.g2 ∧ Ext w111 w'7 → bcase x7 (∃ (n10 : Int), w'7.cell? ⟨b, 0, none⟩ = some (Value.int .i64 n10) ∧ ∃ (n11 : Int), w'7.cell? ⟨b, 1, none⟩ = some (Value.int .i64 n11) ∧ ∃ (a23 : Option Addr) (n12 : Nat) (c2 : Nat), w'7.cell? ⟨b, 2, none⟩ = some (Value.slice a23 n12 c2) ∧ ∃ (n13 : Int), w'7.cell? ⟨b, 3, none⟩ = some (Value.int .i64 n13) ∧ ∃ (n14 : Int), w'7.cell? ⟨b, 4, none⟩ = some (Value.int .i64 n14) ∧ ∃ (g8 : GGr), #[Value.agg #[Value.int .i64 n10, Value.int .i64 n11, Value.slice a23 n12 c2, Value.int .i64 n13, Value.int .i64 n14], Value.bool g.wd] = #[Value.agg #[Value.int .i64 g8.g.w, Value.int .i64 g8.g.h, Value.slice g8.ad g8.g.cs.length g8.c, Value.int .i64 g8.g.x, Value.int .i64 g8.g.y], Value.bool g8.wd] ∧ (UD w'7 ∧ grIn w'7 g8.ad g8.g.cs) ∧ ∀ (x8 : Bool) (w'8 : World), x8 = rightB g8.g g8.wd ∧ Ext w'7 w'8 → bcase x8 (∃ (n15 : Int), w'8.cell? ⟨b, 0, none⟩ = some (Value.int .i64 n15) ∧ bcase (n15 == g.w) (∃ (n16 : Int), w'8.cell? ⟨b, 1, none⟩ = some (Value.int .i64 n16) ∧ ∃ (x9 : Unit), Value.bool (n16 == g.h) = Value.bool true ∧ Ext w w'8) (∃ (x9 : Unit), Value.bool false = Value.bool true ∧ Ext w w'8)) (∃ (x9 : Unit), Value.bool false = Value.bool true ∧ Ext w w'8)) (∃ (x8 : Unit), Value.bool false = Value.bool true ∧ Ext w w'7))) :
    ((sPcs true)).Ok Tryd.prog 4 :=
  ok_of_vc (sPcs true) (annPcs spPcsK) spPcsK (fun _ _ => rfl) (fun _ _ => rfl) hsp Tryd.func4 rfl (n := 4) (fun _ => rfl) (by kernel_rfl) (vcast (by kernel_rfl) h)
end Go.Proofs.YtjdohhididpomaaDoor
end

section
namespace Go.Proofs.YtjdohhididpomaaDoor
open Go Go.RowKit Vc Ut Tb Cl Orb
theorem newB_ok : sNewB.Ok Tryd.prog 11 := by
  rintro ⟨W, H, wd⟩ w ⟨hu, hs⟩
  dsimp only at hs
  refine (newG_ok (W, H, wd) w hu).mono fun e w' ⟨x, he, ⟨hx, hk, _⟩, hko⟩ => ?_
  obtain ⟨k1, k2⟩ := hk hs
  refine ⟨(), ?_, hx, hko⟩
  rw [he]
  show Ending.returned (Value.tuple #[.pointer x.p, .int .i64 x.e]) = _
  rw [k1, k2]; rfl
theorem size_nat {gw gh : Int} (h : sizeB gw gh = true) : ∃ W H : Nat, gw = (W : Int) ∧ gh = (H : Int) ∧ W ≤ 1024 ∧ H ≤ 1024 := by
  unfold sizeB at h
  have h := of_decide_eq_true h
  exact ⟨gw.toNat, gh.toNat, by omega, by omega, by omega, by omega⟩
def nilG : Gr := ⟨0, 0, [], 0, 0⟩
theorem nilK_ok : (sLawNil true).Ok Tryd.prog 5 := by
  refine nilK_vc ⟨feedN_ok, gridN_ok, newK_ok, like_ok, worksX_ok, trivial⟩ ?_
  rintro ⟨ad, n, c, gw, gh, wd⟩ w ⟨hU, hs⟩
  dsimp only at hs ⊢
  obtain ⟨W, H, rfl, rfl, hW, hH⟩ := size_nat hs
  refine ⟨(ad, n, c), rfl, trivial, fun _ w1 hx1 => ⟨(), rfl, trivial, fun _ w2 hx2 b w3 hn3 => ?_⟩⟩
  have hx3 : Ext w w3 := Ext.trans (Ext.trans hx1 hx2) hn3.ext
  refine ⟨(W, H, wd), rfl, ⟨(hU.ext hx3).1, hW, hH⟩, ?_⟩
  rintro A w4 ⟨hx4, -, -, -⟩
  have hb := Ext.heap hx4 hn3.heap
  refine ⟨_, (cell_of_heap hb 0).trans rfl, _, (cell_of_heap hb 1).trans rfl, _, _, _, (cell_of_heap hb 2).trans rfl, _, (cell_of_heap hb 3).trans rfl, _, (cell_of_heap hb 4).trans rfl, ⟨none, 0, nilG, none, 0, nilG⟩, rfl, ⟨⟨CellsAt.nil _ _, Nat.zero_le _⟩, ⟨CellsAt.nil _ _, Nat.zero_le _⟩⟩, ?_⟩
  rintro x3 w5 ⟨hx3', hx5⟩
  have e : x3 = true := hx3'.trans (by decide)
  subst e
  have ht : (decide ((W : Int) ≥ 0) && (decide ((W : Int) ≤ 1024) && (decide ((H : Int) ≥ 0) && decide ((H : Int) ≤ 1024)))) = true := by
    simp only [Bool.and_eq_true, decide_eq_true_eq]; omega
  have hx : Ext w w5 := Ext.trans hx3 (Ext.trans hx4 hx5)
  rw [ht]
  refine bcase_mk (fun _ => bcase_mk (fun _ => bcase_mk (fun _ => bcase_mk (fun _ => ⟨(), rfl, hU.ext hx, fun _ w6 hx6 => ⟨(), rfl, Ext.trans hx hx6⟩⟩) (fun h => by cases h)) (fun h => ?_)) (fun h => ?_)) (fun h => by cases h)
  · exact Bool.noConfusion (show true = false from h)
  · exact Bool.noConfusion (show true = false from h)
theorem nilB_ok : (sLawNil false).Ok Tryd.prog 5 := by
  refine nilB_vc ⟨feedN_ok, gridN_ok, newB_ok, like_ok, worksX_ok, trivial⟩ ?_
  rintro ⟨ad, n, c, gw, gh, wd⟩ w ⟨hU, hs⟩
  dsimp only at hs ⊢
  refine ⟨(ad, n, c), rfl, trivial, fun _ w1 hx1 => ⟨(), rfl, trivial, fun _ w2 hx2 b w3 hn3 => ?_⟩⟩
  have hx3 : Ext w w3 := Ext.trans (Ext.trans hx1 hx2) hn3.ext
  refine ⟨(gw, gh, wd), rfl, ⟨(hU.ext hx3).1, hs⟩, fun _ w4 hx4 => ?_⟩
  have hb := Ext.heap hx4 hn3.heap
  refine ⟨_, (cell_of_heap hb 0).trans rfl, _, (cell_of_heap hb 1).trans rfl, _, _, _, (cell_of_heap hb 2).trans rfl, _, (cell_of_heap hb 3).trans rfl, _, (cell_of_heap hb 4).trans rfl, ⟨none, 0, nilG, none, 0, nilG⟩, rfl, ⟨⟨CellsAt.nil _ _, Nat.zero_le _⟩, ⟨CellsAt.nil _ _, Nat.zero_le _⟩⟩, ?_⟩
  rintro x3 w5 ⟨hx3', hx5⟩
  have e : x3 = true := hx3'.trans (by decide)
  subst e
  have ht : (decide (gw ≥ 0) && (decide (gw ≤ 1024) && (decide (gh ≥ 0) && decide (gh ≤ 1024)))) = false := by
    unfold sizeB at hs
    have hs := of_decide_eq_false hs
    cases h : (decide (gw ≥ 0) && (decide (gw ≤ 1024) && (decide (gh ≥ 0) && decide (gh ≤ 1024)))) with
    | false => rfl
    | true =>
      simp only [Bool.and_eq_true, decide_eq_true_eq] at h
      exact absurd (by omega) hs
  have hx : Ext w w5 := Ext.trans hx3 (Ext.trans hx4 hx5)
  rw [ht]
  refine bcase_mk (fun _ => bcase_mk (fun _ => bcase_mk (fun _ => bcase_mk (fun h => by cases h) (fun _ => ⟨(), rfl, hU.ext hx, fun _ w6 hx6 => ⟨(), rfl, Ext.trans hx hx6⟩⟩)) (fun h => ?_)) (fun h => ?_)) (fun h => by cases h)
  · exact Bool.noConfusion (show true = false from h)
  · exact Bool.noConfusion (show true = false from h)
def sNilX : CallSpec where
  G := GNil
  args := fun g => #[.slice g.ad g.n g.c, .int .i64 g.w, .int .i64 g.h, .bool g.wd]
  pre := fun _ w => UP w
  X := Unit
  res := fun _ => .bool true
  post := fun _ w _ w' => Ext w w'
theorem nilX_ok : sNilX.Ok Tryd.prog 5 := fun g w hp => by
  cases h : sizeB g.w g.h with
  | true => exact nilK_ok g w ⟨hp, h⟩
  | false => exact nilB_ok g w ⟨hp, h⟩
theorem pcsB_ok : (sPcs false).Ok Tryd.prog 4 := by
  refine pcsB_vc ⟨worksX_ok, newB_ok, feedG_ok, gridG_ok, rightW_ok, sameW_ok, trivial⟩ ?_
  rintro ⟨gw, gh, wd, ad, c, l⟩ w ⟨hU, hs, -⟩
  dsimp only at hs ⊢
  exact ⟨(), rfl, hU, fun _ w1 hx1 => ⟨(gw, gh, wd), rfl, ⟨(hU.ext hx1).1, hs⟩, fun _ w2 hx2 => ⟨(gw, gh, wd), rfl, ⟨((hU.ext hx1).ext hx2).1, hs⟩, fun _ w3 hx3 => ⟨(), rfl, Ext.trans hx1 (Ext.trans hx2 hx3)⟩⟩⟩⟩
theorem put5 {w : World} {b : Nat} {t : TypeId} {z0 z1 z2 z3 z4 v0 v1 v2 v3 v4 : Value} {K : World → Prop} (h : w.heap[b]? = some (.cells #[z0, z1, z2, z3, z4] t))
    (hk : ∀ w', w'.heap[b]? = some (.cells #[v0, v1, v2, v3, v4] t) → Fr (fun q => q = b) w w' → K w') :
    true = true ∧ (∃ old, w.cell? ⟨b, 0, none⟩ = some old) ∧ w.frozen? ⟨b, 0, none⟩ = false ∧ ∀ w1, Stored w ⟨b, 0, none⟩ v0 w1 →
    true = true ∧ (∃ old, w1.cell? ⟨b, 1, none⟩ = some old) ∧ w1.frozen? ⟨b, 1, none⟩ = false ∧ ∀ w2, Stored w1 ⟨b, 1, none⟩ v1 w2 →
    true = true ∧ (∃ old, w2.cell? ⟨b, 2, none⟩ = some old) ∧ w2.frozen? ⟨b, 2, none⟩ = false ∧ ∀ w3, Stored w2 ⟨b, 2, none⟩ v2 w3 →
    true = true ∧ (∃ old, w3.cell? ⟨b, 3, none⟩ = some old) ∧ w3.frozen? ⟨b, 3, none⟩ = false ∧ ∀ w4, Stored w3 ⟨b, 3, none⟩ v3 w4 →
    true = true ∧ (∃ old, w4.cell? ⟨b, 4, none⟩ = some old) ∧ w4.frozen? ⟨b, 4, none⟩ = false ∧ ∀ w5, Stored w4 ⟨b, 4, none⟩ v4 w5 → K w5 := by
  refine ⟨rfl, (box5 h (k := 0) (by decide)).1, (box5 h (k := 0) (by decide)).2, fun w1 s1 => ?_⟩
  have h1 := s1.heap h
  refine ⟨rfl, (box5 h1 (k := 1) (by decide)).1, (box5 h1 (k := 1) (by decide)).2, fun w2 s2 => ?_⟩
  have h2 := s2.heap h1
  refine ⟨rfl, (box5 h2 (k := 2) (by decide)).1, (box5 h2 (k := 2) (by decide)).2, fun w3 s3 => ?_⟩
  have h3 := s3.heap h2
  refine ⟨rfl, (box5 h3 (k := 3) (by decide)).1, (box5 h3 (k := 3) (by decide)).2, fun w4 s4 => ?_⟩
  have h4 := s4.heap h3
  refine ⟨rfl, (box5 h4 (k := 4) (by decide)).1, (box5 h4 (k := 4) (by decide)).2, fun w5 s5 => ?_⟩
  have h5 := s5.heap h4
  refine hk w5 h5 ?_
  have f : ∀ {a b' : World} {k : Nat} {v : Value}, Stored a ⟨b, k, none⟩ v b' → Fr (fun q => q = b) a b' := fun hs => Fr.stored hs
  exact ((((f s1).trans (f s2) (fun _ _ hx => hx)).trans (f s3) (fun _ _ hx => hx)).trans (f s4) (fun _ _ hx => hx)).trans (f s5) (fun _ _ hx => hx)
theorem catP_snoc (l : List PcE) (e : PcE) : catP (l ++ [e]) = catP l ++ e.b := by unfold catP; rw [List.foldl_append]; rfl
theorem bulkP_snoc (l : List PcE) (e : PcE) : bulkP (l ++ [e]) = bulkP l + (1 + e.b.size) := by simp [bulkP]
theorem take_snocP {l : List PcE} {i : Nat} (h : i < l.length) : l.take (i + 1) = l.take i ++ [l[i]] := by rw [List.take_add_one, List.getElem?_eq_getElem h]; rfl
theorem bulkP_app (l m : List PcE) : bulkP (l ++ m) = bulkP l + bulkP m := by simp [bulkP]
theorem bulkP_take (l : List PcE) (i : Nat) : bulkP (l.take i) ≤ bulkP l := by
  have := bulkP_app (l.take i) (l.drop i)
  rw [List.take_append_drop] at this
  omega
theorem catP_app (l m : List PcE) : (catP (l ++ m)).size = (catP l).size + (catP m).size := by
  have key : ∀ (m : List PcE) (s : ByteArray), (m.foldl (fun s e => s ++ e.b) s).size = s.size + (catP m).size := by
    intro m
    induction m with
    | nil => intro s; rfl
    | cons e m ih =>
      intro s
      unfold catP
      rw [List.foldl_cons, List.foldl_cons, ih, ih, ByteArray.size_append, ByteArray.size_append]
      have : (ByteArray.mk #[]).size = 0 := rfl
      omega
  unfold catP
  rw [List.foldl_append, key]
  rfl
theorem catP_le : ∀ l : List PcE, (catP l).size + l.length ≤ bulkP l
  | [] => Nat.le_refl _
  | e :: l => by
    have h1 := catP_app [e] l
    have h2 := catP_le l
    rw [List.singleton_append] at h1
    have h3 : (catP [e]).size = e.b.size := by
      show ((⟨#[]⟩ : ByteArray) ++ e.b).size = _
      rw [ByteArray.size_append]; exact Nat.zero_add _
    have h4 : bulkP (e :: l) = (1 + e.b.size) + bulkP l := by simp [bulkP]
    rw [List.length_cons]
    omega
theorem fd_none : fdR ⟨#[]⟩ = [] ∧ fdH ⟨#[]⟩ = ⟨#[]⟩ := by
  have := fd_valid none_asc.1
  rw [none_asc.2] at this
  exact this
theorem feedS_one (x : Gs × ByteArray) (b : ByteArray) : (feedS x b).1 = feedG x.1 (fdR (x.2 ++ b)) := rfl
theorem feedS_two (x : Gs × ByteArray) (b : ByteArray) : (feedS x b).2 = fdH (x.2 ++ b) := rfl
theorem pcS_zero (g : GPcs) : pcS g 0 = (newG g.w.toNat g.h.toNat g.wd, ⟨#[]⟩) := feed_none _ fd_none.1 fd_none.2
theorem pcS_succ (g : GPcs) {i : Nat} (h : i < g.l.length) : pcS g (i + 1) = feedS (pcS g i) g.l[i].b := by
  unfold pcS
  rw [take_snocP h, catP_snoc, feed_two]
theorem pcS_all (g : GPcs) (i : Nat) : pcS g i = (feedG (newG g.w.toNat g.h.toNat g.wd) (fdR (⟨#[]⟩ ++ catP (g.l.take i))), fdH (⟨#[]⟩ ++ catP (g.l.take i))) := rfl
theorem made_step {S S' : Nat → Prop} {w0 w w' : World} {e : TypeId} {s n c : Nat} {a : Option Addr} {vs : List Value} (h : Made w0 w e s a n vs c) (hs : Step S w w' S') (hS : ∀ q, S q → w0.heap.size ≤ q) (hd : ∀ q, blk a = some q → ¬ S q) : Made w0 w' e s a n vs c :=
  ⟨h.row.fr hs.fr hd, h.new, step_ext hs h.ext hS⟩
set_option maxHeartbeats 1600000 in
set_option maxRecDepth 8000 in
theorem pcsK_ok : (sPcs true).Ok Tryd.prog 4 := by
  refine pcsK_vc ⟨worksX_ok, newK_ok, feedG_ok, gridG_ok, rightW_ok, sameW_ok, trivial⟩ ?_
  rintro gg w ⟨hU, hs, hc, he, hbk⟩
  obtain ⟨W, H, eW, eH, hW, hH⟩ := size_nat hs
  have hWH : W * H ≤ 1048576 := Nat.le_trans (Nat.mul_le_mul hW hH) (by decide)
  refine ⟨(), rfl, hU, fun _ w1 hx1 => ⟨(W, H, gg.wd), by rw [eW, eH], ⟨(hU.ext hx1).1, hW, hH⟩, ?_⟩⟩
  rintro A1 w2 ⟨hx2, hB1, hG1, hR1⟩
  refine ⟨(W, H, gg.wd), by rw [eW, eH], ⟨((hU.ext hx1).ext hx2).1, hW, hH⟩, ?_⟩
  rintro A2 w3 ⟨hx3, hB2, hG2, hR2⟩
  dsimp only at hG1 hG2
  have hz1 := hx1.size; have hz2 := hx2.size; have hz3 := hx3.size
  have hok0 : okG (newG W H gg.wd) 0 := ok_new hW hH gg.wd
  have hx03 : Ext w w3 := Ext.trans hx1 (Ext.trans hx2 hx3)
  have hU3 : UDB w.heap.size w3 := hU.1.on hx03
  have hA1' : GlAt w2 A1 (newG W H gg.wd) 0 none 0 ⟨#[]⟩ := ⟨hG1, hok0, hR1⟩
  have hA2' : GlAt w3 A2 (newG W H gg.wd) 0 none 0 ⟨#[]⟩ := ⟨hG2, hok0, hR2⟩
  have hd0 : ∀ q, ownR A1 none ⟨#[]⟩ q → ¬ ownR A2 none ⟨#[]⟩ q := fun q hq hq2 => by
    have h1 := (hA1'.lt q hq).2
    have h2 := (hA2'.lt q hq2).1
    omega
  have hA1 := (hA1'.ext hx3).base (B0 := w.heap.size) (by omega) hU3
  have hA2 := hA2'.base (B0 := w.heap.size) (by omega) hU3
  have hnew : newG gg.w.toNat gg.h.toNat gg.wd = newG W H gg.wd := by rw [eW, eH]; rfl
  have hS0 := pcS_zero gg
  rw [hnew] at hS0
  have hSm : ∀ i, okG (pcS gg i).1 1048576 ∧ bulkC (pcS gg i).1.cs ≤ 30000000 ∧ (pcS gg i).1.wd = gg.wd ∧ (pcS gg i).1.w = W ∧ (pcS gg i).1.h = H := by
    intro i
    rw [pcS_all, hnew]
    have h1 := fdR_len (⟨#[]⟩ ++ catP (gg.l.take i))
    rw [ByteArray.size_append] at h1
    have h2 := catP_le (gg.l.take i)
    have h3 := bulkP_take gg.l i
    have h0 : (ByteArray.mk #[]).size = 0 := rfl
    have hf := feed_f (fdR (⟨#[]⟩ ++ catP (gg.l.take i))) (newG W H gg.wd)
    refine ⟨(ok_feed _ hok0).mono (by omega), ?_, hf.2.2, hf.1, hf.2.1⟩
    have := bul_feed (fdR (⟨#[]⟩ ++ catP (gg.l.take i))) (newG W H gg.wd)
    have h5 : bulkC (newG W H gg.wd).cs = W * H := bul_rep (W * H) 0
    show bulkC (feedG (newG W H gg.wd) _).cs ≤ _
    omega
  refine ⟨⟨⟨0, { A1 with B := w.heap.size }, { A2 with B := w.heap.size }, none, 0, none, 0⟩, rfl, rfl, rfl, ?_⟩, ?_⟩
  · refine ⟨Nat.zero_le _, rfl, rfl, hx03, rfl, rfl, ?_, ?_, ?_, hA2.rd, ?_, ?_, fun q hq => by cases hq⟩
    · dsimp only; rw [hS0]; exact hA1.gl
    · dsimp only; rw [hS0]; exact hA1.rd
    · dsimp only; rw [hnew]; exact hA2.gl
    · intro q hq
      dsimp only at hq ⊢
      rw [hS0] at hq
      exact hd0 q hq
    · exact (Made.nil w3 5 1).earlier hx03
  rintro _ ⟨i, B1, B2, h1, c1, aa, ca⟩ w4 ⟨hle, hv1, hv2, hx4, hb1, hb2, hg1, hr1, hg2, hr2, hd12, hmd, hd1⟩
  dsimp only at hle hv1 hv2 hx4 hb1 hb2 hg1 hr1 hg2 hr2 hd12 hmd hd1 ⊢
  have hp1 : B1.p = A1.p := by injection hv1 with hv1; injection hv1 with hv1; injection hv1 with hv1; exact hv1.symm
  have hp2 : B2.p = A2.p := by injection hv2 with hv2; injection hv2 with hv2; injection hv2 with hv2; exact hv2.symm
  rw [hnew] at hg2
  have hm1 := hSm i
  have hA1 : GlAt w4 B1 (pcS gg i).1 1048576 h1 c1 (pcS gg i).2 := ⟨hg1, hm1.1, hr1⟩
  have hA2 : GlAt w4 B2 (newG W H gg.wd) 0 none 0 ⟨#[]⟩ := ⟨hg2, hok0, hr2⟩
  have hcat := catP_le (gg.l.take i)
  have hall := catP_le gg.l
  have hbt := bulkP_take gg.l i
  have low1 : ∀ q, ownR B1 h1 (pcS gg i).2 q → w.heap.size ≤ q ∧ q < w4.heap.size := fun q hq => by have := hA1.lt q hq; rw [hb1] at this; exact this
  have low2 : ∀ q, ownR B2 none ⟨#[]⟩ q → w.heap.size ≤ q ∧ q < w4.heap.size := fun q hq => by have := hA2.lt q hq; rw [hb2] at this; exact this
  have hal : ∀ q, blk aa = some q → q < w4.heap.size := fun q hq => hmd.row.lt hq
  refine bcase_mk (fun hlt => ?_) (fun hge => ?_)
  · have hi : i < gg.l.length := by have := of_decide_eq_true hlt; omega
    have hli : (gg.l.map peV)[i]? = some (peV gg.l[i]) := by rw [List.getElem?_map, List.getElem?_eq_getElem hi]; rfl
    have hS1 := pcS_succ gg hi
    have hbs : bulkP (gg.l.take (i + 1)) = bulkP (gg.l.take i) + (1 + gg.l[i].b.size) := by rw [take_snocP hi, bulkP_snoc]
    have hcs : catP (gg.l.take (i + 1)) = catP (gg.l.take i) ++ gg.l[i].b := by rw [take_snocP hi, catP_snoc]
    have hbt1 := bulkP_take gg.l (i + 1)
    have hcat1 := catP_le (gg.l.take (i + 1))
    have hc4 : CellsAt w4 gg.ad (gg.l.map peV) := hc.ext hx4
    have hEc0 := he _ (List.getElem_mem hi)
    generalize gg.l[i] = E at hli hS1 hbs hcs hEc0
    have hEc : CellsAt w4 E.ad (bytesV E.b) := hEc0.ext hx4
    have hcz : (catP (gg.l.take (i + 1))).size = (catP (gg.l.take i)).size + E.b.size := by rw [hcs, ByteArray.size_append]
    refine ⟨i, rfl, hi, hc4.ptr hli fun b o hbo => ⟨_, _, _, hbo, inr_i64 (by omega) (by omega), inr_i64 (by omega) (by omega), bcase_mk (fun h => ?_) (fun _ => ⟨i, rfl, hi, hc4.ptr hli fun b' o' hbo' => ⟨_, _, _, hbo', ⟨B1, (pcS gg i).1, 1048576, h1, c1, (pcS gg i).2, E.ad, E.c, E.b⟩, by rw [hp1], ⟨hA1.gl, hA1.ok, hA1.rd, hEc, by dsimp only; omega, by dsimp only; omega⟩, ?_⟩⟩)⟩⟩
    · exfalso
      have := of_decide_eq_true h
      omega
    rintro ⟨C1, h1', c1'⟩ w5 hF
    dsimp only at hF
    have hp3 : C1.p = A1.p := hF.p.trans hp1
    have hB3 : C1.B = w.heap.size := hF.b.trans hb1
    have hx5 : Ext w w5 := step_ext hF.st hx4 (fun q hq => (low1 q hq).1)
    have hz5 := hF.st.fr.size
    have hmd5 := made_step hmd hF.st (fun q hq => (low1 q hq).1) (fun q hq => (hd1 q hq).1)
    have hA2' := hA2.keep hF.st.fr (fun q hq => ⟨by rw [hb2]; exact (low1 q hq).1, hd12 q hq⟩)
    have hA1' := hA1.fed hF
    have e1 : feedG (pcS gg i).1 (fdR ((pcS gg i).2 ++ E.b)) = (pcS gg (i + 1)).1 := by rw [hS1, feedS_one]
    have e2 : fdH ((pcS gg i).2 ++ E.b) = (pcS gg (i + 1)).2 := by rw [hS1, feedS_two]
    have hdom : ∀ q, ownR C1 h1' (pcS gg (i + 1)).2 q → q < w5.heap.size ∧ (ownR B1 h1 (pcS gg i).2 q ∨ w4.heap.size ≤ q) := fun q hq => by
      rw [← e2] at hq
      exact hF.st.dom q hq
    rw [e1, e2] at hA1'
    have hm2 := hSm (i + 1)
    have hc5 : CellsAt w5 gg.ad (gg.l.map peV) := hc.ext hx5
    have hEc5 : CellsAt w5 E.ad (bytesV E.b) := hEc0.ext hx5
    obtain ⟨a', c', w6, hrun, hko, hrow6, hgr6, hor6, -⟩ := hmd5.row.pushS (P := Tryd.prog) (t := 30) (ty := 30) elem8 (by decide) (sa := E.ad) (cx := E.c) (m := E.b.size) (news := bytesV E.b) (by unfold bytesV; rw [List.length_map, Array.length_toList, Nat.mul_one]; rfl) hEc5 (by unfold bytesV; intro u hu; obtain ⟨x, -, rfl⟩ := List.mem_map.1 hu; rfl) (by unfold maxLen; omega) (.inr (by omega))
    have hmd6 := hmd5.grown hrow6 hgr6 hor6
    have hfr6 : Fr (fun q => blk aa = some q) w5 w6 := Fr.grown hgr6
    have hz6 := hfr6.size
    have e3 : bytesV (catP (gg.l.take i)) ++ bytesV E.b = bytesV (catP (gg.l.take (i + 1))) := by
      rw [hcs]; unfold bytesV
      rw [ByteArray.toList_data_append, List.map_append]
    rw [e3, ← hcz] at hmd6
    have hnb : ∀ q, blk aa = some q → ¬ ownR C1 h1' (pcS gg (i + 1)).2 q := fun q hq hh => by
      rcases (hdom q hh).2 with h5 | h5
      · exact (hd1 q hq).1 h5
      · have := hal q hq; omega
    have hA6 : GlAt w6 C1 (pcS gg (i + 1)).1 1048576 h1' c1' (pcS gg (i + 1)).2 := by
      have hk := hA1'.keep hfr6 (fun q hq => ⟨by rw [hB3]; exact hmd.new q hq, hnb q hq⟩)
      exact ⟨hk.gl, hm2.1, hk.rd⟩
    have hA26 := hA2'.keep hfr6 (fun q hq => ⟨by rw [hb2]; exact hmd.new q hq, (hd1 q hq).2⟩)
    have hx6 : Ext w w6 := hmd6.ext
    have hanew : ∀ q, blk a' = some q → blk aa = some q ∨ w5.heap.size ≤ q := fun q hq => by
      rcases hor6 with rfl | ⟨rfl, -⟩
      · exact .inl hq
      · right; have : w5.heap.size = q := Option.some.inj hq; omega
    have next : ∀ {W' : World}, Ext w6 W' → PcI gg w ⟨i + 1, C1, B2, h1', c1', a', c'⟩ W' (.pointer (some ⟨A1.p, 0, none⟩)) (.pointer (some ⟨A2.p, 0, none⟩)) := fun {W'} hxx => by
      refine ⟨hi, by dsimp only; rw [hp3], by dsimp only; rw [hp2], Ext.trans hx6 hxx, hB3, hb2, (hA6.ext hxx).gl, (hA6.ext hxx).rd, by rw [hnew]; exact (hA26.ext hxx).gl, (hA26.ext hxx).rd, fun q hq hq2 => ?_, hmd6.later hxx, fun q hq => ⟨fun hh => ?_, fun hh => ?_⟩⟩
      · rcases (hdom q hq).2 with h5 | h5
        · exact hd12 q h5 hq2
        · have := (low2 q hq2).2; omega
      · rcases hanew q hq with h5 | h5
        · exact hnb q h5 hh
        · have := (hdom q hh).1; omega
      · rcases hanew q hq with h5 | h5
        · exact (hd1 q h5).2 hh
        · have := (low2 q hh).2; omega
    have fin : ∀ {W' : World}, Ext w6 W' → InR .i64 ((i : Int) + 1) ∧ ∃ y : PcX, Value.int .i64 ((i : Int) + 1) = Value.int .i64 (y.i : Int) ∧ Value.int .i64 ((bulkP (gg.l.take i) : Int) + (1 + (E.b.size : Int))) = Value.int .i64 (bulkP (gg.l.take y.i) : Int) ∧ Value.slice a' ((catP (gg.l.take i)).size + E.b.size) c' = Value.slice y.aa (catP (gg.l.take y.i)).size y.ca ∧
        PcI gg w y W' (.pointer (some ⟨A1.p, 0, none⟩)) (.pointer (some ⟨A2.p, 0, none⟩)) ∧ gg.l.length - y.i < gg.l.length - i := fun hxx => by
      refine ⟨inr_i64 (by omega) (by omega), ⟨i + 1, C1, B2, h1', c1', a', c'⟩, rfl, ?_, by dsimp only; rw [hcz], next hxx, by dsimp only; omega⟩
      dsimp only
      rw [hbs]
      congr 1
    refine ⟨i, rfl, hi, hc5.ptr hli fun b' o' hbo' => ⟨_, _, _, hbo', a', c', w6, hrun, hko, by rw [eW, eH]; exact inr_i64 (by rw [← Int.natCast_mul]; omega) (by rw [← Int.natCast_mul]; omega), bcase_mk (fun _ => ?_) (fun _ => fin (Ext.refl _))⟩⟩
    refine ⟨⟨C1, (pcS gg (i + 1)).1⟩, by rw [hp3], ⟨hA6.gl, hA6.ok.fit (by decide)⟩, ?_⟩
    rintro ⟨⟨a7, c7⟩, gr⟩ w7 ⟨hgr, hm7⟩
    dsimp only at hgr hm7
    subst hgr
    refine ⟨⟨a7, c7, gridG (pcS gg (i + 1)).1, gg.wd⟩, rfl, ⟨(hU.ext (Ext.trans hx6 hm7.ext)).ud, hm7.row.cells, Nat.le_trans hm2.2.1 (by decide)⟩, ?_⟩
    rintro x6 w8 ⟨hx6', hx8⟩
    have hr := grid_right hA6.ok
    rw [hm2.2.2.1] at hr
    dsimp only at hx6'
    rw [hr] at hx6'
    subst hx6'
    exact bcase_mk (fun h => by cases h) (fun _ => fin (Ext.trans hm7.ext hx8))
  · have hi : i = gg.l.length := by have := of_decide_eq_false hge; omega
    have hcl := hmd.row.cells
    refine ⟨⟨B2, newG W H gg.wd, 0, none, 0, ⟨#[]⟩, aa, ca, catP (gg.l.take i)⟩, by rw [hp2], ⟨hA2.gl, hA2.ok, hA2.rd, hcl, by dsimp only; omega, by dsimp only; omega⟩, ?_⟩
    rintro ⟨C2, h2', c2'⟩ w5 hF
    dsimp only at hF
    have hp3 : C2.p = A2.p := hF.p.trans hp2
    have hx5 : Ext w w5 := step_ext hF.st hx4 (fun q hq => (low2 q hq).1)
    have hA1' := hA1.keep hF.st.fr (fun q hq => ⟨by rw [hb1]; exact (low2 q hq).1, fun hh => hd12 q hh hq⟩)
    have hA2' := hA2.fed hF
    have e1 : feedG (newG W H gg.wd) (fdR (⟨#[]⟩ ++ catP (gg.l.take i))) = (pcS gg i).1 := by rw [pcS_all, hnew]
    rw [e1] at hA2'
    have hA2f : GlIn w5 C2 (pcS gg i).1 := hA2'.gl
    refine ⟨⟨B1, (pcS gg i).1⟩, by rw [hp1], ⟨hA1'.gl, hA1'.ok.fit (by decide)⟩, ?_⟩
    rintro ⟨⟨a6, c6⟩, gr⟩ w6 ⟨hgr, hm6⟩
    dsimp only at hgr hm6
    subst hgr
    refine ⟨⟨C2, (pcS gg i).1⟩, by rw [hp3], ⟨hA2f.ext hm6.ext, hm1.1.fit (by decide)⟩, ?_⟩
    rintro ⟨⟨a7, c7⟩, gr⟩ w7 ⟨hgr, hm7⟩
    dsimp only at hgr hm7
    subst hgr
    intro b w8 hn8 b1 w9 hn9
    have z8 := hn8.size; have z9 := hn9.size
    refine put5 (v0 := .int .i64 (gridG (pcS gg i).1).w) (v1 := .int .i64 (gridG (pcS gg i).1).h) (v2 := .slice a6 (gridG (pcS gg i).1).cs.length c6) (v3 := .int .i64 (gridG (pcS gg i).1).x) (v4 := .int .i64 (gridG (pcS gg i).1).y) (Ext.heap hn9.ext hn8.heap) fun w10 hb10 hf10 => ?_
    have hb1' : w10.heap[b1]? = _ := (hf10.block b1 (heap_lt hn9.heap) (by omega)).trans hn9.heap
    refine put5 (v0 := .int .i64 (gridG (pcS gg i).1).w) (v1 := .int .i64 (gridG (pcS gg i).1).h) (v2 := .slice a7 (gridG (pcS gg i).1).cs.length c7) (v3 := .int .i64 (gridG (pcS gg i).1).x) (v4 := .int .i64 (gridG (pcS gg i).1).y) hb1' fun w11 hb11 hf11 => ?_
    have hb0 : w11.heap[b]? = _ := (hf11.block b (heap_lt hb10) (by omega)).trans hb10
    have hx7_11 : Ext w7 w11 := Below.trans (Ext.trans hn8.ext hn9.ext) ((hf10.below (by omega) (fun q hq hh => by omega)).trans (hf11.below (by have := hf10.size; omega) (fun q hq hh => by omega)))
    have hx11 : Ext w w11 := Ext.trans hx5 (Ext.trans hm6.ext (Ext.trans hm7.ext hx7_11))
    have hc6 : CellsAt w11 a6 (flat (pcS gg i).1.cs) := (hm6.row.cells.ext hm7.ext).ext hx7_11
    have hc7 : CellsAt w11 a7 (flat (pcS gg i).1.cs) := hm7.row.cells.ext hx7_11
    have hbb : bulkC (pcS gg i).1.cs ≤ 67108864 := Nat.le_trans hm1.2.1 (by decide)
    refine ⟨_, (cell_of_heap hb0 0).trans rfl, _, (cell_of_heap hb0 1).trans rfl, _, _, _, (cell_of_heap hb0 2).trans rfl, _, (cell_of_heap hb0 3).trans rfl, _, (cell_of_heap hb0 4).trans rfl, _, (cell_of_heap hb11 0).trans rfl, _, (cell_of_heap hb11 1).trans rfl, _, _, _, (cell_of_heap hb11 2).trans rfl, _, (cell_of_heap hb11 3).trans rfl, _, (cell_of_heap hb11 4).trans rfl, ⟨a6, c6, gridG (pcS gg i).1, a7, c7, gridG (pcS gg i).1⟩, rfl, ⟨⟨hc6, hbb⟩, ⟨hc7, hbb⟩⟩, ?_⟩
    rintro x12 w12 ⟨hx12', hx12⟩
    dsimp only at hx12'
    rw [same_refl] at hx12'
    subst hx12'
    refine bcase_mk (fun _ => ?_) (fun h => by cases h)
    have hb12 := Ext.heap hx12 hb0
    have hr := grid_right hm1.1
    rw [hm1.2.2.1] at hr
    refine ⟨_, (cell_of_heap hb12 0).trans rfl, _, (cell_of_heap hb12 1).trans rfl, _, _, _, (cell_of_heap hb12 2).trans rfl, _, (cell_of_heap hb12 3).trans rfl, _, (cell_of_heap hb12 4).trans rfl, ⟨a6, c6, gridG (pcS gg i).1, gg.wd⟩, rfl, ⟨(hU.ext (Ext.trans hx11 hx12)).ud, hc6.ext hx12, hbb⟩, ?_⟩
    rintro x13 w13 ⟨hx13', hx13⟩
    dsimp only at hx13'
    rw [hr] at hx13'
    subst hx13'
    refine bcase_mk (fun _ => ?_) (fun h => by cases h)
    have hb13 := Ext.heap hx13 hb12
    refine ⟨_, (cell_of_heap hb13 0).trans rfl, bcase_mk (fun _ => ⟨_, (cell_of_heap hb13 1).trans rfl, (), ?_, Ext.trans hx11 (Ext.trans hx12 hx13)⟩) (fun h => ?_)⟩
    · show Value.bool (((pcS gg i).1.h : Int) == gg.h) = _
      rw [hm1.2.2.2.2, eH, beq_self_eq_true]
    · have h : (((pcS gg i).1.w : Int) == gg.w) = false := h
      rw [hm1.2.2.2.1, eW, beq_self_eq_true] at h
      cases h
def sPcsX : CallSpec where
  G := GPcs
  args := fun g => #[.int .i64 g.w, .int .i64 g.h, .bool g.wd, .slice g.ad g.l.length g.c]
  pre := fun g w => UP w ∧ CellsAt w g.ad (g.l.map peV) ∧ (∀ e ∈ g.l, CellsAt w e.ad (bytesV e.b)) ∧ bulkP g.l ≤ 1048576
  X := Unit
  res := fun _ => .bool true
  post := fun _ w _ w' => Ext w w'
theorem pcsX_ok : sPcsX.Ok Tryd.prog 4 := fun g w hp => by
  cases h : sizeB g.w g.h with
  | true => exact pcsK_ok g w ⟨hp.1, h, hp.2⟩
  | false => exact pcsB_ok g w ⟨hp.1, h, hp.2⟩
end Go.Proofs.YtjdohhididpomaaDoor
end

section
namespace Go.Proofs.YtjdohhididpomaaDoor.Lw
open Go Go.RowKit Go.ChangeShapes Go.WideShapes Go.ChangeAt Vc
section
variable {H : Type} {enc : TypeId × Value → H} {P : Program}
theorem trodAll_stays (hl : laidOutB P = true) {W W' : World} (hx : Below W.heap.size W W') {sp : Nat → Bool} : ∀ {ts : List TypeId} {vs : List Value} {ds : List (DataW H)} {p : List MemPlace},
    ts.all (fun t => P.readableRec t && decide (t < P.types.size)) = true → DataW.TrodAll enc P W 0 (fun _ => true) true ts vs ds p → (∀ x ∈ p, x.block < W.heap.size) → (∀ x ∈ p, sp x.block = true) → DataW.TrodAll enc P W' 0 sp true ts vs ds p
  | [], vs, ds, p, _, h, _, _ => by
    obtain ⟨rfl, rfl, rfl⟩ := trodAll_nil h
    exact trodAll_mk0
  | t :: ts, vs, ds, p, hp, h, hlt, hs => by
    obtain ⟨v, vs', d, ds', a, b, rfl, rfl, rfl, h1, h2⟩ := trodAll_cons h
    simp only [List.all_cons, Bool.and_eq_true, decide_eq_true_eq] at hp
    have h3 := WideElems.Trod_stays (sp' := sp) hl hp.1.1 hp.1.2 h1 (fun x hx' => hx.same (hlt x (by simp [hx']))) (fun x hx' => hs x (by simp [hx']))
    exact ⟨a, b, h3, trodAll_stays hl hx (by simpa using hp.2) h2 (fun x hx' => hlt x (by simp [hx'])) (fun x hx' => hs x (by simp [hx'])), rfl⟩
theorem post_law {f : Func} {s : ChangeSpec} {apart fresh handsOn again : Bool} {W W' : World} {args : Array Value} {ds gs : List (DataW H)} {before : List MemPlace} {tb : TypeId} (hW : DataW.Whole enc P f.params.toList s.vars apart W args.toList ds gs before) (hvars : s.vars = [])
    (hfn : s.fn H ds = { results := [.lit (.bool true)], args := ds }) (hres : f.resultTypes = #[tb]) (htb : P.underlying tb = some .bool) (hl : laidOutB P = true) (hp : f.params.toList.all (fun t => P.readableRec t && decide (t < P.types.size)) = true) (hx : Below W.heap.size W W') :
    s.post enc P f apart fresh handsOn again W args (.bool true) W' := by
  have hW0 := hW
  obtain ⟨pa, pv, hA, hV, rfl, hz, hn⟩ := hW
  rw [hvars] at hV
  obtain ⟨rfl, rfl⟩ := trodVars_none hV
  simp only [List.append_nil] at hW0 hz hn
  have hlt : ∀ x ∈ pa, x.block < W.heap.size := fun x hx => by simpa using hW0.lt x hx
  have hr : ∀ (b : Nat) (sp : Nat → Bool) (hd : Bool), DataW.TrodAll enc P W' b sp hd f.resultTypes.toList ((Value.bool true).resultList f.resultTypes.size) (s.fn H (ds ++ [])).results [] := by
    intro b sp hd
    rw [List.append_nil, hfn, hres]
    exact trodAll_cons_mk (shut_bool htb _) trodAll_mk0
  have ha : ∀ sp : Nat → Bool, (∀ p ∈ pa, sp p.block = true) → DataW.TrodAll enc P W' 0 sp true f.params.toList args.toList (s.fn H (ds ++ [])).args pa := by
    intro sp hs
    rw [List.append_nil, hfn]
    exact trodAll_stays hl hx hp hA hlt hs
  have hv : ∀ sp : Nat → Bool, DataW.TrodVars enc P W' sp s.vars (s.fn H (ds ++ [])).vars [] := by
    intro sp
    rw [List.append_nil, hfn, hvars]
    rfl
  refine ⟨ds, [], pa, [], pa, [], hW0, hr _ _ _, ha _ (fun p hp => by simpa using hlt p hp), hv _, World.keptBut_mono (fun p hp => ⟨hp, .inr (.inl hp)⟩) (hx.frame _), fun _ => ?_⟩
  refine ⟨ok_one hres rfl (okWide_bool_mk htb _), _, _, ([] ++ pa) ++ [], ⟨[] ++ pa, [], trodAll_append (ha _ (fun _ _ => rfl)) (hr _ _ _), hv _, rfl, ?_, ?_⟩, ?_⟩
  · intro b off hp
    have hp' : MemPlace.cell b off ∈ pa := by simpa using hp
    rw [hx.frozen (hlt _ hp')]
    exact hz b off hp'
  · intro ha'
    have := hn ha'
    simpa using this
  · intro p hp _
    simpa using hp
theorem law_calls {f : FuncId} {fn : Func} {s : ChangeSpec} {apart fresh handsOn again : Bool} {W : World} {args : Array Value} {ds gs : List (DataW H)} {before : List MemPlace} {tb : TypeId} (hW : DataW.Whole enc P fn.params.toList s.vars apart W args.toList ds gs before) (hvars : s.vars = [])
    (hfn : s.fn H ds = { results := [.lit (.bool true)], args := ds }) (hres : fn.resultTypes = #[tb]) (htb : P.underlying tb = some .bool) (hl : laidOutB P = true) (hp : fn.params.toList.all (fun t => P.readableRec t && decide (t < P.types.size)) = true)
    (h : Calls P f args W fun e W' => e = .returned (.bool true) ∧ Below W.heap.size W W') :
    Calls P f args W fun e W' => ∃ v, e = .returned v ∧ s.post enc P fn apart fresh handsOn again W args v W' :=
  h.mono fun e W' ⟨he, hx⟩ => ⟨_, he, post_law hW hvars hfn hres htb hl hp hx⟩
theorem ints_in {W : World} {base b0 : Nat} {t e : TypeId} {k : IntKind} {v : Value} {d : DataW H} {p : List MemPlace} (ht : P.underlying t = some (.slice e)) (he : P.underlying e = some (.int k)) (hc : P.cellsOf e = 1) (hval : Value.okWide P W .any b0 t v)
    (h : DataW.Trod enc P W base (fun _ => true) true t v d p) : ∃ (ad : Option Addr) (c : Nat) (xs : List Int) (more : Nat), v = .slice ad xs.length c ∧ CellsAt W ad (xs.map (Value.int k)) ∧ (∀ x ∈ xs, (Lit.int k x).wf = true) ∧
      ((d = .nil ∧ xs = []) ∨ ∃ elems spare, d = .slice elems spare ∧ elems.length = xs.length) := by
  obtain ⟨fuel, hf⟩ := h
  rcases open_ints ht he hc hf with ⟨h1, h2⟩ | ⟨a, len, cap, zs, h1, h2, h3, h4, h5, h6, h7, h8⟩
  · refine ⟨none, 0, [], 0, ?_, CellsAt.nil _ _, by simp, .inl ⟨?_, rfl⟩⟩
    · cases v <;> simp_all [Value.cells]
      rename_i cs
      simp only [Value.okWide, ht] at hval
      simp [Cell.okWide, Cell.ok, ht] at hval
    · have := congrArg (fun x => x.1) h2; exact this
  · have hv : v = .slice (some a) len cap := by
      cases v <;> simp_all [Value.cells]
      rename_i cs
      simp only [Value.okWide, ht] at hval
      simp [Cell.okWide, Cell.ok, ht] at hval
    simp only [if_true] at h5
    have hlen : (zs.take len).length = len := by rw [List.length_take]; omega
    refine ⟨some a, cap, zs.take len, 0, by rw [hlen]; exact hv, ?_, fun x hx => h8 x (List.mem_of_mem_take hx), .inr ⟨lits k (zs.take len), lits k (zs.drop len), ?_, by simp [lits]⟩⟩
    · by_cases hz : zs.length = 0
      · left
        have : zs = [] := List.eq_nil_of_length_eq_zero hz
        simp [this]
      · have h0 := h7 0 (by omega)
        obtain ⟨b, o, sp⟩ := a
        have hsp : sp = none := by
          cases sp with
          | none => rfl
          | some q =>
            simp only [Addr.add, if_true, World.cell?] at h0
            split at h0 <;> simp at h0
        subst hsp
        refine .inr ⟨b, o, rfl, fun j u hj => ?_⟩
        rw [List.getElem?_map] at hj
        obtain ⟨x, hx, rfl⟩ := Option.map_eq_some_iff.1 hj
        rw [List.getElem?_take] at hx
        split at hx
        · have hj2 : j < zs.length := (List.getElem?_eq_some_iff.1 hx).1
          have := h7 j hj2
          rw [add_lit] at this
          rw [this, List.getD_eq_getElem?_getD, hx]
          rfl
        · cases hx
    · exact congrArg (fun x => x.1) h6
end
theorem reach_le {n b : Nat} (h : n * b ≤ reachBytes) : n * b ≤ 140737488351232 := h
end Go.Proofs.YtjdohhididpomaaDoor.Lw
end

section
namespace Go.Proofs.YtjdohhididpomaaDoor.Bulk
open Go
theorem one_le {H : Type} (d : DataW H) : 1 ≤ Rows.uptoBulk d := by
  cases d with
  | lit l => cases l <;> simp [Rows.uptoBulk]
  | _ => simp only [Rows.uptoBulk]; omega
theorem part_le {H : Type} {d : DataW H} {l : List (DataW H)} (h : d ∈ l) : Rows.uptoBulk d ≤ Rows.uptoBulkAll l := by
  induction l with
  | nil => cases h
  | cons x r ih =>
    simp only [Rows.uptoBulkAll]
    rcases List.mem_cons.1 h with rfl | h
    · omega
    · have := ih h; omega
theorem length_le {H : Type} (l : List (DataW H)) : l.length ≤ Rows.uptoBulkAll l := by
  induction l with
  | nil => simp
  | cons x r ih => have := one_le x; simp only [Rows.uptoBulkAll, List.length_cons]; omega
theorem small {H : Type} {l : List (DataW H)} (hk : Rows.uptoSmall H l = true) : Rows.uptoBulkAll l ≤ 1048576 := of_decide_eq_true hk
theorem slice {H : Type} {l : List (DataW H)} {elems spare : List (DataW H)} (hk : Rows.uptoSmall H l = true) (h : DataW.slice elems spare ∈ l) : elems.length ≤ 1048576 := by
  have h1 := small hk
  have h2 := part_le h
  have h3 := length_le elems
  simp only [Rows.uptoBulk] at h2
  omega
theorem string {H : Type} {l : List (DataW H)} {bytes : List UInt8} (hk : Rows.uptoSmall H l = true) (h : DataW.lit (.string bytes) ∈ l) : bytes.length ≤ 1048576 := by
  have h1 := small hk
  have h2 := part_le h
  simp only [Rows.uptoBulk] at h2
  omega
end Go.Proofs.YtjdohhididpomaaDoor.Bulk
end

section
namespace Go.Proofs.YtjdohhididpomaaDoor
open Go Go.Shelf Go.RowKit Go.Lib
def u8laid : List (String × DataW Unit) := [("unicode/utf8.acceptRanges", Rows.laid_unicode_utf8_acceptRanges), ("unicode/utf8.first", Rows.laid_unicode_utf8_first)]
theorem first_is : Rows.laid_unicode_utf8_first = Lib.firstData := by kernel_rfl
theorem accept_is : (Rows.laid_unicode_utf8_acceptRanges : DataW Unit) = Lib.acceptData := by kernel_rfl
theorem u8_of {W : World} (hL : laidMet Tryd.prog u8laid W) : U8 W := by
  have h3 := Lib.laidMet.reads hL (n := "unicode/utf8.first") (d := Lib.firstData) (by rw [← first_is]; exact .tail _ (.head _))
  have h4 := Lib.laidMet.reads hL (n := "unicode/utf8.acceptRanges") (d := Lib.acceptData) (by rw [← accept_is]; exact .head _)
  exact utf8Tabs_of_reads Tryd.lays260 ⟨by kernel_rfl, by kernel_rfl, by kernel_rfl, by kernel_rfl, by kernel_rfl, by kernel_rfl, by kernel_rfl⟩ h3 h4
noncomputable def laidWorld (os : Os) : World :=
  let w0 := World.holding Tryd.prog os ⟨#[], #[], []⟩
  let put (h : Array Obj) (g : Nat) (cs : Array Value) : Array Obj := h.modify g fun
    | .cells _ t frozen => .cells cs t frozen
    | o => o
  let h1 := put w0.heap 0 (Lib.firstTab.map fun z => Value.int .u8 z).toArray
  let h2 := put h1 1 ((List.range 16).flatMap fun i => [Value.int .u8 (Lib.accLo i), Value.int .u8 (Lib.accHi i)]).toArray
  { w0 with heap := h2 }
theorem laid_met (os : Os) (args : Array Value) : laidMet Tryd.prog u8laid ((laidWorld os).forCall (fun _ _ => 0) ⟨#[], args, []⟩).memory :=
  (LaidIn.of_run (l := u8laid) [1, 0] 8 (by kernel_rfl) (by kernel_rfl) (by kernel_rfl) (by kernel_rfl)).met
end Go.Proofs.YtjdohhididpomaaDoor
end

section
namespace Go.Proofs.YtjdohhididpomaaDoor
open Go Go.Shelf Go.RowKit Go.Lib
def shlaid : List (String × DataW Unit) := [("math/bits.deBruijn32tab", Rows.laid_math_bits_deBruijn32tab), ("math/bits.deBruijn64tab", Rows.laid_math_bits_deBruijn64tab), ("internal/strconv.uint64pow10", Rows.laid_internal_strconv_uint64pow10), ("unicode/utf8.acceptRanges", Rows.laid_unicode_utf8_acceptRanges), ("unicode/utf8.first", Rows.laid_unicode_utf8_first)]
set_option maxRecDepth 100000 in
theorem db_of {W : World} (h : VarReads Tryd.prog W "math/bits.deBruijn64tab" Rows.laid_math_bits_deBruijn64tab) : DB W := by
  obtain ⟨g, t, cs, fuel, p, hg, hty, hvar, hd⟩ := h
  obtain rfl := Option.some.inj ((show Tryd.prog.globalNamed "math/bits.deBruijn64tab" = some 5 by kernel_rfl).symm.trans hg)
  obtain rfl := Option.some.inj ((show (Tryd.prog.globals[5]?).map (·.type) = some 153 by kernel_rfl).symm.trans hty)
  obtain ⟨fuel', d, q, hdi, he⟩ := array_elem (n := 64) (e := 5) (by kernel_rfl) hd 15 (by decide)
  obtain ⟨z, hz, hx, _⟩ := DataW.trod_int (k := .u8) (by kernel_rfl) he
  have hd4 : d = .lit (.int .u8 4) := by
    have : (some d : Option (DataW Unit)) = some (.lit (.int .u8 4)) := hdi.symm.trans (by kernel_rfl)
    exact Option.some.inj this
  have hz4 : z = 4 := by
    have := congrArg (fun x => x.1) hx
    rw [hd4] at this
    injection this with h1
    injection h1 with _ h2
    exact h2.symm
  subst hz4
  show W.cell? _ = _
  rw [World.var?_cell hg hvar 15, ← Array.getElem?_toList]
  have := congrArg (·[0]?) hz
  rw [show Tryd.prog.cellsOf 5 = 1 from by kernel_rfl] at this
  simpa [List.getElem?_take, List.getElem?_drop] using this
theorem ud_of {W : World} (hL : laidMet Tryd.prog shlaid W) : U8 W ∧ DB W := by
  have h3 := Lib.laidMet.reads hL (n := "unicode/utf8.first") (d := Lib.firstData) (by rw [← first_is]; exact .tail _ (.tail _ (.tail _ (.tail _ (.head _)))))
  have h4 := Lib.laidMet.reads hL (n := "unicode/utf8.acceptRanges") (d := Lib.acceptData) (by rw [← accept_is]; exact .tail _ (.tail _ (.tail _ (.head _))))
  have h5 := Lib.laidMet.reads hL (n := "math/bits.deBruijn64tab") (d := Rows.laid_math_bits_deBruijn64tab) (.tail _ (.head _))
  exact ⟨utf8Tabs_of_reads Tryd.lays260 ⟨by kernel_rfl, by kernel_rfl, by kernel_rfl, by kernel_rfl, by kernel_rfl, by kernel_rfl, by kernel_rfl⟩ h3 h4, db_of h5⟩
def flatV : DataW Unit → List Value
  | .agg l => l.filterMap fun
    | .lit (.int k n) => some (.int k n)
    | _ => none
  | _ => []
noncomputable def shWorld (os : Os) : World :=
  let w0 := laidWorld os
  let put (h : Array Obj) (g : Nat) (cs : Array Value) : Array Obj := h.modify g fun
    | .cells _ t frozen => .cells cs t frozen
    | o => o
  let h1 := put w0.heap 4 (flatV Rows.laid_math_bits_deBruijn32tab).toArray
  let h2 := put h1 5 (flatV Rows.laid_math_bits_deBruijn64tab).toArray
  let h3 := put h2 2 (flatV Rows.laid_internal_strconv_uint64pow10).toArray
  { w0 with heap := h3 }
theorem sh_met (os : Os) (args : Array Value) : laidMet Tryd.prog shlaid ((shWorld os).forCall (fun _ _ => 0) ⟨#[], args, []⟩).memory :=
  (LaidIn.of_run (l := shlaid) [4, 5, 2, 1, 0] 8 (by kernel_rfl) (by kernel_rfl) (by kernel_rfl) (by kernel_rfl)).met
def isStruct : Option TypeDesc → Bool
  | some (.struct _) => true
  | _ => false
theorem look_in {P : Program} {W : World} {r : Reach} {base : Nat} {t ti tb t8 : TypeId} {v : Value} (ht : isStruct (P.underlying t) = true) (hc : P.cellTypes P.depth t = some [ti, tb, t8, tb, tb]) (hn : P.cellsOf t = 5)
    (hi : P.underlying ti = some (.int .i64)) (hb : P.underlying tb = some .bool) (h8 : P.underlying t8 = some (.int .i8)) (hv : Value.okWide P W r base t v) : ∃ l : Lk, v = lkV l := by
  obtain ⟨fs, ht⟩ : ∃ fs, P.underlying t = some (.struct fs) := by
    unfold isStruct at ht
    split at ht
    · rename_i fs h; exact ⟨fs, h⟩
    · cases ht
  unfold Value.okWide at hv
  rw [ht] at hv
  obtain ⟨cs, rfl, hsz, ts, hts, _, hall⟩ := hv
  rw [hc] at hts
  cases hts
  rw [hn] at hsz
  have ok_i : ∀ {k : IntKind} {u : TypeId} {x : Value}, P.underlying u = some (.int k) → Cell.okWide P W r base u x → ∃ n, x = .int k n := by
    intro k u x hu h
    unfold Cell.okWide at h
    rw [hu] at h
    simp only [Cell.ok, hu] at h
    cases x <;> simp_all
  have ok_b : ∀ {u : TypeId} {x : Value}, P.underlying u = some .bool → Cell.okWide P W r base u x → ∃ n, x = .bool n := by
    intro u x hu h
    unfold Cell.okWide at h
    rw [hu] at h
    simp only [Cell.ok, hu] at h
    cases x <;> simp_all
  have at' : ∀ (j : Nat) (hj : j < cs.size) (u : TypeId), [ti, tb, t8, tb, tb][j % 5]? = some u → Cell.okWide P W r base u cs[j] := by
    intro j hj u hu
    obtain ⟨u', h1, h2⟩ := hall j cs[j] (Array.getElem?_eq_getElem hj)
    have h1 : [ti, tb, t8, tb, tb][j % 5]? = some u' := h1
    rw [hu] at h1
    cases h1
    exact h2
  obtain ⟨a, ha⟩ := ok_i hi (at' 0 (by omega) ti rfl)
  obtain ⟨b, hb1⟩ := ok_b hb (at' 1 (by omega) tb rfl)
  obtain ⟨c, hc2⟩ := ok_i h8 (at' 2 (by omega) t8 rfl)
  obtain ⟨d, hd3⟩ := ok_b hb (at' 3 (by omega) tb rfl)
  obtain ⟨e, he4⟩ := ok_b hb (at' 4 (by omega) tb rfl)
  refine ⟨⟨a, b, c, d, e⟩, ?_⟩
  unfold lkV
  congr 1
  apply Array.ext
  · rw [hsz]; rfl
  · intro i h1 h2
    have : i = 0 ∨ i = 1 ∨ i = 2 ∨ i = 3 ∨ i = 4 := by omega
    rcases this with rfl | rfl | rfl | rfl | rfl
    · exact ha
    · exact hb1
    · exact hc2
    · exact hd3
    · exact he4
end Go.Proofs.YtjdohhididpomaaDoor
end
