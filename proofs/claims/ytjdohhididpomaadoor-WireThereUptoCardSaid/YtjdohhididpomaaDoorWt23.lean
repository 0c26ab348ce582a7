/-
  Texts joined by program: VgXt, WkYd, Lw, Bulk, Lg, U8.
-/
import Derived.Test.YtjdohhididpomaaDoorWt22
import Derived.Test.YtjdohhididpomaaDoorProg
import Derived.KernelRfl
import Derived.Test.YtjdohhididpomaaDoorWt17
import Derived.Test.YtjdohhididpomaaDoorRows
import Derived.Test.YtjdohhididpomaaDoorWt03
import Derived.WalkKit
import Derived.ProofKit
import Derived.OpenShut
import Derived.JoinedCond
import Derived.SizedLaws
import Derived.Carry
import Derived.Test.YtjdohhididpomaaDoorWt09
import Derived.Deep.Slices
import Derived.ChangeSame
import Derived.Lib.LaidIn
import Derived.Lib.LaidU8
set_option linter.unusedVariables false
set_option linter.unusedSimpArgs false

section
set_option linter.unusedVariables false
namespace Go.Proofs.YtjdohhididpomaaDoor
open Go Go.RowKit Vc Ut Tb Cl
set_option maxRecDepth 1000000 in
theorem there_vc (hsp : SpecsOk Tryd.prog spThere) (h : ∀ (g : GThs) (w : World), UP w ∧ grsIn w g.ad g.l → bcase (decide ((↑g.l.length : Int) > (12 : Int))) (∃ (g1 : Unit), (#[] : Array Value) = #[] ∧ UP w ∧ ∀ (x : Unit) (w' : World), Ext w w' → ∃ (x1 : Unit), Value.bool true = Value.bool true ∧ Ext w w') (∃ (g1 : Unit), (#[] : Array Value) = #[] ∧ UP w ∧ ∀ (x : Unit) (w' : World), Ext w w' → ∀ (b : Nat) (w1 : World), New w' (Obj.cells #[Value.int .i64 (-1 : Int), Value.int .i64 0, Value.slice none (0 : Nat) (0 : Nat), Value.int .i64 0, Value.int .i64 0] (27 : Nat)) b w1 → (∃ (x1 : ThX), Value.int .i64 0 = Value.int .i64 (↑x1.i : Int) ∧ Value.pointer none = Value.pointer (ptT x1.o) ∧ ThI g w x1 w1 (ptB (Value.pointer (some ⟨b, 0, none⟩)))) ∧ ∀ (u : Nat → Value) (x1 : ThX) (w'1 : World), ThI g w x1 w'1 (ptB (Value.pointer (some ⟨b, 0, none⟩))) → bcase (decide ((↑x1.i : Int) < (↑g.l.length : Int))) (∃ (k : Nat), (↑x1.i : Int) = (↑k : Int) ∧ k < g.l.length ∧ ptrE g.ad fun (b1 o : Nat) => ∃ (n : Int), w'1.cell? ⟨b1, o + k * 5, none⟩ = some (Value.int .i64 n) ∧ ∃ (n1 : Int), w'1.cell? ⟨b1, o + k * 5 + 1, none⟩ = some (Value.int .i64 n1) ∧ ∃ (a4 : Option Addr) (n2 : Nat) (c : Nat), w'1.cell? ⟨b1, o + k * 5 + 2, none⟩ = some (Value.slice a4 n2 c) ∧ ∃ (n3 : Int), w'1.cell? ⟨b1, o + k * 5 + 3, none⟩ = some (Value.int .i64 n3) ∧ ∃ (n4 : Int), w'1.cell? ⟨b1, o + k * 5 + 4, none⟩ = some (Value.int .i64 n4) ∧ ∀ (b2 : Nat) (w11 : World), New w'1 (Obj.cells #[Value.int .i64 n, Value.int .i64 n1, Value.slice a4 n2 c, Value.int .i64 n3, Value.int .i64 n4] (27 : Nat)) b2 w11 → (∃ (a6 : Option Addr) (n5 : Nat) (c1 : Nat), w11.cell? ⟨b2, 2, none⟩ = some (Value.slice a6 n5 c1) ∧ bcase (decide ((↑n5 : Int) > (4096 : Int))) (∃ (x2 : Unit), Value.bool true = Value.bool true ∧ Ext w w11) (∃ (a7 : Option Addr) (n6 : Nat) (c2 : Nat), w11.cell? ⟨b2, 2, none⟩ = some (Value.slice a7 n6 c2) ∧ ∃ (g2 : GCs), #[Value.slice a7 n6 c2] = #[Value.slice g2.ad g2.cs.length g2.c] ∧ (CellsAt w11 g2.ad (flat g2.cs) ∧ bulkC g2.cs ≤ 16777216) ∧ ∀ (x2 : Unit) (w'2 : World), Ext w11 w'2 → ∃ (c3 : Unit), Ext w11 w'2 ∧ (eAt g (↑x1.i : Int).toNat).g.cs.length ≤ 4096)) ∧ ∀ (u1 : Nat → Value) (c1 : Unit) (w'2 : World), Ext w11 w'2 ∧ (eAt g (↑x1.i : Int).toNat).g.cs.length ≤ 4096 → ∃ (n5 : Int), w'2.cell? ⟨b2, 0, none⟩ = some (Value.int .i64 n5) ∧ ∃ (n6 : Int), w'2.cell? ⟨b2, 1, none⟩ = some (Value.int .i64 n6) ∧ ∃ (a7 : Option Addr) (n7 : Nat) (c2 : Nat), w'2.cell? ⟨b2, 2, none⟩ = some (Value.slice a7 n7 c2) ∧ ∃ (n8 : Int), w'2.cell? ⟨b2, 3, none⟩ = some (Value.int .i64 n8) ∧ ∃ (n9 : Int), w'2.cell? ⟨b2, 4, none⟩ = some (Value.int .i64 n9) ∧ ∃ (g2 : GGr), #[Value.agg #[Value.int .i64 n5, Value.int .i64 n6, Value.slice a7 n7 c2, Value.int .i64 n8, Value.int .i64 n9], Value.bool g.wd] = #[Value.agg #[Value.int .i64 g2.g.w, Value.int .i64 g2.g.h, Value.slice g2.ad g2.g.cs.length g2.c, Value.int .i64 g2.g.x, Value.int .i64 g2.g.y], Value.bool g2.wd] ∧ (UD w'2 ∧ grIn w'2 g2.ad g2.g.cs) ∧
 ∀ (x2 : Bool) (w'3 : World), x2 = rightB g2.g g2.wd ∧ Ext w'2 w'3 → bcase (!x2) (∃ (n10 : Int), w'3.cell? ⟨b, 0, none⟩ = some (Value.int .i64 n10) ∧ ∃ (n11 : Int), w'3.cell? ⟨b, 1, none⟩ = some (Value.int .i64 n11) ∧ ∃ (a9 : Option Addr) (n12 : Nat) (c3 : Nat), w'3.cell? ⟨b, 2, none⟩ = some (Value.slice a9 n12 c3) ∧ ∃ (n13 : Int), w'3.cell? ⟨b, 3, none⟩ = some (Value.int .i64 n13) ∧ ∃ (n14 : Int), w'3.cell? ⟨b, 4, none⟩ = some (Value.int .i64 n14) ∧ ∃ (n15 : Int), w'3.cell? ⟨b2, 0, none⟩ = some (Value.int .i64 n15) ∧ ∃ (n16 : Int), w'3.cell? ⟨b2, 1, none⟩ = some (Value.int .i64 n16) ∧ ∃ (a10 : Option Addr) (n17 : Nat) (c4 : Nat), w'3.cell? ⟨b2, 2, none⟩ = some (Value.slice a10 n17 c4) ∧ ∃ (n18 : Int), w'3.cell? ⟨b2, 3, none⟩ = some (Value.int .i64 n18) ∧ ∃ (n19 : Int), w'3.cell? ⟨b2, 4, none⟩ = some (Value.int .i64 n19) ∧ ∃ (g3 : GDf), #[Value.agg #[Value.int .i64 n10, Value.int .i64 n11, Value.slice a9 n12 c3, Value.int .i64 n13, Value.int .i64 n14], Value.agg #[Value.int .i64 n15, Value.int .i64 n16, Value.slice a10 n17 c4, Value.int .i64 n18, Value.int .i64 n19], Value.bool g.wd] = #[Value.agg #[Value.int .i64 g3.g1.w, Value.int .i64 g3.g1.h, Value.slice g3.a1 g3.g1.cs.length g3.c1, Value.int .i64 g3.g1.x, Value.int .i64 g3.g1.y], Value.agg #[Value.int .i64 g3.g2.w, Value.int .i64 g3.g2.h, Value.slice g3.a2 g3.g2.cs.length g3.c2, Value.int .i64 g3.g2.x, Value.int .i64 g3.g2.y], Value.bool g3.wd] ∧ (UDB w'3.heap.size w'3 ∧ P10 w'3.heap.size w'3 ∧ grIn w'3 g3.a1 g3.g1.cs ∧ grIn w'3 g3.a2 g3.g2.cs ∧ bulkG g3.g1 g3.g2) ∧ ∀ (x3 : Option Addr × Nat × Nat) (w'4 : World), Made w'3 w'4 (5 : TypeId) (1 : Nat) x3.fst x3.snd.fst (bytesV ((diffB g3.g1 g3.g2 g3.wd).getD (ByteArray.mk #[]))) x3.snd.snd → bcase ((↑x3.snd.fst : Int) != (0 : Int)) (∃ (x4 : Unit), Value.bool false = Value.bool true ∧ Ext w w'4) (InR .i64 ((↑x1.i : Int) + (1 : Int)) ∧ ∃ (y : ThX), Value.int .i64 ((↑x1.i : Int) + (1 : Int)) = Value.int .i64 (↑y.i : Int) ∧ Value.pointer (ptT x1.o) = Value.pointer (ptT y.o) ∧ ThI g w y w'4 (ptB (Value.pointer (some ⟨b, 0, none⟩))) ∧ g.l.length - y.i < g.l.length - x1.i)) (bcase (ptT x1.o).isNone (∃ (n10 : Int), w'3.cell? ⟨b2, 0, none⟩ = some (Value.int .i64 n10) ∧ ∃ (n11 : Int), w'3.cell? ⟨b2, 1, none⟩ = some (Value.int .i64 n11) ∧ ∃ (g3 : Nat × Nat × Bool), #[Value.int .i64 n10, Value.int .i64 n11, Value.bool g.wd] = #[Value.int .i64 (↑g3.fst : Int), Value.int .i64 (↑g3.snd.fst : Int), Value.bool g3.snd.snd] ∧ (UDB w'3.heap.size w'3 ∧ g3.fst ≤ 1024 ∧ g3.snd.fst ≤ 1024) ∧ ∀ (x3 : GlP) (w'4 : World), Ext w'3 w'4 ∧ x3.B = w'3.heap.size ∧ GlIn w'4 x3 (newG g3.fst g3.snd.fst g3.snd.snd) ∧ GlRd w'4 x3 none (0 : Nat) (ByteArray.mk #[]) → (∃ (c3 : Unit), w'4 = w'4) ∧ ∀ (u2 : Nat → Value) (c3 : Unit) (w'5 : World), w'5 = w'4 → true = true ∧ (∃ (old : Value), w'5.cell? ⟨b, 0, none⟩ = some old) ∧ w'5.frozen? ⟨b, 0, none⟩ = false ∧ ∀ (w12 : World), Stored w'5 ⟨b, 0, none⟩ (Value.int .i64 (-1 : Int)) w12 → true = true ∧
 (∃ (old : Value), w12.cell? ⟨b, 1, none⟩ = some old) ∧ w12.frozen? ⟨b, 1, none⟩ = false ∧ ∀ (w13 : World), Stored w12 ⟨b, 1, none⟩ (Value.int .i64 0) w13 → true = true ∧ (∃ (old : Value), w13.cell? ⟨b, 2, none⟩ = some old) ∧ w13.frozen? ⟨b, 2, none⟩ = false ∧ ∀ (w14 : World), Stored w13 ⟨b, 2, none⟩ (Value.slice none (0 : Nat) (0 : Nat)) w14 → true = true ∧ (∃ (old : Value), w14.cell? ⟨b, 3, none⟩ = some old) ∧ w14.frozen? ⟨b, 3, none⟩ = false ∧ ∀ (w15 : World), Stored w14 ⟨b, 3, none⟩ (Value.int .i64 0) w15 → true = true ∧ (∃ (old : Value), w15.cell? ⟨b, 4, none⟩ = some old) ∧ w15.frozen? ⟨b, 4, none⟩ = false ∧ ∀ (w16 : World), Stored w15 ⟨b, 4, none⟩ (Value.int .i64 0) w16 → ∃ (c4 : ThA × GrE), Value.pointer (some ⟨x3.p, 0, none⟩) = Value.pointer (some ⟨c4.fst.A.p, 0, none⟩) ∧ ThJ g w (↑x1.i : Int).toNat c4.fst c4.snd (eAt g (↑x1.i : Int).toNat) w16 (ptB (Value.pointer (some ⟨b, 0, none⟩))) ∧ boxE w16 (ptB (Value.pointer (some ⟨b2, 0, none⟩))) (eAt g (↑x1.i : Int).toNat) ∧ ¬ownR c4.fst.A c4.fst.ha (ByteArray.mk #[]) (ptB (Value.pointer (some ⟨b2, 0, none⟩))) ∧ Value.pointer (ptT x1.o) = Value.pointer (ptT x1.o)) (∃ (n10 : Int), w'3.cell? ⟨b, 0, none⟩ = some (Value.int .i64 n10) ∧ ∃ (n11 : Int), w'3.cell? ⟨b2, 0, none⟩ = some (Value.int .i64 n11) ∧ bcase (n10 != n11) (∃ (n12 : Int), w'3.cell? ⟨b2, 0, none⟩ = some (Value.int .i64 n12) ∧ ∃ (n13 : Int), w'3.cell? ⟨b2, 1, none⟩ = some (Value.int .i64 n13) ∧ ∃ (g3 : Nat × Nat × Bool), #[Value.int .i64 n12, Value.int .i64 n13, Value.bool g.wd] = #[Value.int .i64 (↑g3.fst : Int), Value.int .i64 (↑g3.snd.fst : Int), Value.bool g3.snd.snd] ∧ (UDB w'3.heap.size w'3 ∧ g3.fst ≤ 1024 ∧ g3.snd.fst ≤ 1024) ∧ ∀ (x3 : GlP) (w'4 : World), Ext w'3 w'4 ∧ x3.B = w'3.heap.size ∧ GlIn w'4 x3 (newG g3.fst g3.snd.fst g3.snd.snd) ∧ GlRd w'4 x3 none (0 : Nat) (ByteArray.mk #[]) → (∃ (c3 : Unit), w'4 = w'4) ∧ ∀ (u2 : Nat → Value) (c3 : Unit) (w'5 : World), w'5 = w'4 → true = true ∧ (∃ (old : Value), w'5.cell? ⟨b, 0, none⟩ = some old) ∧ w'5.frozen? ⟨b, 0, none⟩ = false ∧ ∀ (w12 : World), Stored w'5 ⟨b, 0, none⟩ (Value.int .i64 (-1 : Int)) w12 → true = true ∧ (∃ (old : Value), w12.cell? ⟨b, 1, none⟩ = some old) ∧ w12.frozen? ⟨b, 1, none⟩ = false ∧ ∀ (w13 : World), Stored w12 ⟨b, 1, none⟩ (Value.int .i64 0) w13 → true = true ∧ (∃ (old : Value), w13.cell? ⟨b, 2, none⟩ = some old) ∧ w13.frozen? ⟨b, 2, none⟩ = false ∧ ∀ (w14 : World), Stored w13 ⟨b, 2, none⟩ (Value.slice none (0 : Nat) (0 : Nat)) w14 → true = true ∧ (∃ (old : Value), w14.cell? ⟨b, 3, none⟩ = some old) ∧ w14.frozen? ⟨b, 3, none⟩ = false ∧ ∀ (w15 : World), Stored w14 ⟨b, 3, none⟩ (Value.int .i64 0) w15 → true = true ∧ (∃ (old : Value), w15.cell? ⟨b, 4, none⟩ = some old) ∧ w15.frozen? ⟨b, 4, none⟩ = false ∧ ∀ (w16 : World), Stored w15 ⟨b, 4, none⟩ (Value.int .i64 0) w16 → ∃ (c4 : ThA × GrE), Value.pointer (some ⟨x3.p, 0, none⟩) = Value.pointer (some ⟨c4.fst.A.p, 0, none⟩) ∧ ThJ g w (↑x1.i : Int).toNat c4.fst c4.snd (eAt g (↑x1.i : Int).toNat) w16
 (ptB (Value.pointer (some ⟨b, 0, none⟩))) ∧ boxE w16 (ptB (Value.pointer (some ⟨b2, 0, none⟩))) (eAt g (↑x1.i : Int).toNat) ∧ ¬ownR c4.fst.A c4.fst.ha (ByteArray.mk #[]) (ptB (Value.pointer (some ⟨b2, 0, none⟩))) ∧ Value.pointer (ptT x1.o) = Value.pointer (ptT x1.o)) (∃ (n12 : Int), w'3.cell? ⟨b, 1, none⟩ = some (Value.int .i64 n12) ∧ ∃ (n13 : Int), w'3.cell? ⟨b2, 1, none⟩ = some (Value.int .i64 n13) ∧ bcase (n12 != n13) (∃ (n14 : Int), w'3.cell? ⟨b2, 0, none⟩ = some (Value.int .i64 n14) ∧ ∃ (n15 : Int), w'3.cell? ⟨b2, 1, none⟩ = some (Value.int .i64 n15) ∧ ∃ (g3 : Nat × Nat × Bool), #[Value.int .i64 n14, Value.int .i64 n15, Value.bool g.wd] = #[Value.int .i64 (↑g3.fst : Int), Value.int .i64 (↑g3.snd.fst : Int), Value.bool g3.snd.snd] ∧ (UDB w'3.heap.size w'3 ∧ g3.fst ≤ 1024 ∧ g3.snd.fst ≤ 1024) ∧ ∀ (x3 : GlP) (w'4 : World), Ext w'3 w'4 ∧ x3.B = w'3.heap.size ∧ GlIn w'4 x3 (newG g3.fst g3.snd.fst g3.snd.snd) ∧ GlRd w'4 x3 none (0 : Nat) (ByteArray.mk #[]) → (∃ (c3 : Unit), w'4 = w'4) ∧ ∀ (u2 : Nat → Value) (c3 : Unit) (w'5 : World), w'5 = w'4 → true = true ∧ (∃ (old : Value), w'5.cell? ⟨b, 0, none⟩ = some old) ∧ w'5.frozen? ⟨b, 0, none⟩ = false ∧ ∀ (w12 : World), Stored w'5 ⟨b, 0, none⟩ (Value.int .i64 (-1 : Int)) w12 → true = true ∧ (∃ (old : Value), w12.cell? ⟨b, 1, none⟩ = some old) ∧ w12.frozen? ⟨b, 1, none⟩ = false ∧ ∀ (w13 : World), Stored w12 ⟨b, 1, none⟩ (Value.int .i64 0) w13 → true = true ∧ (∃ (old : Value), w13.cell? ⟨b, 2, none⟩ = some old) ∧ w13.frozen? ⟨b, 2, none⟩ = false ∧ ∀ (w14 : World), Stored w13 ⟨b, 2, none⟩ (Value.slice none (0 : Nat) (0 : Nat)) w14 → true = true ∧ (∃ (old : Value), w14.cell? ⟨b, 3, none⟩ = some old) ∧ w14.frozen? ⟨b, 3, none⟩ = false ∧ ∀ (w15 : World), Stored w14 ⟨b, 3, none⟩ (Value.int .i64 0) w15 → true = true ∧ (∃ (old : Value), w15.cell? ⟨b, 4, none⟩ = some old) ∧ w15.frozen? ⟨b, 4, none⟩ = false ∧ ∀ (w16 : World), Stored w15 ⟨b, 4, none⟩ (Value.int .i64 0) w16 → ∃ (c4 : ThA × GrE), Value.pointer (some ⟨x3.p, 0, none⟩) = Value.pointer (some ⟨c4.fst.A.p, 0, none⟩) ∧ ThJ g w (↑x1.i : Int).toNat c4.fst c4.snd (eAt g (↑x1.i : Int).toNat) w16 (ptB (Value.pointer (some ⟨b, 0, none⟩))) ∧ boxE w16 (ptB (Value.pointer (some ⟨b2, 0, none⟩))) (eAt g (↑x1.i : Int).toNat) ∧ ¬ownR c4.fst.A c4.fst.ha (ByteArray.mk #[]) (ptB (Value.pointer (some ⟨b2, 0, none⟩))) ∧ Value.pointer (ptT x1.o) = Value.pointer (ptT x1.o)) (∃ (c3 : ThA × GrE), Value.pointer (ptT x1.o) = Value.pointer (some ⟨c3.fst.A.p, 0, none⟩) ∧ ThJ g w (↑x1.i : Int).toNat c3.fst c3.snd (eAt g (↑x1.i : Int).toNat) w'3 (ptB (Value.pointer (some ⟨b, 0, none⟩))) ∧ boxE w'3 (ptB (Value.pointer (some ⟨b2, 0, none⟩))) (eAt g (↑x1.i : Int).toNat) ∧ ¬ownR c3.fst.A c3.fst.ha (ByteArray.mk #[]) (ptB (Value.pointer (some ⟨b2, 0, none⟩))) ∧ Value.pointer (ptT x1.o) = Value.pointer (ptT x1.o)))) ∧ ∀ (u2 : Nat → Value) (c3 : ThA × GrE) (w'4 : World), ThJ g w (↑x1.i : Int).toNat c3.fst c3.snd (eAt g (↑x1.i : Int).toNat) w'4 (ptB (Value.pointer (some ⟨b, 0, none⟩))) ∧
 boxE w'4 (ptB (Value.pointer (some ⟨b2, 0, none⟩))) (eAt g (↑x1.i : Int).toNat) ∧ ¬ownR c3.fst.A c3.fst.ha (ByteArray.mk #[]) (ptB (Value.pointer (some ⟨b2, 0, none⟩))) ∧ Value.pointer (ptT x1.o) = Value.pointer (ptT x1.o) → ((0 : Int) ≤ (↑x1.i : Int) ∧ (0 : Int) < (3 : Int) ∧ bcase ((↑x1.i : Int) % (3 : Int) == (1 : Int)) (true = true ∧ (∃ (old : Value), w'4.cell? ⟨b, 0, none⟩ = some old) ∧ w'4.frozen? ⟨b, 0, none⟩ = false ∧ ∀ (w12 : World), Stored w'4 ⟨b, 0, none⟩ (Value.int .i64 (-1 : Int)) w12 → true = true ∧ (∃ (old : Value), w12.cell? ⟨b, 1, none⟩ = some old) ∧ w12.frozen? ⟨b, 1, none⟩ = false ∧ ∀ (w13 : World), Stored w12 ⟨b, 1, none⟩ (Value.int .i64 0) w13 → true = true ∧ (∃ (old : Value), w13.cell? ⟨b, 2, none⟩ = some old) ∧ w13.frozen? ⟨b, 2, none⟩ = false ∧ ∀ (w14 : World), Stored w13 ⟨b, 2, none⟩ (Value.slice none (0 : Nat) (0 : Nat)) w14 → true = true ∧ (∃ (old : Value), w14.cell? ⟨b, 3, none⟩ = some old) ∧ w14.frozen? ⟨b, 3, none⟩ = false ∧ ∀ (w15 : World), Stored w14 ⟨b, 3, none⟩ (Value.int .i64 0) w15 → true = true ∧ (∃ (old : Value), w15.cell? ⟨b, 4, none⟩ = some old) ∧ w15.frozen? ⟨b, 4, none⟩ = false ∧ ∀ (w16 : World), Stored w15 ⟨b, 4, none⟩ (Value.int .i64 0) w16 → ∃ (c4 : GrE) (t : ThA), Value.pointer (some ⟨c3.fst.A.p, 0, none⟩) = Value.pointer (some ⟨t.A.p, 0, none⟩) ∧ ThJ g w (↑x1.i : Int).toNat t c4 (eAt g (↑x1.i : Int).toNat) w16 (ptB (Value.pointer (some ⟨b, 0, none⟩))) ∧ boxE w16 (ptB (Value.pointer (some ⟨b2, 0, none⟩))) (eAt g (↑x1.i : Int).toNat) ∧ ¬ownR t.A t.ha (ByteArray.mk #[]) (ptB (Value.pointer (some ⟨b2, 0, none⟩)))) (∃ (c4 : GrE) (t : ThA), Value.pointer (some ⟨c3.fst.A.p, 0, none⟩) = Value.pointer (some ⟨t.A.p, 0, none⟩) ∧ ThJ g w (↑x1.i : Int).toNat t c4 (eAt g (↑x1.i : Int).toNat) w'4 (ptB (Value.pointer (some ⟨b, 0, none⟩))) ∧ boxE w'4 (ptB (Value.pointer (some ⟨b2, 0, none⟩))) (eAt g (↑x1.i : Int).toNat) ∧ ¬ownR t.A t.ha (ByteArray.mk #[]) (ptB (Value.pointer (some ⟨b2, 0, none⟩))))) ∧ ∀ (u3 : Nat → Value) (c4 : GrE) (w'5 : World), (∃ (t : ThA), Value.pointer (some ⟨c3.fst.A.p, 0, none⟩) = Value.pointer (some ⟨t.A.p, 0, none⟩) ∧ ThJ g w (↑x1.i : Int).toNat t c4 (eAt g (↑x1.i : Int).toNat) w'5 (ptB (Value.pointer (some ⟨b, 0, none⟩))) ∧ boxE w'5 (ptB (Value.pointer (some ⟨b2, 0, none⟩))) (eAt g (↑x1.i : Int).toNat) ∧ ¬ownR t.A t.ha (ByteArray.mk #[]) (ptB (Value.pointer (some ⟨b2, 0, none⟩)))) → ∃ (n10 : Int), w'5.cell? ⟨b, 0, none⟩ = some (Value.int .i64 n10) ∧ ∃ (n11 : Int), w'5.cell? ⟨b, 1, none⟩ = some (Value.int .i64 n11) ∧ ∃ (a11 : Option Addr) (n12 : Nat) (c5 : Nat), w'5.cell? ⟨b, 2, none⟩ = some (Value.slice a11 n12 c5) ∧ ∃ (n13 : Int), w'5.cell? ⟨b, 3, none⟩ = some (Value.int .i64 n13) ∧ ∃ (n14 : Int), w'5.cell? ⟨b, 4, none⟩ = some (Value.int .i64 n14) ∧ ∃ (n15 : Int), w'5.cell? ⟨b2, 0, none⟩ = some (Value.int .i64 n15) ∧ ∃ (n16 : Int), w'5.cell? ⟨b2, 1, none⟩ = some (Value.int .i64 n16) ∧ ∃ (a12 : Option Addr) (n17 : Nat) (c6 : Nat), w'5.cell? ⟨b2, 2, none⟩ = some (Value.slice a12 n17 c6) ∧
 ∃ (n18 : Int), w'5.cell? ⟨b2, 3, none⟩ = some (Value.int .i64 n18) ∧ ∃ (n19 : Int), w'5.cell? ⟨b2, 4, none⟩ = some (Value.int .i64 n19) ∧ ∃ (g3 : GDf), #[Value.agg #[Value.int .i64 n10, Value.int .i64 n11, Value.slice a11 n12 c5, Value.int .i64 n13, Value.int .i64 n14], Value.agg #[Value.int .i64 n15, Value.int .i64 n16, Value.slice a12 n17 c6, Value.int .i64 n18, Value.int .i64 n19], Value.bool g.wd] = #[Value.agg #[Value.int .i64 g3.g1.w, Value.int .i64 g3.g1.h, Value.slice g3.a1 g3.g1.cs.length g3.c1, Value.int .i64 g3.g1.x, Value.int .i64 g3.g1.y], Value.agg #[Value.int .i64 g3.g2.w, Value.int .i64 g3.g2.h, Value.slice g3.a2 g3.g2.cs.length g3.c2, Value.int .i64 g3.g2.x, Value.int .i64 g3.g2.y], Value.bool g3.wd] ∧ (UDB w'5.heap.size w'5 ∧ P10 w'5.heap.size w'5 ∧ grIn w'5 g3.a1 g3.g1.cs ∧ grIn w'5 g3.a2 g3.g2.cs ∧ bulkG g3.g1 g3.g2) ∧ ∀ (x3 : Option Addr × Nat × Nat) (w'6 : World), Made w'5 w'6 (5 : TypeId) (1 : Nat) x3.fst x3.snd.fst (bytesV ((diffB g3.g1 g3.g2 g3.wd).getD (ByteArray.mk #[]))) x3.snd.snd → ∃ (g4 : GFd), #[Value.pointer (some ⟨c3.fst.A.p, 0, none⟩), Value.slice x3.fst x3.snd.fst x3.snd.snd] = #[Value.pointer (some ⟨g4.A.p, 0, none⟩), Value.slice g4.ad g4.b.size g4.c] ∧ (GlIn w'6 g4.A g4.g ∧ okG g4.g g4.m ∧ GlRd w'6 g4.A g4.ha g4.hc g4.h ∧ CellsAt w'6 g4.ad (bytesV g4.b) ∧ g4.b.size ≤ 67108864 ∧ g4.m + 3 + g4.b.size ≤ 549755813888) ∧ ∀ (x4 : GlP × Option Addr × Nat) (w'7 : World), FdOut w'6 w'7 g4.A g4.ha g4.h x4.fst x4.snd.fst x4.snd.snd (feedG g4.g (fdR (g4.h ++ g4.b))) (fdH (g4.h ++ g4.b)) → ∃ (g5 : GGl), #[Value.pointer (some ⟨c3.fst.A.p, 0, none⟩)] = #[Value.pointer (some ⟨g5.A.p, 0, none⟩)] ∧ (GlIn w'7 g5.A g5.g ∧ fitG g5.g) ∧ ∀ (x5 : (Option Addr × Nat) × Gr) (w'8 : World), gdOut g5.g w'7 w'8 x5 → ∀ (b3 : Nat) (w12 : World), New w'8 (Obj.cells #[Value.int .i64 x5.snd.w, Value.int .i64 x5.snd.h, Value.slice x5.fst.fst x5.snd.cs.length x5.fst.snd, Value.int .i64 x5.snd.x, Value.int .i64 x5.snd.y] (27 : Nat)) b3 w12 → (∃ (n20 : Int), w12.cell? ⟨b3, 0, none⟩ = some (Value.int .i64 n20) ∧ ∃ (n21 : Int), w12.cell? ⟨b3, 1, none⟩ = some (Value.int .i64 n21) ∧ ∃ (a17 : Option Addr) (n22 : Nat) (c7 : Nat), w12.cell? ⟨b3, 2, none⟩ = some (Value.slice a17 n22 c7) ∧ ∃ (n23 : Int), w12.cell? ⟨b3, 3, none⟩ = some (Value.int .i64 n23) ∧ ∃ (n24 : Int), w12.cell? ⟨b3, 4, none⟩ = some (Value.int .i64 n24) ∧ ∃ (n25 : Int), w12.cell? ⟨b2, 0, none⟩ = some (Value.int .i64 n25) ∧ ∃ (n26 : Int), w12.cell? ⟨b2, 1, none⟩ = some (Value.int .i64 n26) ∧ ∃ (a18 : Option Addr) (n27 : Nat) (c8 : Nat), w12.cell? ⟨b2, 2, none⟩ = some (Value.slice a18 n27 c8) ∧ ∃ (n28 : Int), w12.cell? ⟨b2, 3, none⟩ = some (Value.int .i64 n28) ∧ ∃ (n29 : Int), w12.cell? ⟨b2, 4, none⟩ = some (Value.int .i64 n29) ∧ ∃ (g6 : GGg), #[Value.agg #[Value.int .i64 n20, Value.int .i64 n21, Value.slice a17 n22 c7, Value.int .i64 n23, Value.int .i64 n24], Value.agg #[Value.int .i64 n25, Value.int .i64 n26, Value.slice a18 n27 c8, Value.int .i64 n28, Value.int .i64 n29]] =
 #[Value.agg #[Value.int .i64 g6.g1.w, Value.int .i64 g6.g1.h, Value.slice g6.a1 g6.g1.cs.length g6.c1, Value.int .i64 g6.g1.x, Value.int .i64 g6.g1.y], Value.agg #[Value.int .i64 g6.g2.w, Value.int .i64 g6.g2.h, Value.slice g6.a2 g6.g2.cs.length g6.c2, Value.int .i64 g6.g2.x, Value.int .i64 g6.g2.y]] ∧ (grIn w12 g6.a1 g6.g1.cs ∧ grIn w12 g6.a2 g6.g2.cs) ∧ ∀ (x6 : Bool) (w'9 : World), x6 = sameB g6.g1 g6.g2 ∧ Ext w12 w'9 → bcase (!x6) (∃ (x7 : Unit), Value.bool false = Value.bool true ∧ Ext w w'9) (∃ (n30 : Int), w'9.cell? ⟨b3, 0, none⟩ = some (Value.int .i64 n30) ∧ ∃ (n31 : Int), w'9.cell? ⟨b3, 1, none⟩ = some (Value.int .i64 n31) ∧ ∃ (a20 : Option Addr) (n32 : Nat) (c9 : Nat), w'9.cell? ⟨b3, 2, none⟩ = some (Value.slice a20 n32 c9) ∧ ∃ (n33 : Int), w'9.cell? ⟨b3, 3, none⟩ = some (Value.int .i64 n33) ∧ ∃ (n34 : Int), w'9.cell? ⟨b3, 4, none⟩ = some (Value.int .i64 n34) ∧ ∃ (g7 : GGr), #[Value.agg #[Value.int .i64 n30, Value.int .i64 n31, Value.slice a20 n32 c9, Value.int .i64 n33, Value.int .i64 n34], Value.bool g.wd] = #[Value.agg #[Value.int .i64 g7.g.w, Value.int .i64 g7.g.h, Value.slice g7.ad g7.g.cs.length g7.c, Value.int .i64 g7.g.x, Value.int .i64 g7.g.y], Value.bool g7.wd] ∧ (UD w'9 ∧ grIn w'9 g7.ad g7.g.cs) ∧ ∀ (x7 : Bool) (w'10 : World), x7 = rightB g7.g g7.wd ∧ Ext w'9 w'10 → bcase (!x7) (∃ (x8 : Unit), Value.bool false = Value.bool true ∧ Ext w w'10) (∃ (n35 : Int), w'10.cell? ⟨b3, 0, none⟩ = some (Value.int .i64 n35) ∧ ∃ (n36 : Int), w'10.cell? ⟨b3, 1, none⟩ = some (Value.int .i64 n36) ∧ ∃ (a22 : Option Addr) (n37 : Nat) (c10 : Nat), w'10.cell? ⟨b3, 2, none⟩ = some (Value.slice a22 n37 c10) ∧ ∃ (n38 : Int), w'10.cell? ⟨b3, 3, none⟩ = some (Value.int .i64 n38) ∧ ∃ (n39 : Int), w'10.cell? ⟨b3, 4, none⟩ = some (Value.int .i64 n39) ∧ ∃ (n40 : Int), w'10.cell? ⟨b2, 0, none⟩ = some (Value.int .i64 n40) ∧ ∃ (n41 : Int), w'10.cell? ⟨b2, 1, none⟩ = some (Value.int .i64 n41) ∧ ∃ (a23 : Option Addr) (n42 : Nat) (c11 : Nat), w'10.cell? ⟨b2, 2, none⟩ = some (Value.slice a23 n42 c11) ∧ ∃ (n43 : Int), w'10.cell? ⟨b2, 3, none⟩ = some (Value.int .i64 n43) ∧ ∃ (n44 : Int), w'10.cell? ⟨b2, 4, none⟩ = some (Value.int .i64 n44) ∧ ∃ (g8 : GDf), #[Value.agg #[Value.int .i64 n35, Value.int .i64 n36, Value.slice a22 n37 c10, Value.int .i64 n38, Value.int .i64 n39], Value.agg #[Value.int .i64 n40, Value.int .i64 n41, Value.slice a23 n42 c11, Value.int .i64 n43, Value.int .i64 n44], Value.bool g.wd] = #[Value.agg #[Value.int .i64 g8.g1.w, Value.int .i64 g8.g1.h, Value.slice g8.a1 g8.g1.cs.length g8.c1, Value.int .i64 g8.g1.x, Value.int .i64 g8.g1.y], Value.agg #[Value.int .i64 g8.g2.w, Value.int .i64 g8.g2.h, Value.slice g8.a2 g8.g2.cs.length g8.c2, Value.int .i64 g8.g2.x, Value.int .i64 g8.g2.y], Value.bool g8.wd] ∧ (UDB w'10.heap.size w'10 ∧ P10 w'10.heap.size w'10 ∧ grIn w'10 g8.a1 g8.g1.cs ∧ grIn w'10 g8.a2 g8.g2.cs ∧ bulkG g8.g1 g8.g2) ∧ ∀ (x8 : Option Addr × Nat × Nat) (w'11 : World),
 Made w'10 w'11 (5 : TypeId) (1 : Nat) x8.fst x8.snd.fst (bytesV ((diffB g8.g1 g8.g2 g8.wd).getD (ByteArray.mk #[]))) x8.snd.snd → bcase ((↑x8.snd.fst : Int) != (0 : Int)) (∃ (x9 : Unit), Value.bool false = Value.bool true ∧ Ext w w'11) (∃ (c12 : Unit), Ext w12 w'11)))) ∧ ∀ (u4 : Nat → Value) (c7 : Unit) (w'9 : World), Ext w12 w'9 → ∃ (n20 : Int), w'9.cell? ⟨b2, 0, none⟩ = some (Value.int .i64 n20) ∧ ∃ (n21 : Int), w'9.cell? ⟨b2, 1, none⟩ = some (Value.int .i64 n21) ∧ ∃ (a18 : Option Addr) (n22 : Nat) (c8 : Nat), w'9.cell? ⟨b2, 2, none⟩ = some (Value.slice a18 n22 c8) ∧ ∃ (n23 : Int), w'9.cell? ⟨b2, 3, none⟩ = some (Value.int .i64 n23) ∧ ∃ (n24 : Int), w'9.cell? ⟨b2, 4, none⟩ = some (Value.int .i64 n24) ∧ true = true ∧ (∃ (old : Value), w'9.cell? ⟨b, 0, none⟩ = some old) ∧ w'9.frozen? ⟨b, 0, none⟩ = false ∧ ∀ (w13 : World), Stored w'9 ⟨b, 0, none⟩ (Value.int .i64 n20) w13 → true = true ∧ (∃ (old : Value), w13.cell? ⟨b, 1, none⟩ = some old) ∧ w13.frozen? ⟨b, 1, none⟩ = false ∧ ∀ (w14 : World), Stored w13 ⟨b, 1, none⟩ (Value.int .i64 n21) w14 → true = true ∧ (∃ (old : Value), w14.cell? ⟨b, 2, none⟩ = some old) ∧ w14.frozen? ⟨b, 2, none⟩ = false ∧ ∀ (w15 : World), Stored w14 ⟨b, 2, none⟩ (Value.slice a18 n22 c8) w15 → true = true ∧ (∃ (old : Value), w15.cell? ⟨b, 3, none⟩ = some old) ∧ w15.frozen? ⟨b, 3, none⟩ = false ∧ ∀ (w16 : World), Stored w15 ⟨b, 3, none⟩ (Value.int .i64 n23) w16 → true = true ∧ (∃ (old : Value), w16.cell? ⟨b, 4, none⟩ = some old) ∧ w16.frozen? ⟨b, 4, none⟩ = false ∧ ∀ (w17 : World), Stored w16 ⟨b, 4, none⟩ (Value.int .i64 n24) w17 → InR .i64 ((↑x1.i : Int) + (1 : Int)) ∧ ∃ (y : ThX), Value.int .i64 ((↑x1.i : Int) + (1 : Int)) = Value.int .i64 (↑y.i : Int) ∧ Value.pointer (some ⟨c3.fst.A.p, 0, none⟩) = Value.pointer (ptT y.o) ∧ ThI g w y w17 (ptB (Value.pointer (some ⟨b, 0, none⟩))) ∧ g.l.length - y.i < g.l.length - x1.i)) (∃ (x2 : Unit), Value.bool true = Value.bool true ∧ Ext w w'1))) :
    (sThere).Ok Tryd.prog 3 :=
  ok_of_vc sThere annThere spThere (fun _ _ => rfl) (fun _ _ => rfl) hsp Tryd.func3 rfl (n := 2) (fun _ => rfl) (by kernel_rfl) (vcast (by kernel_rfl) h)
end Go.Proofs.YtjdohhididpomaaDoor
end

section
namespace Go.Proofs.YtjdohhididpomaaDoor
open Go Go.RowKit Vc Ut Tb Cl Orb
theorem flatG_at : ∀ {l : List GrE} {i k : Nat}, i < l.length → k < 5 → (flatG l)[i * 5 + k]? = (grV (l.getD i noE))[k]?
  | e :: l, 0, k, _, hk => by
    unfold flatG
    rw [List.flatMap_cons, List.getElem?_append_left (by show 0 * 5 + k < 5; omega)]
    simp
  | e :: l, i + 1, k, h, hk => by
    have ih := flatG_at (l := l) (i := i) (k := k) (by simpa using h) hk
    unfold flatG at ih ⊢
    rw [List.flatMap_cons, List.getElem?_append_right (by show 5 ≤ (i + 1) * 5 + k; omega), show (i + 1) * 5 + k - (grV e).length = i * 5 + k from by show (i + 1) * 5 + k - 5 = _; omega, ih]
    simp
def GrAt (w : World) (b o : Nat) (e : GrE) : Prop :=
  w.cell? ⟨b, o, none⟩ = some (.int .i64 e.g.w) ∧ w.cell? ⟨b, o + 1, none⟩ = some (.int .i64 e.g.h) ∧ w.cell? ⟨b, o + 2, none⟩ = some (.slice e.ad e.g.cs.length e.c) ∧ w.cell? ⟨b, o + 3, none⟩ = some (.int .i64 e.g.x) ∧ w.cell? ⟨b, o + 4, none⟩ = some (.int .i64 e.g.y)
theorem Vc.CellsAt.gr {w : World} {ad : Option Addr} {l : List GrE} {i : Nat} {K : Nat → Nat → Prop} (h : CellsAt w ad (flatG l)) (hi : i < l.length) (hk : ∀ b o, GrAt w b (o + i * 5) (l.getD i noE) → K b o) : ptrE ad K := by
  have at' : ∀ {b o k : Nat} {v : Value}, (∀ (j : Nat) v, (flatG l)[j]? = some v → w.cell? ⟨b, o + j, none⟩ = some v) → k < 5 → (grV (l.getD i noE))[k]? = some v → w.cell? ⟨b, o + i * 5 + k, none⟩ = some v := by
    intro b o k v hh hk hv
    rw [show o + i * 5 + k = o + (i * 5 + k) from by omega]
    exact hh _ _ ((flatG_at hi hk).trans hv)
  rcases h with h | ⟨b, o, rfl, hh⟩
  · have := flatG_at (l := l) (i := i) (k := 0) hi (by decide)
    rw [h] at this
    simp [grV] at this
  · exact hk b o ⟨at' hh (k := 0) (by decide) rfl, at' hh (k := 1) (by decide) rfl, at' hh (k := 2) (by decide) rfl, at' hh (k := 3) (by decide) rfl, at' hh (k := 4) (by decide) rfl⟩
theorem GrAt.load {w : World} {b o : Nat} {e : GrE} (h : GrAt w b o e) {K : Int → Int → Option Addr → Nat → Nat → Int → Int → Prop} (hk : K e.g.w e.g.h e.ad e.g.cs.length e.c e.g.x e.g.y) :
    ∃ n, w.cell? ⟨b, o, none⟩ = some (.int .i64 n) ∧ ∃ n1, w.cell? ⟨b, o + 1, none⟩ = some (.int .i64 n1) ∧ ∃ a m c, w.cell? ⟨b, o + 2, none⟩ = some (.slice a m c) ∧ ∃ n2, w.cell? ⟨b, o + 3, none⟩ = some (.int .i64 n2) ∧ ∃ n3, w.cell? ⟨b, o + 4, none⟩ = some (.int .i64 n3) ∧ K n n1 a m c n2 n3 :=
  ⟨_, h.1, _, h.2.1, _, _, _, h.2.2.1, _, h.2.2.2.1, _, h.2.2.2.2, hk⟩
theorem box_gr {w : World} {b : Nat} {e : GrE} (h : boxE w b e) : GrAt w b 0 e :=
  ⟨(cell_of_heap h 0).trans rfl, (cell_of_heap h 1).trans rfl, (cell_of_heap h 2).trans rfl, (cell_of_heap h 3).trans rfl, (cell_of_heap h 4).trans rfl⟩
theorem putR {w : World} {b : Nat} {t : TypeId} {z0 z1 z2 z3 z4 v0 v1 v2 v3 v4 : Value} {K : World → Prop} (h : w.heap[b]? = some (.cells #[z0, z1, z2, z3, z4] t))
    (hk : ∀ w', w'.heap[b]? = some (.cells #[v0, v1, v2, v3, v4] t) → Fr (fun q => q = b) w w' → K w') :
    true = true ∧ (∃ old, w.cell? ⟨b, 0, none⟩ = some old) ∧ w.frozen? ⟨b, 0, none⟩ = false ∧ ∀ w1, Stored w ⟨b, 0, none⟩ v0 w1 →
    true = true ∧ (∃ old, w1.cell? ⟨b, 1, none⟩ = some old) ∧ w1.frozen? ⟨b, 1, none⟩ = false ∧ ∀ w2, Stored w1 ⟨b, 1, none⟩ v1 w2 →
    true = true ∧ (∃ old, w2.cell? ⟨b, 2, none⟩ = some old) ∧ w2.frozen? ⟨b, 2, none⟩ = false ∧ ∀ w3, Stored w2 ⟨b, 2, none⟩ v2 w3 →
    true = true ∧ (∃ old, w3.cell? ⟨b, 3, none⟩ = some old) ∧ w3.frozen? ⟨b, 3, none⟩ = false ∧ ∀ w4, Stored w3 ⟨b, 3, none⟩ v3 w4 →
    true = true ∧ (∃ old, w4.cell? ⟨b, 4, none⟩ = some old) ∧ w4.frozen? ⟨b, 4, none⟩ = false ∧ ∀ w5, Stored w4 ⟨b, 4, none⟩ v4 w5 → K w5 := by
  refine ⟨rfl, (box5 h (k := 0) (by decide)).1, (box5 h (k := 0) (by decide)).2, fun w1 s1 => ?_⟩
  have h1 := s1.heap h
  refine ⟨rfl, (box5 h1 (k := 1) (by decide)).1, (box5 h1 (k := 1) (by decide)).2, fun w2 s2 => ?_⟩
  have h2 := s2.heap h1
  refine ⟨rfl, (box5 h2 (k := 2) (by decide)).1, (box5 h2 (k := 2) (by decide)).2, fun w3 s3 => ?_⟩
  have h3 := s3.heap h2
  refine ⟨rfl, (box5 h3 (k := 3) (by decide)).1, (box5 h3 (k := 3) (by decide)).2, fun w4 s4 => ?_⟩
  have h4 := s4.heap h3
  refine ⟨rfl, (box5 h4 (k := 4) (by decide)).1, (box5 h4 (k := 4) (by decide)).2, fun w5 s5 => ?_⟩
  have h5 := s5.heap h4
  refine hk w5 h5 ?_
  have f : ∀ {a b' : World} {k : Nat} {v : Value}, Stored a ⟨b, k, none⟩ v b' → Fr (fun q => q = b) a b' := fun hs => Fr.stored hs
  exact ((((f s1).trans (f s2) (fun _ _ hx => hx)).trans (f s3) (fun _ _ hx => hx)).trans (f s4) (fun _ _ hx => hx)).trans (f s5) (fun _ _ hx => hx)
theorem fr_ext {S : Nat → Prop} {w0 w w' : World} (hf : Fr S w w') (hx : Ext w0 w) (hS : ∀ q, S q → w0.heap.size ≤ q) : Ext w0 w' :=
  Below.trans hx (hf.below hx.size (fun q hq hh => by have := hS q hh; omega))
theorem txc_sz (c : Ce) : c.t.size ≤ (txC c).size ∧ (txC c).size ≤ c.t.size + 1 := by
  unfold txC
  split
  · rename_i h
    have e : (⟨#[32]⟩ : ByteArray).size = 1 := rfl
    omega
  · omega
theorem sam_bulk : ∀ {a b : List Ce}, samL a b = true → bulkC a ≤ bulkC b + b.length ∧ a.length = b.length
  | [], [], _ => ⟨Nat.le_refl _, rfl⟩
  | c :: l, d :: m, h => by
    unfold samL at h
    simp only [Bool.and_eq_true] at h
    obtain ⟨h1, h2⟩ := sam_bulk h.2
    have h3 := (alike_iff.1 h.1).2.2
    have h4 := txc_sz c
    have h5 := txc_sz d
    rw [h3] at h4
    unfold bulkC at h1 ⊢
    simp only [List.map_cons, List.sum_cons, List.length_cons]
    omega
theorem sam_trans {a b c : List Ce} (h1 : samL a b = true) (h2 : samL b c = true) : samL a c = true := by
  obtain ⟨l1, k1⟩ := sam_iff.1 h1
  obtain ⟨l2, k2⟩ := sam_iff.1 h2
  refine sam_iff.2 ⟨l1.trans l2, fun j hj => ?_⟩
  obtain ⟨p1, p2, p3⟩ := alike_iff.1 (k1 j hj)
  obtain ⟨q1, q2, q3⟩ := alike_iff.1 (k2 j (by omega))
  exact alike_iff.2 ⟨p1.trans q1, p2.trans q2, p3.trans q3⟩
theorem same_facts {a b : Gr} (h : sameB a b = true) : a.w = b.w ∧ a.h = b.h ∧ a.x = b.x ∧ a.y = b.y ∧ samL a.cs b.cs = true := by
  unfold sameB at h
  simpa only [Bool.and_eq_true, beq_iff_eq] using h
theorem same_mk {a b : Gr} (h : a.w = b.w ∧ a.h = b.h ∧ a.x = b.x ∧ a.y = b.y ∧ samL a.cs b.cs = true) : sameB a b = true := by
  unfold sameB
  simpa only [Bool.and_eq_true, beq_iff_eq] using h
theorem same_trans {a b c : Gr} (h1 : sameB a b = true) (h2 : sameB b c = true) : sameB a c = true := by
  obtain ⟨p1, p2, p3, p4, p5⟩ := same_facts h1
  obtain ⟨q1, q2, q3, q4, q5⟩ := same_facts h2
  exact same_mk ⟨p1.trans q1, p2.trans q2, p3.trans q3, p4.trans q4, sam_trans p5 q5⟩
theorem diff_told {g0 : Gs} {m : Nat} {a b : Gr} {wd : Bool} (hg : okG g0 m) (hs : g0.stt = 0) (hd : g0.wd = wd) (hw : (g0.w : Int) = b.w) (hh : (g0.h : Int) = b.h) (hb : rightB b wd = true) (hst : ∀ c ∈ b.cs, c.st < 65536)
    (hk : knownG a b wd = true → sameB (gridG g0) a = true) (hbk : bulkC b.cs ≤ 1048576) : ∃ s, (diffB a b wd).getD ⟨#[]⟩ = s ∧ validB s = true ∧ s.size ≤ 62914660 ∧ sameB (gridG (feedG g0 (runes s))) b = true ∧ (feedG g0 (runes s)).stt = 0 := by
  cases hD : diffB a b wd with
  | none =>
    refine ⟨⟨#[]⟩, rfl, none_asc.1, by decide, ?_, by rw [none_asc.2]; exact hs⟩
    rw [none_asc.2]
    unfold diffB at hD
    split at hD
    · rename_i hh'
      rcases hh' with h | ⟨h1, h2⟩
      · rw [hb] at h; cases h
      · have h3 := same_facts h2
        refine same_trans (hk ?_) h2
        unfold knownG
        simp only [Bool.and_eq_true, beq_iff_eq]
        exact ⟨h1, h3.1, h3.2.1⟩
    · cases hD
  | some s =>
    obtain ⟨v1, v2, v3⟩ := diff_shows hg hs hd.symm hw.symm hh.symm hb hst (fun h => (same_facts (hk h)).2.2.2.2) hD
    have := diff_size hst hD
    exact ⟨s, rfl, v1, by omega, v2, v3⟩
theorem diff_same {a b : Gr} {wd : Bool} (h1 : rightB a wd = true) (h2 : sameB a b = true) : diffB a b wd = none := by
  unfold diffB
  rw [if_pos (.inr ⟨h1, h2⟩)]
set_option maxRecDepth 8000 in
theorem there_ok : sThere.Ok Tryd.prog 3 := by
  refine there_vc ⟨worksX_ok, beyond_ok, newK_ok, feedG_ok, gridG_ok, rightW_ok, diff_ok, sameW_ok, trivial⟩ ?_
  rintro ⟨ad, c, l, wd⟩ w ⟨hU, hgr⟩
  dsimp only at hgr ⊢
  refine bcase_mk (fun _ => ⟨(), rfl, hU, fun _ w' hx => ⟨(), rfl, hx⟩⟩) (fun h12 => ?_)
  have h12 : l.length ≤ 12 := by have := of_decide_eq_false h12; omega
  refine ⟨(), rfl, hU, fun _ w1 hx1 b0 w2 hn2 => ?_⟩
  have z2 := hn2.size
  have hs1 := hx1.size
  have hx2 : Ext w w2 := Ext.trans hx1 hn2.ext
  refine ⟨⟨⟨0, none, noE⟩, rfl, rfl, ⟨Nat.zero_le _, h12, hx2, by show w.heap.size ≤ b0; omega, hn2.heap, CellsAt.nil _ _, Nat.zero_le _, fun t ht => by cases ht⟩⟩, ?_⟩
  rintro - ⟨i, o, was⟩ w3 ⟨hle, -, hx3, hb0, hbx0, hcw, hbw, hgl⟩
  dsimp only at hle hbx0 hcw hbw hgl ⊢
  refine bcase_mk (fun hlt => ?_) (fun _ => ⟨(), rfl, hx3⟩)
  have hlt : i < l.length := by have := of_decide_eq_true hlt; omega
  have hem : l.getD i noE ∈ l := by rw [List.getD_eq_getElem?_getD, List.getElem?_eq_getElem hlt]; exact List.getElem_mem hlt
  have hE : eAt ⟨ad, c, l, wd⟩ ((i : Int)).toNat = l.getD i noE := rfl
  rw [hE]
  refine ⟨i, rfl, hlt, (hgr.cells.ext hx3).gr hlt fun b1 o1 hg => hg.load ?_⟩
  generalize he : l.getD i noE = e at hem hg ⊢
  obtain ⟨hce, hbe, hse⟩ := hgr.each e hem
  intro b2 w4 hn4
  have z4 := hn4.size
  have hx4 : Ext w w4 := Ext.trans hx3 hn4.ext
  have hbx2 : boxE w4 b2 e := hn4.heap
  have hw0 := hx3.size
  refine ⟨⟨_, _, _, (cell_of_heap hbx2 2).trans rfl, bcase_mk (fun _ => ⟨(), rfl, hx4⟩) (fun hc4 => ⟨_, _, _, (cell_of_heap hbx2 2).trans rfl, ⟨e.ad, e.c, e.g.cs⟩, rfl, ⟨hce.ext hx4, by dsimp only; omega⟩, fun _ w5 hx5 => ⟨(), hx5, by have := of_decide_eq_false hc4; omega⟩⟩)⟩, ?_⟩
  rintro - - w5 ⟨hx45, hc4⟩
  have hx5 := Ext.trans hx4 hx45
  have hbx5 : boxE w5 b2 e := Ext.heap hx45 hbx2
  refine (box_gr hbx5).load ⟨⟨e.ad, e.c, e.g, wd⟩, rfl, ⟨(hU.ext hx5).ud, hce.ext hx5, by dsimp only; omega⟩, ?_⟩
  rintro x2 w6 ⟨hxr, hx56⟩
  dsimp only at hxr
  have hx6 := Ext.trans hx5 hx56
  have hx36 : Ext w3 w6 := Ext.trans hn4.ext (Ext.trans hx45 hx56)
  have hb36 := hx36.size
  have hbx6 : boxE w6 b2 e := Ext.heap hx56 hbx5
  have hbx0' : boxE w6 b0 was := Ext.heap hx36 hbx0
  have hU6 := hU.ext hx6
  have hb0lt : b0 < w3.heap.size := heap_lt hbx0
  have hinr : InR .i64 ((i : Int) + 1) := ⟨by show (-9223372036854775808 : Int) ≤ _; omega, by show _ ≤ (9223372036854775807 : Int); omega⟩
  subst hxr
  refine bcase_mk (fun hnr => ?_) (fun hr => ?_)
  · have hnr : rightB e.g wd = false := by simpa using hnr
    refine (box_gr hbx0').load ((box_gr hbx6).load ⟨⟨was.ad, was.c, was.g, e.ad, e.c, e.g, wd⟩, rfl, ⟨hU6.1, hU6.2, ⟨hcw.ext hx6, by dsimp only; omega⟩, ⟨hce.ext hx6, by dsimp only; omega⟩, hbw, by dsimp only; omega, hse⟩, ?_⟩)
    rintro ⟨a7, n7, c7⟩ w7 hm7
    dsimp only at hm7 ⊢
    have hn : diffB was.g e.g wd = none := by unfold diffB; rw [if_pos (.inl hnr)]
    rw [hn] at hm7
    have hn7 := made_none hm7
    subst hn7
    have hx67 := hm7.ext
    refine bcase_mk (fun h => by cases h) (fun _ => ⟨hinr, ⟨i + 1, o, was⟩, rfl, rfl, ⟨hlt, h12, Ext.trans hx6 hx67, hb0, Ext.heap hx67 hbx0', hcw, hbw, fun t ht => ?_⟩, by dsimp only; omega⟩)
    obtain ⟨⟨k1, k2, k3, k4, k5, k6, k7, k8⟩, k9⟩ := hgl t ht
    have k : GlAt w3 t.A t.g t.m t.ha t.hc ⟨#[]⟩ := ⟨k2, k4, k3⟩
    have k' := k.ext (Ext.trans hx36 hx67)
    exact ⟨⟨k1, k'.gl, k'.rd, k'.ok, Nat.le_trans k5 (Nat.mul_le_mul_right _ (Nat.le_succ i)), k6, k7, k8⟩, k9⟩
  have hr : rightB e.g wd = true := by simpa using hr
  obtain ⟨r1, r2, r3, r4, -, -, -⟩ := right_facts hr
  obtain ⟨W, hW⟩ : ∃ W : Nat, e.g.w = (W : Int) := ⟨e.g.w.toNat, by omega⟩
  obtain ⟨H, hH⟩ : ∃ H : Nat, e.g.h = (H : Int) := ⟨e.g.h.toNat, by omega⟩
  have hudb : ∀ {w' : World}, Ext w w' → UDB w.heap.size w' := fun hx w'' h' => hU.1 w'' (Below.trans hx h')
  have NEW : ∀ (A : GlP) (w7 : World), (Ext w6 w7 ∧ A.B = w6.heap.size ∧ GlIn w7 A (newG W H wd) ∧ GlRd w7 A none 0 ⟨#[]⟩) → ∀ w8, w8.heap[b0]? = some (.cells #[.int .i64 (-1), .int .i64 0, .slice none 0 0, .int .i64 0, .int .i64 0] 27) → Fr (fun q => q = b0) w7 w8 →
      ThJ ⟨ad, c, l, wd⟩ w i ⟨{ A with B := w.heap.size }, newG W H wd, 0, none, 0⟩ noE e w8 b0 ∧ boxE w8 b2 e ∧ ¬ ownR { A with B := w.heap.size } none ⟨#[]⟩ b2 := by
    rintro A w7 ⟨hx67, hB, hG, hR⟩ w8 hb8 hf8
    have hx7 := Ext.trans hx6 hx67
    have k : GlAt w7 A (newG W H wd) 0 none 0 ⟨#[]⟩ := ⟨hG, ok_new (by omega) (by omega) wd, hR⟩
    have hlow : ∀ q, ownR A none ⟨#[]⟩ q → w6.heap.size ≤ q := fun q hq => by have := (k.lt q hq).1; omega
    have k' : GlAt w7 { A with B := w.heap.size } (newG W H wd) 0 none 0 ⟨#[]⟩ := k.base (by have := hx6.size; omega) (hudb hx7)
    have n0 : ¬ ownR { A with B := w.heap.size } none ⟨#[]⟩ b0 := fun hh => by have := hlow b0 hh; omega
    have n2 : ¬ ownR { A with B := w.heap.size } none ⟨#[]⟩ b2 := fun hh => by have := hlow b2 hh; have := heap_lt hbx6; omega
    have k8 := k'.keep hf8 (fun q hq => by subst hq; exact ⟨hb0, n0⟩)
    refine ⟨⟨fr_ext hf8 hx7 (fun q hq => by omega), hb0, hb8, CellsAt.nil _ _, Nat.zero_le _, ⟨rfl, k8.gl, k8.rd, k8.ok, Nat.zero_le _, rfl, rfl, n0⟩, ⟨hW.symm, hH.symm⟩, fun h => ?_⟩, ?_, n2⟩
    · unfold knownG at h
      simp only [Bool.and_eq_true, beq_iff_eq] at h
      have h1 : (-1 : Int) = e.g.w := h.2.1
      omega
    · exact (hf8.block b2 (heap_lt (Ext.heap hx67 hbx6)) (by omega)).trans (Ext.heap hx67 hbx6)
  have hWH : (W : Int) ≤ 1024 ∧ (H : Int) ≤ 1024 := by omega
  refine ⟨bcase_mk (fun h => ?n1) (fun h => ⟨_, (cell_of_heap hbx0' 0).trans rfl, _, (cell_of_heap hbx6 0).trans rfl, bcase_mk (fun _ => ?n2) (fun h2 => ⟨_, (cell_of_heap hbx0' 1).trans rfl, _, (cell_of_heap hbx6 1).trans rfl, bcase_mk (fun _ => ?n3) (fun h3 => ?keep)⟩)⟩), ?rest⟩
  case n1 | n2 | n3 =>
    refine ⟨_, (cell_of_heap hbx6 0).trans rfl, _, (cell_of_heap hbx6 1).trans rfl, (W, H, wd), by dsimp only; rw [hW, hH], ⟨hU6.1, by dsimp only; omega, by dsimp only; omega⟩, ?_⟩
    intro A w7 hA
    refine ⟨⟨(), rfl⟩, ?_⟩
    rintro - - w7' h7
    replace h7 := h7.symm; subst h7
    refine putR (Ext.heap hA.1 hbx0') (fun w8 hb8 hf8 => ?_)
    obtain ⟨j1, j2, j3⟩ := NEW A w7 hA w8 hb8 hf8
    exact ⟨(⟨{ A with B := w.heap.size }, newG W H wd, 0, none, 0⟩, noE), rfl, j1, j2, j3, rfl⟩
  case keep =>
    cases o with
    | none => cases h
    | some t =>
      obtain ⟨⟨k1, k2, k3, k4, k5, k6, k7, k8⟩, k9⟩ := hgl t rfl
      have k : GlAt w3 t.A t.g t.m t.ha t.hc ⟨#[]⟩ := ⟨k2, k4, k3⟩
      have k' := k.ext hx36
      have s := same_facts k9
      have h2' : was.g.w = e.g.w := by simpa using h2
      have h3' : was.g.h = e.g.h := by simpa using h3
      exact ⟨(t, was), rfl, ⟨hx6, hb0, hbx0', hcw, hbw, ⟨k1, k'.gl, k'.rd, k'.ok, k5, k6, k7, k8⟩, ⟨(show (t.g.w : Int) = was.g.w from s.1).trans h2', (show (t.g.h : Int) = was.g.h from s.2.1).trans h3'⟩, fun _ => k9⟩, hbx6, fun hh => by have := (k.lt b2 hh).2; omega, rfl⟩
  clear NEW
  rintro - ⟨t, was2⟩ w7 ⟨J, hbx7, hne7, -⟩
  dsimp only at J hne7 ⊢
  have hI : ((i : Int)).toNat = i := rfl
  have hbx7 : boxE w7 b2 e := hbx7
  have J : ThJ ⟨ad, c, l, wd⟩ w i t was2 e w7 b0 := J
  have hne7 : ¬ ownR t.A t.ha ⟨#[]⟩ b2 := hne7
  have hb2ne : b2 ≠ b0 := by omega
  refine ⟨⟨by omega, by decide, bcase_mk (fun _ => ?_) (fun _ => ⟨was2, t, rfl, J, hbx7, hne7⟩)⟩, ?_⟩
  · refine putR J.box (fun w8 hb8 hf8 => ⟨noE, t, rfl, ?_, (hf8.block b2 (heap_lt hbx7) hb2ne).trans hbx7, hne7⟩)
    have k : GlAt w7 t.A t.g t.m t.ha t.hc ⟨#[]⟩ := ⟨J.gl.gl, J.gl.ok, J.gl.rd⟩
    have k8 := k.keep hf8 (fun q hq => by subst hq; exact ⟨by rw [J.gl.b]; exact hb0, J.gl.n6⟩)
    refine ⟨fr_ext hf8 J.ext (fun q hq => by omega), hb0, hb8, CellsAt.nil _ _, Nat.zero_le _, ⟨J.gl.b, k8.gl, k8.rd, k8.ok, J.gl.mb, J.gl.stt, J.gl.wd, J.gl.n6⟩, J.sz, fun h => ?_⟩
    unfold knownG at h
    simp only [Bool.and_eq_true, beq_iff_eq] at h
    have h1 : (-1 : Int) = e.g.w := h.2.1
    omega
  rintro - was3 w8 ⟨t3, hp3, J3, hbx8, hne8⟩
  have hbx8 : boxE w8 b2 e := hbx8
  have J3 : ThJ ⟨ad, c, l, wd⟩ w i t3 was3 e w8 b0 := J3
  have hne8 : ¬ ownR t3.A t3.ha ⟨#[]⟩ b2 := hne8
  have hp3 : t.A.p = t3.A.p := by injection hp3 with h1; injection h1 with h2; injection h2
  clear J hbx7 hne7
  have hU8 := hU.ext J3.ext
  have mb : t3.m ≤ i * 67108864 := J3.gl.mb
  refine (box_gr J3.box).load ((box_gr hbx8).load ⟨⟨was3.ad, was3.c, was3.g, e.ad, e.c, e.g, wd⟩, rfl, ⟨hU8.1, hU8.2, ⟨J3.cs.ext J3.ext, by have := J3.bk; dsimp only; omega⟩, ⟨hce.ext J3.ext, by dsimp only; omega⟩, J3.bk, by dsimp only; omega, hse⟩, ?_⟩)
  rintro ⟨a9, n9, c9⟩ w9 hm9
  dsimp only at hm9 ⊢
  obtain ⟨s, hs, v1, vs, v2, v3⟩ := diff_told (a := was3.g) (b := e.g) (wd := wd) J3.gl.ok J3.gl.stt J3.gl.wd J3.sz.1 J3.sz.2 hr hse J3.kn (by omega)
  rw [hs] at hm9
  have hn9 := made_size hm9
  subst hn9
  have k8 : GlAt w8 t3.A t3.g t3.m t3.ha t3.hc ⟨#[]⟩ := ⟨J3.gl.gl, J3.gl.ok, J3.gl.rd⟩
  have k9 := k8.ext hm9.ext
  have hx9 := Ext.trans J3.ext hm9.ext
  have hfd := fd_valid v1
  have hes : (⟨#[]⟩ : ByteArray) ++ s = s := ByteArray.empty_append
  have hlf := fdR_len ((⟨#[]⟩ : ByteArray) ++ s)
  rw [hes, hfd.1] at hlf
  refine ⟨⟨t3.A, t3.g, t3.m, t3.ha, t3.hc, ⟨#[]⟩, a9, c9, s⟩, by rw [hp3], ⟨k9.gl, k9.ok, k9.rd, hm9.row.cells, by dsimp only; omega, by dsimp only; omega⟩, ?_⟩
  rintro ⟨A10, ha10, hc10⟩ w10 hF
  dsimp only at hF
  have k10 := k9.fed hF
  have hp10 : A10.p = t3.A.p := hF.p
  have hB10 : A10.B = w.heap.size := hF.b.trans J3.gl.b
  have hx10 : Ext w w10 := step_ext hF.st hx9 (fun q hq => by have := (k9.lt q hq).1; have := J3.gl.b; omega)
  have hb2_10 : boxE w10 b2 e := (hF.st.fr.block b2 (heap_lt (Ext.heap hm9.ext hbx8)) hne8).trans (Ext.heap hm9.ext hbx8)
  have hb0_10 : boxE w10 b0 was3 := (hF.st.fr.block b0 (heap_lt (Ext.heap hm9.ext J3.box)) J3.gl.n6).trans (Ext.heap hm9.ext J3.box)
  have own10 : ∀ q, q < w9.heap.size → ¬ ownR t3.A t3.ha ⟨#[]⟩ q → ¬ ownR A10 ha10 (fdH (⟨#[]⟩ ++ s)) q := fun q h1 h2 h3 => (hF.st.dom q h3).2.elim h2 (fun h => absurd h1 (by omega))
  rw [hes, hfd.1, hfd.2] at k10
  rw [hes, hfd.2] at own10
  have hn0 := own10 b0 (heap_lt (Ext.heap hm9.ext J3.box)) J3.gl.n6
  have hwd10 : (feedG t3.g (runes s)).wd = wd := (feed_f (runes s) t3.g).2.2.trans J3.gl.wd
  generalize hG2 : feedG t3.g (runes s) = G2 at k10 v2 v3 hwd10
  refine ⟨⟨A10, G2⟩, by rw [hp10, hp3], ⟨k10.gl, k10.ok.fit (by omega)⟩, ?_⟩
  rintro ⟨⟨a11, c11⟩, gr⟩ w11 ⟨hgr11, hm11⟩
  dsimp only at hgr11 hm11
  subst hgr11
  intro b3 w12 hn12
  have hx10_12 : Ext w10 w12 := Ext.trans hm11.ext hn12.ext
  have hx12 := Ext.trans hx10 hx10_12
  have hbx12 : boxE w12 b2 e := Ext.heap hx10_12 hb2_10
  have hs12 : boxE w12 b3 ⟨a11, c11, gridG G2⟩ := hn12.heap
  have hc12 : CellsAt w12 a11 (flat G2.cs) := hm11.row.cells.ext hn12.ext
  have hsam : samL G2.cs e.g.cs = true := (same_facts v2).2.2.2.2
  have hbG : bulkC G2.cs ≤ 1048576 := by have := (sam_bulk hsam).1; omega
  have hgr2 : rightB (gridG G2) wd = true := by have := grid_right k10.ok; rw [hwd10] at this; exact this
  refine ⟨?_, ?_⟩
  · refine (box_gr hs12).load ((box_gr hbx12).load ⟨⟨a11, c11, gridG G2, e.ad, e.c, e.g⟩, rfl, ⟨⟨hc12, by show bulkC G2.cs ≤ _; omega⟩, ⟨hce.ext hx12, by dsimp only; omega⟩⟩, ?_⟩)
    rintro x6 w13 ⟨hx6', hx13⟩
    dsimp only at hx6'
    rw [v2] at hx6'
    subst hx6'
    refine bcase_mk (fun h => by cases h) (fun _ => ?_)
    refine (box_gr (Ext.heap hx13 hs12)).load ⟨⟨a11, c11, gridG G2, wd⟩, rfl, ⟨(hU.ext (Ext.trans hx12 hx13)).ud, hc12.ext hx13, by show bulkC G2.cs ≤ _; omega⟩, ?_⟩
    rintro x7 w14 ⟨hx7', hx14⟩
    dsimp only at hx7'
    rw [hgr2] at hx7'
    subst hx7'
    refine bcase_mk (fun h => by cases h) (fun _ => ?_)
    have hx12_14 : Ext w12 w14 := Ext.trans hx13 hx14
    have hU14 := hU.ext (Ext.trans hx12 hx12_14)
    refine (box_gr (Ext.heap hx12_14 hs12)).load ((box_gr (Ext.heap hx12_14 hbx12)).load ⟨⟨a11, c11, gridG G2, e.ad, e.c, e.g, wd⟩, rfl, ⟨hU14.1, hU14.2, ⟨hc12.ext hx12_14, by show bulkC G2.cs ≤ _; omega⟩, ⟨hce.ext (Ext.trans hx12 hx12_14), by dsimp only; omega⟩, hbG, by dsimp only; omega, hse⟩, ?_⟩)
    rintro ⟨a15, n15, c15⟩ w15 hm15
    dsimp only at hm15 ⊢
    rw [diff_same hgr2 v2] at hm15
    have hn15 := made_none hm15
    subst hn15
    exact bcase_mk (fun h => by cases h) (fun _ => ⟨(), Ext.trans hx12_14 hm15.ext⟩)
  rintro - - w13 hx12_13
  have hx10_13 := Ext.trans hx10_12 hx12_13
  have hx13 := Ext.trans hx10 hx10_13
  refine (box_gr (Ext.heap hx12_13 hbx12)).load ?_
  refine putR (Ext.heap hx10_13 hb0_10) (fun w14 hb14 hf14 => ?_)
  have k13 := k10.ext hx10_13
  have k14 := k13.keep hf14 (fun q hq => by subst hq; exact ⟨by rw [hB10]; exact hb0, hn0⟩)
  refine ⟨hinr, ⟨i + 1, some ⟨A10, G2, t3.m + (runes s).length, ha10, hc10⟩, e⟩, rfl, by show _ = Value.pointer (some ⟨A10.p, 0, none⟩); rw [hp10, hp3], ⟨hlt, h12, fr_ext hf14 hx13 (fun q hq => by omega), hb0, hb14, hce, by dsimp only; omega, fun t' ht' => ?_⟩, by dsimp only; omega⟩
  obtain rfl := Option.some.inj ht'
  exact ⟨⟨hB10, k14.gl, k14.rd, k14.ok, by dsimp only; omega, v3, hwd10, hn0⟩, v2⟩
end Go.Proofs.YtjdohhididpomaaDoor
end

section
namespace Go.Proofs.YtjdohhididpomaaDoor.Lw
open Go Go.RowKit Go.ChangeShapes Go.WideShapes Go.ChangeAt Vc
section
variable {H : Type} {enc : TypeId × Value → H} {P : Program}
theorem trodAll_stays (hl : laidOutB P = true) {W W' : World} (hx : Below W.heap.size W W') {sp : Nat → Bool} : ∀ {ts : List TypeId} {vs : List Value} {ds : List (DataW H)} {p : List MemPlace},
    ts.all (fun t => P.readableRec t && decide (t < P.types.size)) = true → DataW.TrodAll enc P W 0 (fun _ => true) true ts vs ds p → (∀ x ∈ p, x.block < W.heap.size) → (∀ x ∈ p, sp x.block = true) → DataW.TrodAll enc P W' 0 sp true ts vs ds p
  | [], vs, ds, p, _, h, _, _ => by
    obtain ⟨rfl, rfl, rfl⟩ := trodAll_nil h
    exact trodAll_mk0
  | t :: ts, vs, ds, p, hp, h, hlt, hs => by
    obtain ⟨v, vs', d, ds', a, b, rfl, rfl, rfl, h1, h2⟩ := trodAll_cons h
    simp only [List.all_cons, Bool.and_eq_true, decide_eq_true_eq] at hp
    have h3 := WideElems.Trod_stays (sp' := sp) hl hp.1.1 hp.1.2 h1 (fun x hx' => hx.same (hlt x (by simp [hx']))) (fun x hx' => hs x (by simp [hx']))
    exact ⟨a, b, h3, trodAll_stays hl hx (by simpa using hp.2) h2 (fun x hx' => hlt x (by simp [hx'])) (fun x hx' => hs x (by simp [hx'])), rfl⟩
theorem post_law {f : Func} {s : ChangeSpec} {apart fresh handsOn again : Bool} {W W' : World} {args : Array Value} {ds gs : List (DataW H)} {before : List MemPlace} {tb : TypeId} (hW : DataW.Whole enc P f.params.toList s.vars apart W args.toList ds gs before) (hvars : s.vars = [])
    (hfn : s.fn H ds = { results := [.lit (.bool true)], args := ds }) (hres : f.resultTypes = #[tb]) (htb : P.underlying tb = some .bool) (hl : laidOutB P = true) (hp : f.params.toList.all (fun t => P.readableRec t && decide (t < P.types.size)) = true) (hx : Below W.heap.size W W') :
    s.post enc P f apart fresh handsOn again W args (.bool true) W' := by
  have hW0 := hW
  obtain ⟨pa, pv, hA, hV, rfl, hz, hn⟩ := hW
  rw [hvars] at hV
  obtain ⟨rfl, rfl⟩ := trodVars_none hV
  simp only [List.append_nil] at hW0 hz hn
  have hlt : ∀ x ∈ pa, x.block < W.heap.size := fun x hx => by simpa using hW0.lt x hx
  have hr : ∀ (b : Nat) (sp : Nat → Bool) (hd : Bool), DataW.TrodAll enc P W' b sp hd f.resultTypes.toList ((Value.bool true).resultList f.resultTypes.size) (s.fn H (ds ++ [])).results [] := by
    intro b sp hd
    rw [List.append_nil, hfn, hres]
    exact trodAll_cons_mk (shut_bool htb _) trodAll_mk0
  have ha : ∀ sp : Nat → Bool, (∀ p ∈ pa, sp p.block = true) → DataW.TrodAll enc P W' 0 sp true f.params.toList args.toList (s.fn H (ds ++ [])).args pa := by
    intro sp hs
    rw [List.append_nil, hfn]
    exact trodAll_stays hl hx hp hA hlt hs
  have hv : ∀ sp : Nat → Bool, DataW.TrodVars enc P W' sp s.vars (s.fn H (ds ++ [])).vars [] := by
    intro sp
    rw [List.append_nil, hfn, hvars]
    rfl
  refine ⟨ds, [], pa, [], pa, [], hW0, hr _ _ _, ha _ (fun p hp => by simpa using hlt p hp), hv _, World.keptBut_mono (fun p hp => ⟨hp, .inr (.inl hp)⟩) (hx.frame _), fun _ => ?_⟩
  refine ⟨ok_one hres rfl (okWide_bool_mk htb _), _, _, ([] ++ pa) ++ [], ⟨[] ++ pa, [], trodAll_append (ha _ (fun _ _ => rfl)) (hr _ _ _), hv _, rfl, ?_, ?_⟩, ?_⟩
  · intro b off hp
    have hp' : MemPlace.cell b off ∈ pa := by simpa using hp
    rw [hx.frozen (hlt _ hp')]
    exact hz b off hp'
  · intro ha'
    have := hn ha'
    simpa using this
  · intro p hp _
    simpa using hp
theorem law_calls {f : FuncId} {fn : Func} {s : ChangeSpec} {apart fresh handsOn again : Bool} {W : World} {args : Array Value} {ds gs : List (DataW H)} {before : List MemPlace} {tb : TypeId} (hW : DataW.Whole enc P fn.params.toList s.vars apart W args.toList ds gs before) (hvars : s.vars = [])
    (hfn : s.fn H ds = { results := [.lit (.bool true)], args := ds }) (hres : fn.resultTypes = #[tb]) (htb : P.underlying tb = some .bool) (hl : laidOutB P = true) (hp : fn.params.toList.all (fun t => P.readableRec t && decide (t < P.types.size)) = true)
    (h : Calls P f args W fun e W' => e = .returned (.bool true) ∧ Below W.heap.size W W') :
    Calls P f args W fun e W' => ∃ v, e = .returned v ∧ s.post enc P fn apart fresh handsOn again W args v W' :=
  h.mono fun e W' ⟨he, hx⟩ => ⟨_, he, post_law hW hvars hfn hres htb hl hp hx⟩
theorem ints_in {W : World} {base b0 : Nat} {t e : TypeId} {k : IntKind} {v : Value} {d : DataW H} {p : List MemPlace} (ht : P.underlying t = some (.slice e)) (he : P.underlying e = some (.int k)) (hc : P.cellsOf e = 1) (hval : Value.okWide P W .any b0 t v)
    (h : DataW.Trod enc P W base (fun _ => true) true t v d p) : ∃ (ad : Option Addr) (c : Nat) (xs : List Int) (more : Nat), v = .slice ad xs.length c ∧ CellsAt W ad (xs.map (Value.int k)) ∧ (∀ x ∈ xs, (Lit.int k x).wf = true) ∧
      ((d = .nil ∧ xs = []) ∨ ∃ elems spare, d = .slice elems spare ∧ elems.length = xs.length) := by
  obtain ⟨fuel, hf⟩ := h
  rcases open_ints ht he hc hf with ⟨h1, h2⟩ | ⟨a, len, cap, zs, h1, h2, h3, h4, h5, h6, h7, h8⟩
  · refine ⟨none, 0, [], 0, ?_, CellsAt.nil _ _, by simp, .inl ⟨?_, rfl⟩⟩
    · cases v <;> simp_all [Value.cells]
      rename_i cs
      simp only [Value.okWide, ht] at hval
      simp [Cell.okWide, Cell.ok, ht] at hval
    · have := congrArg (fun x => x.1) h2; exact this
  · have hv : v = .slice (some a) len cap := by
      cases v <;> simp_all [Value.cells]
      rename_i cs
      simp only [Value.okWide, ht] at hval
      simp [Cell.okWide, Cell.ok, ht] at hval
    simp only [if_true] at h5
    have hlen : (zs.take len).length = len := by rw [List.length_take]; omega
    refine ⟨some a, cap, zs.take len, 0, by rw [hlen]; exact hv, ?_, fun x hx => h8 x (List.mem_of_mem_take hx), .inr ⟨lits k (zs.take len), lits k (zs.drop len), ?_, by simp [lits]⟩⟩
    · by_cases hz : zs.length = 0
      · left
        have : zs = [] := List.eq_nil_of_length_eq_zero hz
        simp [this]
      · have h0 := h7 0 (by omega)
        obtain ⟨b, o, sp⟩ := a
        have hsp : sp = none := by
          cases sp with
          | none => rfl
          | some q =>
            simp only [Addr.add, if_true, World.cell?] at h0
            split at h0 <;> simp at h0
        subst hsp
        refine .inr ⟨b, o, rfl, fun j u hj => ?_⟩
        rw [List.getElem?_map] at hj
        obtain ⟨x, hx, rfl⟩ := Option.map_eq_some_iff.1 hj
        rw [List.getElem?_take] at hx
        split at hx
        · have hj2 : j < zs.length := (List.getElem?_eq_some_iff.1 hx).1
          have := h7 j hj2
          rw [add_lit] at this
          rw [this, List.getD_eq_getElem?_getD, hx]
          rfl
        · cases hx
    · exact congrArg (fun x => x.1) h6
end
theorem reach_le {n b : Nat} (h : n * b ≤ reachBytes) : n * b ≤ 140737488351232 := h
end Go.Proofs.YtjdohhididpomaaDoor.Lw
end

section
namespace Go.Proofs.YtjdohhididpomaaDoor.Bulk
open Go
theorem one_le {H : Type} (d : DataW H) : 1 ≤ Rows.uptoBulk d := by
  cases d with
  | lit l => cases l <;> simp [Rows.uptoBulk]
  | _ => simp only [Rows.uptoBulk]; omega
theorem part_le {H : Type} {d : DataW H} {l : List (DataW H)} (h : d ∈ l) : Rows.uptoBulk d ≤ Rows.uptoBulkAll l := by
  induction l with
  | nil => cases h
  | cons x r ih =>
    simp only [Rows.uptoBulkAll]
    rcases List.mem_cons.1 h with rfl | h
    · omega
    · have := ih h; omega
theorem length_le {H : Type} (l : List (DataW H)) : l.length ≤ Rows.uptoBulkAll l := by
  induction l with
  | nil => simp
  | cons x r ih => have := one_le x; simp only [Rows.uptoBulkAll, List.length_cons]; omega
theorem small {H : Type} {l : List (DataW H)} (hk : Rows.uptoSmall H l = true) : Rows.uptoBulkAll l ≤ 1048576 := of_decide_eq_true hk
theorem slice {H : Type} {l : List (DataW H)} {elems spare : List (DataW H)} (hk : Rows.uptoSmall H l = true) (h : DataW.slice elems spare ∈ l) : elems.length ≤ 1048576 := by
  have h1 := small hk
  have h2 := part_le h
  have h3 := length_le elems
  simp only [Rows.uptoBulk] at h2
  omega
theorem string {H : Type} {l : List (DataW H)} {bytes : List UInt8} (hk : Rows.uptoSmall H l = true) (h : DataW.lit (.string bytes) ∈ l) : bytes.length ≤ 1048576 := by
  have h1 := small hk
  have h2 := part_le h
  simp only [Rows.uptoBulk] at h2
  omega
end Go.Proofs.YtjdohhididpomaaDoor.Bulk
end

section
namespace Go.Proofs.YtjdohhididpomaaDoor.Lg
open Go Go.RowKit Go.ChangeShapes Go.WideShapes Go.ChangeAt Vc Lw
theorem list_choose {α : Type} {R : Nat → α → Prop} : ∀ (n : Nat), (∀ i, i < n → ∃ q, R i q) → ∃ l : List α, l.length = n ∧ ∀ i q, l[i]? = some q → R i q
  | 0, _ => ⟨[], rfl, by simp⟩
  | n + 1, h => by
    obtain ⟨l, h1, h2⟩ := list_choose n (fun i hi => h i (by omega))
    obtain ⟨q, hq⟩ := h n (by omega)
    refine ⟨l ++ [q], by simp [h1], fun i x hx => ?_⟩
    by_cases hi : i < n
    · rw [List.getElem?_append_left (by omega)] at hx; exact h2 i x hx
    · rw [List.getElem?_append_right (by omega), h1] at hx
      have hz : i - n = 0 := by
        cases hk : i - n with
        | zero => rfl
        | succ k => rw [hk] at hx; simp at hx
      rw [hz] at hx
      simp only [List.getElem?_cons_zero, Option.some.injEq] at hx
      subst hx
      rw [show i = n from by omega]; exact hq
def kindIs (P : Program) (t : TypeId) (k : Nat) : Bool := match P.underlying t, k with
  | some .string, 0 => true
  | some (.int .i8), 1 => true
  | some (.int .i64), 2 => true
  | some .bool, 3 => true
  | some (.int .u16), 4 => true
  | _, _ => false
def partsAre (kd : TypeId → Nat → Bool) (P : Program) (e : TypeId) (ks : List Nat) : Bool := match P.underlying e with
  | some (.struct fs) => fs.size == ks.length && (List.range ks.length).all fun i => match fs[i]?, ks[i]? with
    | some f, some k => f.offset == i && (P.cellsOf f.type == 1 && kd f.type k)
    | _, _ => false
  | _ => false
def isCells (P : Program) (t : TypeId) : Bool := match P.underlying t with
  | some (.slice e) => P.cellsOf e == 6 && partsAre (kindIs P) P e [0, 1, 2, 2, 3, 4]
  | _ => false
def kindAt (P : Program) (t : TypeId) (k : Nat) : Bool := if k = 5 then isCells P t else kindIs P t k
def isGrid (P : Program) (e : TypeId) : Bool := P.cellsOf e == 5 && partsAre (kindAt P) P e [2, 2, 5, 2, 2]
theorem parts_of {kd : TypeId → Nat → Bool} {P : Program} {e : TypeId} {ks : List Nat} (h : partsAre kd P e ks = true) : ∃ fs, P.underlying e = some (.struct fs) ∧ fs.size = ks.length ∧ ∀ (i : Nat) (k : Nat), ks[i]? = some k → ∃ f, fs[i]? = some f ∧ f.offset = i ∧ P.cellsOf f.type = 1 ∧ kd f.type k = true := by
  unfold partsAre at h
  split at h
  case h_2 => cases h
  rename_i fs hu
  simp only [Bool.and_eq_true, beq_iff_eq] at h
  refine ⟨fs, hu, h.1, fun i k hk => ?_⟩
  have hi : i < ks.length := (List.getElem?_eq_some_iff.1 hk).1
  have := List.all_eq_true.1 h.2 i (List.mem_range.2 hi)
  rw [hk] at this
  split at this
  · rename_i f k' h1 h2
    cases h2
    simp only [Bool.and_eq_true, beq_iff_eq] at this
    exact ⟨f, h1, this.1, this.2.1, this.2.2⟩
  · cases this
section
variable {H : Type} {enc : TypeId × Value → H} {P : Program} {W : World} {base : Nat}
theorem spot_none {W : World} {b o : Nat} {sp : Option Nat} {v : Value} (h : W.cell? ⟨b, o, sp⟩ = some v) : sp = none := by
  cases sp with
  | none => rfl
  | some q =>
    simp only [World.cell?] at h
    split at h <;> simp at h
theorem bulk_list {α : Type} (f : Nat → DataW H) (g : α → Nat) : ∀ (l : List α), (∀ i (x : α), l[i]? = some x → g x ≤ Rows.uptoBulk (f i)) → (l.map g).sum ≤ Rows.uptoBulkAll ((List.range l.length).map f) := by
  intro l
  induction l generalizing f with
  | nil => intro _; exact Nat.zero_le _
  | cons x l ih =>
    intro h
    have h1 := ih (fun i => f (i + 1)) (fun i y hy => h (i + 1) y (by simpa using hy))
    have h0 := h 0 x rfl
    rw [List.length_cons, List.range_succ_eq_map, List.map_cons, List.map_cons, List.map_map, List.sum_cons]
    show g x + _ ≤ Rows.uptoBulk (f 0) + Rows.uptoBulkAll ((List.range l.length).map (f ∘ Nat.succ))
    exact Nat.add_le_add h0 h1
theorem val_slice {b0 : Nat} {t e : TypeId} {v : Value} (ht : P.underlying t = some (.slice e)) (hval : Value.okWide P W .any b0 t v) : ∀ (a : Option Addr) (n c : Nat), v.cells.toList = [.slice a n c] → v = .slice a n c := by
  intro a n c hu
  cases v <;> simp_all [Value.cells]
  rename_i cs
  simp only [Value.okWide, ht] at hval
  simp [Cell.okWide, Cell.ok, ht] at hval
theorem rows_in {α : Type} {f : α → List Value} {s : Nat} {Good : α → Prop} {g : α → Nat} {fuel : Nat} {t e : TypeId} {vs : List Value} {x : DataW H × List MemPlace} (ht : P.underlying t = some (.slice e)) (ce : P.cellsOf e = s) (hs : 0 < s) (hf : ∀ q, (f q).length = s)
    (elem : ∀ n cs y, DataW.trod enc P W base (fun _ => true) true n e cs = some y → ∃ q, cs = f q ∧ Good q ∧ g q ≤ Rows.uptoBulk y.1)
    (h : DataW.trod enc P W base (fun _ => true) true fuel t vs = some x) : ∃ (ad : Option Addr) (c : Nat) (l : List α), vs = [.slice ad l.length c] ∧ CellsAt W ad (l.flatMap f) ∧ (∀ q ∈ l, Good q) ∧ (l.map g).sum ≤ Rows.uptoBulk x.1 := by
  rcases Go.Deep.open_slice ht h with ⟨h1, h2⟩ | ⟨a, len, cap, m, n, D, Pl, h1, h2, h3, h4, h5, h6, h7⟩
  · exact ⟨none, 0, [], h1, CellsAt.nil _ _, fun q hq => (by cases hq), Nat.zero_le _⟩
  · simp only [if_true] at h5
    obtain ⟨l, hl, hR⟩ := list_choose (R := fun i (q : α) => (∀ j, j < s → W.cell? (a.add (i * s + j)) = (f q)[j]?) ∧ Good q ∧ g q ≤ Rows.uptoBulk (D i)) len (fun i hi => by
      obtain ⟨cs', k1, k2⟩ := h7 i (by omega)
      rw [ce] at k1
      obtain ⟨_, _, hcell⟩ := World.cells?_some k1
      obtain ⟨q, e1, e2, e3⟩ := elem _ _ _ k2
      subst e1
      exact ⟨q, fun j hj => by rw [← Go.Deep.add_add]; exact hcell j hj, e2, e3⟩)
    refine ⟨some a, cap, l, by rw [h1, hl], ?_, fun x hx => ?_, ?_⟩
    · by_cases hz : len = 0
      · left
        have : l = [] := List.eq_nil_of_length_eq_zero (by omega)
        rw [this]; rfl
      · have hq0 : l[0]? = some (l[0]'(by omega)) := List.getElem?_eq_getElem (by omega)
        have h0 := (hR 0 _ hq0).1 0 hs
        obtain ⟨b, o, sp⟩ := a
        have hsome : ∃ v, (f (l[0]'(by omega)))[0]? = some v := ⟨_, List.getElem?_eq_getElem (by rw [hf]; exact hs)⟩
        obtain ⟨v, hv⟩ := hsome
        rw [hv] at h0
        have hsp : sp = none := spot_none (b := b) (o := o + (0 * s + 0)) (by rw [← h0]; congr 1; unfold Addr.add; simp)
        subst hsp
        refine .inr ⟨b, o, rfl, fun j u hj => ?_⟩
        have hj1 := (List.getElem?_eq_some_iff.1 hj).1
        rw [flat_len' hf, hl] at hj1
        have hdm := Nat.div_add_mod j s
        have hlt : j / s < l.length := by rw [hl]; exact Nat.div_lt_of_lt_mul (by rw [Nat.mul_comm]; exact hj1)
        have hq : l[j / s]? = some (l[j / s]'hlt) := List.getElem?_eq_getElem hlt
        have hat := flat_at (j := j % s) hf hq (Nat.mod_lt _ hs)
        have he : j / s * s + j % s = j := by rw [Nat.mul_comm]; exact hdm
        rw [he, hj] at hat
        have := (hR _ _ hq).1 (j % s) (Nat.mod_lt _ hs)
        rw [he, ← hat, add_lit] at this
        exact this
    · obtain ⟨i, hi⟩ := List.mem_iff_getElem?.1 hx
      exact (hR i x hi).2.1
    · rw [h6]
      simp only [Rows.uptoBulk]
      have := bulk_list D g l (fun i x hx => (hR i x hx).2.2)
      rw [hl] at this
      omega
theorem parts_in {kd : TypeId → Nat → Bool} {e : TypeId} {ks : List Nat} {fuel : Nat} {cs : List Value} {y : DataW H × List MemPlace} (hp : partsAre kd P e ks = true) (hc : P.cellsOf e = ks.length) (h : DataW.trod enc P W base (fun _ => true) true fuel e cs = some y) :
    ∃ (xs : List (DataW H × List MemPlace)), y.1 = .agg (xs.map (·.1)) ∧ cs.length = ks.length ∧ xs.length = ks.length ∧
      ∀ (i : Nat) k v x, ks[i]? = some k → cs[i]? = some v → xs[i]? = some x → ∃ n f, kd f k = true ∧ DataW.trod enc P W base (fun _ => true) true n f [v] = some x := by
  obtain ⟨fs, hu, hn, hf⟩ := parts_of hp
  obtain ⟨xs, n, _, h1, h2, h3, h4⟩ := DataW.trod_struct hu h
  refine ⟨xs, by rw [h1], by omega, by omega, fun i k v x hk hv hx => ?_⟩
  obtain ⟨f, g1, g2, g3, g4⟩ := hf i k hk
  have := h4 i f g1
  rw [g2, g3, hx] at this
  have hil := (List.getElem?_eq_some_iff.1 hv).1
  rw [List.drop_eq_getElem_cons hil, show (cs[i] :: cs.drop (i + 1)).take 1 = [cs[i]] from rfl] at this
  rw [List.getElem?_eq_getElem hil] at hv
  cases hv
  exact ⟨n, f.type, g4, this⟩
theorem kd_str {t : TypeId} (h : kindIs P t 0 = true) : P.underlying t = some .string := by unfold kindIs at h; split at h <;> simp_all
theorem kd_i8 {t : TypeId} (h : kindIs P t 1 = true) : P.underlying t = some (.int .i8) := by unfold kindIs at h; split at h <;> simp_all
theorem kd_int {t : TypeId} (h : kindIs P t 2 = true) : P.underlying t = some (.int .i64) := by unfold kindIs at h; split at h <;> simp_all
theorem kd_bool {t : TypeId} (h : kindIs P t 3 = true) : P.underlying t = some .bool := by unfold kindIs at h; split at h <;> simp_all
theorem kd_u16 {t : TypeId} (h : kindIs P t 4 = true) : P.underlying t = some (.int .u16) := by unfold kindIs at h; split at h <;> simp_all
theorem cell_elem {e : TypeId} {fuel : Nat} {cs : List Value} {y : DataW H × List MemPlace} (hp : partsAre (kindIs P) P e [0, 1, 2, 2, 3, 4] = true) (hc : P.cellsOf e = 6) (h : DataW.trod enc P W base (fun _ => true) true fuel e cs = some y) :
    ∃ q : Ce, cs = ceV q ∧ q.st < 65536 ∧ 2 + q.t.size ≤ Rows.uptoBulk y.1 := by
  obtain ⟨xs, h1, h2, h3, h4⟩ := parts_in hp hc h
  match cs, h2, xs, h3 with
  | [v0, v1, v2, v3, v4, v5], _, [x0, x1, x2, x3, x4, x5], _ =>
    obtain ⟨n0, f0, k0, r0⟩ := h4 0 _ _ _ rfl rfl rfl
    obtain ⟨n1, f1, k1, r1⟩ := h4 1 _ _ _ rfl rfl rfl
    obtain ⟨n2, f2, k2, r2⟩ := h4 2 _ _ _ rfl rfl rfl
    obtain ⟨n3, f3, k3, r3⟩ := h4 3 _ _ _ rfl rfl rfl
    obtain ⟨n4, f4, k4, r4⟩ := h4 4 _ _ _ rfl rfl rfl
    obtain ⟨n5, f5, k5, r5⟩ := h4 5 _ _ _ rfl rfl rfl
    obtain ⟨s, e0, d0, -⟩ := DataW.trod_string (kd_str k0) r0
    obtain ⟨p, e1, -, -⟩ := DataW.trod_int (kd_i8 k1) r1
    obtain ⟨a, e2, -, -⟩ := DataW.trod_int (kd_int k2) r2
    obtain ⟨nn, e3, -, -⟩ := DataW.trod_int (kd_int k3) r3
    obtain ⟨r, e4, -⟩ := DataW.trod_bool (kd_bool k4) r4
    obtain ⟨st, e5, -, w5⟩ := DataW.trod_int (kd_u16 k5) r5
    injection e0 with e0 _; injection e1 with e1 _; injection e2 with e2 _; injection e3 with e3 _; injection e4 with e4 _; injection e5 with e5 _
    subst e0 e1 e2 e3 e4 e5
    have hw : 0 ≤ st ∧ st < 65536 := by
      simp only [Lit.wf, IntKind.min, IntKind.max, IntKind.signed, IntKind.bits, Bool.and_eq_true] at w5
      revert w5
      simp
      omega
    refine ⟨⟨s, p, a, nn, r, st.toNat⟩, ?_, by show st.toNat < 65536; omega, ?_⟩
    · show _ = [_, _, _, _, _, Value.int .u16 ((st.toNat : Nat) : Int)]
      rw [Int.toNat_of_nonneg hw.1]
    · have hs : s.data.toList.length = s.size := Array.length_toList
      rw [h1]
      simp only [List.map_cons, List.map_nil, Rows.uptoBulk, Rows.uptoBulkAll, d0]
      show 2 + s.size ≤ _
      omega
theorem bulk_len (l : List Ce) : (l.map fun c => 2 + c.t.size).sum = bulkC l + l.length := by
  induction l with
  | nil => rfl
  | cons c l ih =>
    unfold bulkC at ih ⊢
    simp only [List.map_cons, List.sum_cons, List.length_cons, ih]
    omega
theorem grid_elem {e : TypeId} {fuel : Nat} {cs : List Value} {y : DataW H × List MemPlace} (hg : isGrid P e = true) (h : DataW.trod enc P W base (fun _ => true) true fuel e cs = some y) :
    ∃ E : GrE, cs = grV E ∧ (CellsAt W E.ad (flat E.g.cs) ∧ ∀ c ∈ E.g.cs, c.st < 65536) ∧ bulkC E.g.cs + E.g.cs.length ≤ Rows.uptoBulk y.1 := by
  unfold isGrid at hg
  simp only [Bool.and_eq_true, beq_iff_eq] at hg
  obtain ⟨xs, h1, h2, h3, h4⟩ := parts_in hg.2 hg.1 h
  match cs, h2, xs, h3 with
  | [v0, v1, v2, v3, v4], _, [x0, x1, x2, x3, x4], _ =>
    obtain ⟨n0, f0, k0, r0⟩ := h4 0 _ _ _ rfl rfl rfl
    obtain ⟨n1, f1, k1, r1⟩ := h4 1 _ _ _ rfl rfl rfl
    obtain ⟨n2, f2, k2, r2⟩ := h4 2 _ _ _ rfl rfl rfl
    obtain ⟨n3, f3, k3, r3⟩ := h4 3 _ _ _ rfl rfl rfl
    obtain ⟨n4, f4, k4, r4⟩ := h4 4 _ _ _ rfl rfl rfl
    obtain ⟨a0, e0, -, -⟩ := DataW.trod_int (kd_int k0) r0
    obtain ⟨a1, e1, -, -⟩ := DataW.trod_int (kd_int k1) r1
    obtain ⟨a3, e3, -, -⟩ := DataW.trod_int (kd_int k3) r3
    obtain ⟨a4, e4, -, -⟩ := DataW.trod_int (kd_int k4) r4
    have k2 : isCells P f2 = true := k2
    unfold isCells at k2
    split at k2
    case h_2 => cases k2
    rename_i ec hu
    simp only [Bool.and_eq_true, beq_iff_eq] at k2
    obtain ⟨ad, c, l, e2, g1, g2, g3⟩ := rows_in (f := ceV) (s := 6) (Good := fun q : Ce => q.st < 65536) (g := fun q : Ce => 2 + q.t.size) hu k2.1 (by decide) (fun _ => rfl) (fun n cs y hy => cell_elem k2.2 k2.1 hy) r2
    rw [bulk_len] at g3
    injection e0 with e0 _; injection e1 with e1 _; injection e2 with e2 _; injection e3 with e3 _; injection e4 with e4 _
    subst e0 e1 e2 e3 e4
    refine ⟨⟨ad, c, ⟨a0, a1, l, a3, a4⟩⟩, rfl, ⟨g1, g2⟩, ?_⟩
    rw [h1]
    simp only [List.map_cons, List.map_nil, Rows.uptoBulk, Rows.uptoBulkAll]
    show bulkC l + l.length ≤ _
    omega
theorem mem_sum {α : Type} {g : α → Nat} {l : List α} {x : α} (h : x ∈ l) : g x ≤ (l.map g).sum := by
  induction l with
  | nil => cases h
  | cons y l ih =>
    rw [List.map_cons, List.sum_cons]
    rcases List.mem_cons.1 h with rfl | h
    · omega
    · have := ih h; omega
theorem grids_in {b0 : Nat} {t e : TypeId} {v : Value} {d : DataW H} {p : List MemPlace} (ht : P.underlying t = some (.slice e)) (hg : isGrid P e = true)
    (hval : Value.okWide P W .any b0 t v) (h : DataW.Trod enc P W base (fun _ => true) true t v d p) (hb : Rows.uptoBulk d ≤ 1048576) :
    ∃ (ad : Option Addr) (c : Nat) (l : List GrE), v = .slice ad l.length c ∧ grsIn W ad l := by
  obtain ⟨fuel, hf⟩ := h
  have ce : P.cellsOf e = 5 := by
    unfold isGrid at hg
    simp only [Bool.and_eq_true, beq_iff_eq] at hg
    exact hg.1
  obtain ⟨ad, c, l, e1, g1, g2, g3⟩ := rows_in (f := grV) (s := 5) (Good := fun E : GrE => CellsAt W E.ad (flat E.g.cs) ∧ ∀ c ∈ E.g.cs, c.st < 65536) (g := fun E : GrE => bulkC E.g.cs + E.g.cs.length) ht ce (by decide) (fun _ => rfl) (fun n cs y hy => grid_elem hg hy) hf
  refine ⟨ad, c, l, val_slice ht hval _ _ _ e1, ⟨g1, fun E hE => ⟨(g2 E hE).1, ?_, (g2 E hE).2⟩⟩⟩
  have := mem_sum (g := fun E : GrE => bulkC E.g.cs + E.g.cs.length) hE
  dsimp only at this g3
  omega
end
end Go.Proofs.YtjdohhididpomaaDoor.Lg
end

section
namespace Go.Proofs.YtjdohhididpomaaDoor
open Go Go.Shelf Go.RowKit Go.Lib
def u8laid : List (String × DataW Unit) := [("unicode/utf8.acceptRanges", Rows.laid_unicode_utf8_acceptRanges), ("unicode/utf8.first", Rows.laid_unicode_utf8_first)]
theorem first_is : Rows.laid_unicode_utf8_first = Lib.firstData := by kernel_rfl
theorem accept_is : (Rows.laid_unicode_utf8_acceptRanges : DataW Unit) = Lib.acceptData := by kernel_rfl
theorem u8_of {W : World} (hL : laidMet Tryd.prog u8laid W) : U8 W := by
  have h3 := Lib.laidMet.reads hL (n := "unicode/utf8.first") (d := Lib.firstData) (by rw [← first_is]; exact .tail _ (.head _))
  have h4 := Lib.laidMet.reads hL (n := "unicode/utf8.acceptRanges") (d := Lib.acceptData) (by rw [← accept_is]; exact .head _)
  exact utf8Tabs_of_reads Tryd.lays260 ⟨by kernel_rfl, by kernel_rfl, by kernel_rfl, by kernel_rfl, by kernel_rfl, by kernel_rfl, by kernel_rfl⟩ h3 h4
noncomputable def laidWorld (os : Os) : World :=
  let w0 := World.holding Tryd.prog os ⟨#[], #[], []⟩
  let put (h : Array Obj) (g : Nat) (cs : Array Value) : Array Obj := h.modify g fun
    | .cells _ t frozen => .cells cs t frozen
    | o => o
  let h1 := put w0.heap 0 (Lib.firstTab.map fun z => Value.int .u8 z).toArray
  let h2 := put h1 1 ((List.range 16).flatMap fun i => [Value.int .u8 (Lib.accLo i), Value.int .u8 (Lib.accHi i)]).toArray
  { w0 with heap := h2 }
theorem laid_met (os : Os) (args : Array Value) : laidMet Tryd.prog u8laid ((laidWorld os).forCall (fun _ _ => 0) ⟨#[], args, []⟩).memory :=
  (LaidIn.of_run (l := u8laid) [1, 0] 8 (by kernel_rfl) (by kernel_rfl) (by kernel_rfl) (by kernel_rfl)).met
end Go.Proofs.YtjdohhididpomaaDoor
end
