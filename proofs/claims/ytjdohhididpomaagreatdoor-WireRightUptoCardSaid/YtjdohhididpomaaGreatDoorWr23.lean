/-
  Texts joined by program: WkYh, SpXw, VgXw, WkYg, Lw, Bulk.
-/
import Derived.Test.YtjdohhididpomaaGreatDoorWr22
import Derived.Test.YtjdohhididpomaaGreatDoorWr21
import Derived.Test.YtjdohhididpomaaGreatDoorWr16
import Derived.Test.YtjdohhididpomaaGreatDoorProg
import Derived.KernelRfl
import Derived.Test.YtjdohhididpomaaGreatDoorWr17
import Derived.Test.YtjdohhididpomaaGreatDoorRows
import Derived.Test.YtjdohhididpomaaGreatDoorWr03
import Derived.WalkKit
import Derived.ProofKit
import Derived.OpenShut
import Derived.JoinedCond
import Derived.SizedLaws
import Derived.Carry
set_option linter.unusedVariables false
set_option linter.unusedSimpArgs false

namespace Go.Proofs.YtjdohhididpomaaGreatDoor
section
open Go Go.RowKit Vc Ut Tb Cl Orb
def GrAt (w : World) (b o : Nat) (e : GrE) : Prop :=
  w.cell? ⟨b, o, none⟩ = some (.int .i64 e.g.w) ∧ w.cell? ⟨b, o + 1, none⟩ = some (.int .i64 e.g.h) ∧ w.cell? ⟨b, o + 2, none⟩ = some (.slice e.ad e.g.cs.length e.c) ∧ w.cell? ⟨b, o + 3, none⟩ = some (.int .i64 e.g.x) ∧ w.cell? ⟨b, o + 4, none⟩ = some (.int .i64 e.g.y)
theorem GrAt.load {w : World} {b o : Nat} {e : GrE} (h : GrAt w b o e) {K : Int → Int → Option Addr → Nat → Nat → Int → Int → Prop} (hk : K e.g.w e.g.h e.ad e.g.cs.length e.c e.g.x e.g.y) :
    ∃ n, w.cell? ⟨b, o, none⟩ = some (.int .i64 n) ∧ ∃ n1, w.cell? ⟨b, o + 1, none⟩ = some (.int .i64 n1) ∧ ∃ a m c, w.cell? ⟨b, o + 2, none⟩ = some (.slice a m c) ∧ ∃ n2, w.cell? ⟨b, o + 3, none⟩ = some (.int .i64 n2) ∧ ∃ n3, w.cell? ⟨b, o + 4, none⟩ = some (.int .i64 n3) ∧ K n n1 a m c n2 n3 :=
  ⟨_, h.1, _, h.2.1, _, _, _, h.2.2.1, _, h.2.2.2.1, _, h.2.2.2.2, hk⟩
theorem box_gr {w : World} {b : Nat} {e : GrE} (h : boxE w b e) : GrAt w b 0 e :=
  ⟨(cell_of_heap h 0).trans rfl, (cell_of_heap h 1).trans rfl, (cell_of_heap h 2).trans rfl, (cell_of_heap h 3).trans rfl, (cell_of_heap h 4).trans rfl⟩
theorem putR {w : World} {b : Nat} {t : TypeId} {z0 z1 z2 z3 z4 v0 v1 v2 v3 v4 : Value} {K : World → Prop} (h : w.heap[b]? = some (.cells #[z0, z1, z2, z3, z4] t))
    (hk : ∀ w', w'.heap[b]? = some (.cells #[v0, v1, v2, v3, v4] t) → Fr (fun q => q = b) w w' → K w') :
    true = true ∧ (∃ old, w.cell? ⟨b, 0, none⟩ = some old) ∧ w.frozen? ⟨b, 0, none⟩ = false ∧ ∀ w1, Stored w ⟨b, 0, none⟩ v0 w1 →
    true = true ∧ (∃ old, w1.cell? ⟨b, 1, none⟩ = some old) ∧ w1.frozen? ⟨b, 1, none⟩ = false ∧ ∀ w2, Stored w1 ⟨b, 1, none⟩ v1 w2 →
    true = true ∧ (∃ old, w2.cell? ⟨b, 2, none⟩ = some old) ∧ w2.frozen? ⟨b, 2, none⟩ = false ∧ ∀ w3, Stored w2 ⟨b, 2, none⟩ v2 w3 →
    true = true ∧ (∃ old, w3.cell? ⟨b, 3, none⟩ = some old) ∧ w3.frozen? ⟨b, 3, none⟩ = false ∧ ∀ w4, Stored w3 ⟨b, 3, none⟩ v3 w4 →
    true = true ∧ (∃ old, w4.cell? ⟨b, 4, none⟩ = some old) ∧ w4.frozen? ⟨b, 4, none⟩ = false ∧ ∀ w5, Stored w4 ⟨b, 4, none⟩ v4 w5 → K w5 := by
  refine ⟨rfl, (box5 h (k := 0) (by decide)).1, (box5 h (k := 0) (by decide)).2, fun w1 s1 => ?_⟩
  have h1 := s1.heap h
  refine ⟨rfl, (box5 h1 (k := 1) (by decide)).1, (box5 h1 (k := 1) (by decide)).2, fun w2 s2 => ?_⟩
  have h2 := s2.heap h1
  refine ⟨rfl, (box5 h2 (k := 2) (by decide)).1, (box5 h2 (k := 2) (by decide)).2, fun w3 s3 => ?_⟩
  have h3 := s3.heap h2
  refine ⟨rfl, (box5 h3 (k := 3) (by decide)).1, (box5 h3 (k := 3) (by decide)).2, fun w4 s4 => ?_⟩
  have h4 := s4.heap h3
  refine ⟨rfl, (box5 h4 (k := 4) (by decide)).1, (box5 h4 (k := 4) (by decide)).2, fun w5 s5 => ?_⟩
  have h5 := s5.heap h4
  refine hk w5 h5 ?_
  have f : ∀ {a b' : World} {k : Nat} {v : Value}, Stored a ⟨b, k, none⟩ v b' → Fr (fun q => q = b) a b' := fun hs => Fr.stored hs
  exact ((((f s1).trans (f s2) (fun _ _ hx => hx)).trans (f s3) (fun _ _ hx => hx)).trans (f s4) (fun _ _ hx => hx)).trans (f s5) (fun _ _ hx => hx)
theorem fr_ext {S : Nat → Prop} {w0 w w' : World} (hf : Fr S w w') (hx : Ext w0 w) (hS : ∀ q, S q → w0.heap.size ≤ q) : Ext w0 w' :=
  Below.trans hx (hf.below hx.size (fun q hq hh => by have := hS q hh; omega))
end

section
open Go Go.RowKit Vc Ut Tb Cl
structure GRt3 where
  a1 : Option Addr
  c1 : Nat
  g1 : Gr
  a2 : Option Addr
  c2 : Nat
  g2 : Gr
  wd : Bool
def sLawRt : CallSpec where
  G := GRt3
  args := fun g => #[grA g.a1 g.c1 g.g1, grA g.a2 g.c2 g.g2, .bool g.wd]
  pre := fun g w => UP w ∧ (CellsAt w g.a1 (flat g.g1.cs) ∧ bulkC g.g1.cs ≤ 1048576) ∧ (CellsAt w g.a2 (flat g.g2.cs) ∧ bulkC g.g2.cs ≤ 1048576)
  X := Unit
  res := fun _ => .bool true
  post := fun _ w _ w' => Ext w w'
def spLawRt : List (Nat × CallSpec) := [(6, sBeyond), (7, sWorksX), (8, sTwin), (9, sRightW), (10, sRightW), (11, sSameW), (12, sSameW), (13, sKept)]
structure RtX where
  b3 : Nat
  b4 : Nat
  b7 : Nat
  b8 : Nat
  a7 : Option Addr
  c7 : Nat
  a8 : Option Addr
  c8 : Nat
structure RtF (g : GRt3) (w00 : World) (x : RtX) (w : World) : Prop where
  ext : Ext w00 w
  b3 : boxE w x.b3 ⟨g.a1, g.c1, g.g1⟩
  b4 : boxE w x.b4 ⟨g.a2, g.c2, g.g2⟩
  b7 : boxE w x.b7 ⟨x.a7, x.c7, g.g1⟩
  b8 : boxE w x.b8 ⟨x.a8, x.c8, g.g2⟩
  t7 : CellsAt w x.a7 (flat (g.g1.cs ++ [markC]))
  t8 : CellsAt w x.a8 (flat (g.g2.cs ++ [markC]))
  l7 : g.g1.cs.length + 1 ≤ x.c7
  l8 : g.g2.cs.length + 1 ≤ x.c8
def annLawRt (g : GRt3) (w00 : World) : Ann where
  sp := spLawRt
  cuts := [(3, 3, { X := RtX, sh := fun _ x => [(7, .pointer (some ⟨x.b7, 0, none⟩)), (8, .pointer (some ⟨x.b8, 0, none⟩))], inv := fun e _ x w => RtF g w00 x w ∧ gv e 3 = .pointer (some ⟨x.b3, 0, none⟩) ∧ gv e 4 = .pointer (some ⟨x.b4, 0, none⟩) })]
end

section
set_option linter.unusedVariables false
open Go Go.RowKit Vc Ut Tb Cl
open Value
set_option maxRecDepth 1000000
theorem lawRt_vc (hsp : SpecsOk Tryz.prog spLawRt) (h : ∀ (g : GRt3) (w : World), UP w ∧ (CellsAt w g.a1 (flat g.g1.cs) ∧ bulkC g.g1.cs ≤ 1048576) ∧ CellsAt w g.a2 (flat g.g2.cs) ∧ bulkC g.g2.cs ≤ 1048576 → ∀ b w1, New w (Obj.cells #[int .i64 g.g1.w, int .i64 g.g1.h, slice g.a1 g.g1.cs.length g.c1, int .i64 g.g1.x, int .i64 g.g1.y] 24) b w1 → ∀ b1 w11, New w1 (Obj.cells #[int .i64 g.g2.w, int .i64 g.g2.h, slice g.a2 g.g2.cs.length g.c2, int .i64 g.g2.x, int .i64 g.g2.y] 24) b1 w11 → LdS w11 b 2 fun a3 n c => ∃ (g1 : GCs), #[slice a3 n c] = #[slice g1.ad g1.cs.length g1.c] ∧ (CellsAt w11 g1.ad (flat g1.cs) ∧ bulkC g1.cs ≤ 16777216) ∧ ∀ (x : Unit) w', Ext w11 w' → LdS w' b1 2 fun a5 n1 c1 => ∃ (g2 : GCs), #[slice a5 n1 c1] = #[slice g2.ad g2.cs.length g2.c] ∧ (CellsAt w' g2.ad (flat g2.cs) ∧ bulkC g2.cs ≤ 16777216) ∧ ∀ (x1 : Unit) w'1, Ext w' w'1 → (∀ w12, Drew w'1 w12 → LdG w'1 b fun n2 n3 a8 n4 c2 n5 n6 => LdG w'1 b1 fun n7 n8 a9 n9 c3 n10 n11 => (∃ (g3 : GTw), #[agg #[int .i64 n2, int .i64 n3, slice a8 n4 c2, int .i64 n5, int .i64 n6]] = #[grA g3.ad g3.c g3.g] ∧ grIn w12 g3.ad g3.g.cs ∧ ∀ (x2 : GTw) w'2, x2.g = g3.g ∧ Made w12 w'2 (52 : TypeId) 6 x2.ad (g3.g.cs.length + 1) (flat (g3.g.cs ++ [markC])) x2.c → Below w12.heap.size w12 w'2 ∧ (∃ (g4 : GTw), #[agg #[int .i64 n7, int .i64 n8, slice a9 n9 c3, int .i64 n10, int .i64 n11]] = #[grA g4.ad g4.c g4.g] ∧ grIn w'2 g4.ad g4.g.cs ∧ ∀ (x3 : GTw) w'3, x3.g = g4.g ∧ Made w'2 w'3 (52 : TypeId) 6 x3.ad (g4.g.cs.length + 1) (flat (g4.g.cs ++ [markC])) x3.c → (∀ b2 w13, New w'3 (Obj.cells #[int .i64 0, int .i64 0, slice none 0 0, int .i64 0, int .i64 0] 24) b2 w13 → Below w'3.heap.size w'3 w13 ∧ ∀ b3 w14, New w13 (Obj.cells #[int .i64 0, int .i64 0, slice none 0 0, int .i64 0, int .i64 0] 24) b3 w14 → Below w13.heap.size w13 w14 ∧ StE w14 b2 0 (int .i64 x2.g.w) fun w15 => StE w15 b2 1 (int .i64 x2.g.h) fun w16 => StE w16 b2 2 (slice x2.ad x2.g.cs.length x2.c) fun w17 => StE w17 b2 3 (int .i64 x2.g.x) fun w18 => StE w18 b2 4 (int .i64 x2.g.y) fun w19 => StE w19 b3 0 (int .i64 x3.g.w) fun w110 => StE w110 b3 1 (int .i64 x3.g.h) fun w111 => StE w111 b3 2 (slice x3.ad x3.g.cs.length x3.c) fun w112 => StE w112 b3 3 (int .i64 x3.g.x) fun w113 => StE w113 b3 4 (int .i64 x3.g.y) fun w114 => ∃ (c4 : RtX), pointer (some ⟨b2, 0, none⟩) = pointer (some ⟨c4.b7, 0, none⟩) ∧ pointer (some ⟨b3, 0, none⟩) = pointer (some ⟨c4.b8, 0, none⟩) ∧ RtF g w c4 w114 ∧ pointer (some ⟨b, 0, none⟩) = pointer (some ⟨c4.b3, 0, none⟩) ∧ pointer (some ⟨b1, 0, none⟩) = pointer (some ⟨c4.b4, 0, none⟩)) ∧ ∀ b2 w13, New w'3 (Obj.cells #[int .i64 0, int .i64 0, slice none 0 0, int .i64 0, int .i64 0] 24) b2 w13 → Below w'3.heap.size w'3 w13 ∧ ∀ b3 w14, New w13 (Obj.cells #[int .i64 0, int .i64 0, slice none 0 0, int .i64 0, int .i64 0] 24) b3 w14 → Below w13.heap.size w13 w14 ∧ StE w14 b3 0 (int .i64 x2.g.w) fun w15 => StE w15 b3 1 (int .i64 x2.g.h) fun w16 => StE w16 b3 2 (slice x2.ad x2.g.cs.length x2.c) fun w17 =>
 StE w17 b3 3 (int .i64 x2.g.x) fun w18 => StE w18 b3 4 (int .i64 x2.g.y) fun w19 => StE w19 b2 0 (int .i64 x3.g.w) fun w110 => StE w110 b2 1 (int .i64 x3.g.h) fun w111 => StE w111 b2 2 (slice x3.ad x3.g.cs.length x3.c) fun w112 => StE w112 b2 3 (int .i64 x3.g.x) fun w113 => StE w113 b2 4 (int .i64 x3.g.y) fun w114 => ∃ (c4 : RtX), pointer (some ⟨b3, 0, none⟩) = pointer (some ⟨c4.b7, 0, none⟩) ∧ pointer (some ⟨b2, 0, none⟩) = pointer (some ⟨c4.b8, 0, none⟩) ∧ RtF g w c4 w114 ∧ pointer (some ⟨b, 0, none⟩) = pointer (some ⟨c4.b3, 0, none⟩) ∧ pointer (some ⟨b1, 0, none⟩) = pointer (some ⟨c4.b4, 0, none⟩)) ∧ (∀ b2 w13, New w'2 (Obj.cells #[int .i64 0, int .i64 0, slice none 0 0, int .i64 0, int .i64 0] 24) b2 w13 → Below w'2.heap.size w'2 w13 ∧ (∃ (g4 : GTw), #[agg #[int .i64 n7, int .i64 n8, slice a9 n9 c3, int .i64 n10, int .i64 n11]] = #[grA g4.ad g4.c g4.g] ∧ grIn w13 g4.ad g4.g.cs ∧ ∀ (x3 : GTw) w'3, x3.g = g4.g ∧ Made w13 w'3 (52 : TypeId) 6 x3.ad (g4.g.cs.length + 1) (flat (g4.g.cs ++ [markC])) x3.c → Below w13.heap.size w13 w'3 ∧ ∀ b3 w14, New w'3 (Obj.cells #[int .i64 0, int .i64 0, slice none 0 0, int .i64 0, int .i64 0] 24) b3 w14 → Below w'3.heap.size w'3 w14 ∧ StE w14 b2 0 (int .i64 x2.g.w) fun w15 => StE w15 b2 1 (int .i64 x2.g.h) fun w16 => StE w16 b2 2 (slice x2.ad x2.g.cs.length x2.c) fun w17 => StE w17 b2 3 (int .i64 x2.g.x) fun w18 => StE w18 b2 4 (int .i64 x2.g.y) fun w19 => StE w19 b3 0 (int .i64 x3.g.w) fun w110 => StE w110 b3 1 (int .i64 x3.g.h) fun w111 => StE w111 b3 2 (slice x3.ad x3.g.cs.length x3.c) fun w112 => StE w112 b3 3 (int .i64 x3.g.x) fun w113 => StE w113 b3 4 (int .i64 x3.g.y) fun w114 => ∃ (c4 : RtX), pointer (some ⟨b2, 0, none⟩) = pointer (some ⟨c4.b7, 0, none⟩) ∧ pointer (some ⟨b3, 0, none⟩) = pointer (some ⟨c4.b8, 0, none⟩) ∧ RtF g w c4 w114 ∧ pointer (some ⟨b, 0, none⟩) = pointer (some ⟨c4.b3, 0, none⟩) ∧ pointer (some ⟨b1, 0, none⟩) = pointer (some ⟨c4.b4, 0, none⟩)) ∧ ∀ b3 w14, New w13 (Obj.cells #[int .i64 0, int .i64 0, slice none 0 0, int .i64 0, int .i64 0] 24) b3 w14 → Below w13.heap.size w13 w14 ∧ ∃ (g4 : GTw), #[agg #[int .i64 n7, int .i64 n8, slice a9 n9 c3, int .i64 n10, int .i64 n11]] = #[grA g4.ad g4.c g4.g] ∧ grIn w14 g4.ad g4.g.cs ∧ ∀ (x3 : GTw) w'3, x3.g = g4.g ∧ Made w14 w'3 (52 : TypeId) 6 x3.ad (g4.g.cs.length + 1) (flat (g4.g.cs ++ [markC])) x3.c → Below w14.heap.size w14 w'3 ∧ StE w'3 b2 0 (int .i64 x2.g.w) fun w15 => StE w15 b2 1 (int .i64 x2.g.h) fun w16 => StE w16 b2 2 (slice x2.ad x2.g.cs.length x2.c) fun w17 => StE w17 b2 3 (int .i64 x2.g.x) fun w18 => StE w18 b2 4 (int .i64 x2.g.y) fun w19 => StE w19 b3 0 (int .i64 x3.g.w) fun w110 => StE w110 b3 1 (int .i64 x3.g.h) fun w111 => StE w111 b3 2 (slice x3.ad x3.g.cs.length x3.c) fun w112 => StE w112 b3 3 (int .i64 x3.g.x) fun w113 => StE w113 b3 4 (int .i64 x3.g.y) fun w114 => ∃ (c4 : RtX), pointer (some ⟨b2, 0, none⟩) = pointer (some ⟨c4.b7, 0, none⟩) ∧ pointer (some ⟨b3, 0, none⟩) = pointer (some ⟨c4.b8, 0, none⟩) ∧ RtF g w c4 w114 ∧
 pointer (some ⟨b, 0, none⟩) = pointer (some ⟨c4.b3, 0, none⟩) ∧ pointer (some ⟨b1, 0, none⟩) = pointer (some ⟨c4.b4, 0, none⟩)) ∧ ∀ b2 w13, New w'2 (Obj.cells #[int .i64 0, int .i64 0, slice none 0 0, int .i64 0, int .i64 0] 24) b2 w13 → Below w'2.heap.size w'2 w13 ∧ (∃ (g4 : GTw), #[agg #[int .i64 n7, int .i64 n8, slice a9 n9 c3, int .i64 n10, int .i64 n11]] = #[grA g4.ad g4.c g4.g] ∧ grIn w13 g4.ad g4.g.cs ∧ ∀ (x3 : GTw) w'3, x3.g = g4.g ∧ Made w13 w'3 (52 : TypeId) 6 x3.ad (g4.g.cs.length + 1) (flat (g4.g.cs ++ [markC])) x3.c → Below w13.heap.size w13 w'3 ∧ ∀ b3 w14, New w'3 (Obj.cells #[int .i64 0, int .i64 0, slice none 0 0, int .i64 0, int .i64 0] 24) b3 w14 → Below w'3.heap.size w'3 w14 ∧ StE w14 b3 0 (int .i64 x2.g.w) fun w15 => StE w15 b3 1 (int .i64 x2.g.h) fun w16 => StE w16 b3 2 (slice x2.ad x2.g.cs.length x2.c) fun w17 => StE w17 b3 3 (int .i64 x2.g.x) fun w18 => StE w18 b3 4 (int .i64 x2.g.y) fun w19 => StE w19 b2 0 (int .i64 x3.g.w) fun w110 => StE w110 b2 1 (int .i64 x3.g.h) fun w111 => StE w111 b2 2 (slice x3.ad x3.g.cs.length x3.c) fun w112 => StE w112 b2 3 (int .i64 x3.g.x) fun w113 => StE w113 b2 4 (int .i64 x3.g.y) fun w114 => ∃ (c4 : RtX), pointer (some ⟨b3, 0, none⟩) = pointer (some ⟨c4.b7, 0, none⟩) ∧ pointer (some ⟨b2, 0, none⟩) = pointer (some ⟨c4.b8, 0, none⟩) ∧ RtF g w c4 w114 ∧ pointer (some ⟨b, 0, none⟩) = pointer (some ⟨c4.b3, 0, none⟩) ∧ pointer (some ⟨b1, 0, none⟩) = pointer (some ⟨c4.b4, 0, none⟩)) ∧ ∀ b3 w14, New w13 (Obj.cells #[int .i64 0, int .i64 0, slice none 0 0, int .i64 0, int .i64 0] 24) b3 w14 → Below w13.heap.size w13 w14 ∧ ∃ (g4 : GTw), #[agg #[int .i64 n7, int .i64 n8, slice a9 n9 c3, int .i64 n10, int .i64 n11]] = #[grA g4.ad g4.c g4.g] ∧ grIn w14 g4.ad g4.g.cs ∧ ∀ (x3 : GTw) w'3, x3.g = g4.g ∧ Made w14 w'3 (52 : TypeId) 6 x3.ad (g4.g.cs.length + 1) (flat (g4.g.cs ++ [markC])) x3.c → Below w14.heap.size w14 w'3 ∧ StE w'3 b3 0 (int .i64 x2.g.w) fun w15 => StE w15 b3 1 (int .i64 x2.g.h) fun w16 => StE w16 b3 2 (slice x2.ad x2.g.cs.length x2.c) fun w17 => StE w17 b3 3 (int .i64 x2.g.x) fun w18 => StE w18 b3 4 (int .i64 x2.g.y) fun w19 => StE w19 b2 0 (int .i64 x3.g.w) fun w110 => StE w110 b2 1 (int .i64 x3.g.h) fun w111 => StE w111 b2 2 (slice x3.ad x3.g.cs.length x3.c) fun w112 => StE w112 b2 3 (int .i64 x3.g.x) fun w113 => StE w113 b2 4 (int .i64 x3.g.y) fun w114 => ∃ (c4 : RtX), pointer (some ⟨b3, 0, none⟩) = pointer (some ⟨c4.b7, 0, none⟩) ∧ pointer (some ⟨b2, 0, none⟩) = pointer (some ⟨c4.b8, 0, none⟩) ∧ RtF g w c4 w114 ∧ pointer (some ⟨b, 0, none⟩) = pointer (some ⟨c4.b3, 0, none⟩) ∧ pointer (some ⟨b1, 0, none⟩) = pointer (some ⟨c4.b4, 0, none⟩)) ∧ (∀ b2 w13, New w12 (Obj.cells #[int .i64 0, int .i64 0, slice none 0 0, int .i64 0, int .i64 0] 24) b2 w13 → Below w12.heap.size w12 w13 ∧ (∃ (g3 : GTw), #[agg #[int .i64 n2, int .i64 n3, slice a8 n4 c2, int .i64 n5, int .i64 n6]] = #[grA g3.ad g3.c g3.g] ∧ grIn w13 g3.ad g3.g.cs ∧ ∀ (x2 : GTw) w'2,
 x2.g = g3.g ∧ Made w13 w'2 (52 : TypeId) 6 x2.ad (g3.g.cs.length + 1) (flat (g3.g.cs ++ [markC])) x2.c → Below w13.heap.size w13 w'2 ∧ (∃ (g4 : GTw), #[agg #[int .i64 n7, int .i64 n8, slice a9 n9 c3, int .i64 n10, int .i64 n11]] = #[grA g4.ad g4.c g4.g] ∧ grIn w'2 g4.ad g4.g.cs ∧ ∀ (x3 : GTw) w'3, x3.g = g4.g ∧ Made w'2 w'3 (52 : TypeId) 6 x3.ad (g4.g.cs.length + 1) (flat (g4.g.cs ++ [markC])) x3.c → Below w'2.heap.size w'2 w'3 ∧ ∀ b3 w14, New w'3 (Obj.cells #[int .i64 0, int .i64 0, slice none 0 0, int .i64 0, int .i64 0] 24) b3 w14 → Below w'3.heap.size w'3 w14 ∧ StE w14 b2 0 (int .i64 x2.g.w) fun w15 => StE w15 b2 1 (int .i64 x2.g.h) fun w16 => StE w16 b2 2 (slice x2.ad x2.g.cs.length x2.c) fun w17 => StE w17 b2 3 (int .i64 x2.g.x) fun w18 => StE w18 b2 4 (int .i64 x2.g.y) fun w19 => StE w19 b3 0 (int .i64 x3.g.w) fun w110 => StE w110 b3 1 (int .i64 x3.g.h) fun w111 => StE w111 b3 2 (slice x3.ad x3.g.cs.length x3.c) fun w112 => StE w112 b3 3 (int .i64 x3.g.x) fun w113 => StE w113 b3 4 (int .i64 x3.g.y) fun w114 => ∃ (c4 : RtX), pointer (some ⟨b2, 0, none⟩) = pointer (some ⟨c4.b7, 0, none⟩) ∧ pointer (some ⟨b3, 0, none⟩) = pointer (some ⟨c4.b8, 0, none⟩) ∧ RtF g w c4 w114 ∧ pointer (some ⟨b, 0, none⟩) = pointer (some ⟨c4.b3, 0, none⟩) ∧ pointer (some ⟨b1, 0, none⟩) = pointer (some ⟨c4.b4, 0, none⟩)) ∧ ∀ b3 w14, New w'2 (Obj.cells #[int .i64 0, int .i64 0, slice none 0 0, int .i64 0, int .i64 0] 24) b3 w14 → Below w'2.heap.size w'2 w14 ∧ ∃ (g4 : GTw), #[agg #[int .i64 n7, int .i64 n8, slice a9 n9 c3, int .i64 n10, int .i64 n11]] = #[grA g4.ad g4.c g4.g] ∧ grIn w14 g4.ad g4.g.cs ∧ ∀ (x3 : GTw) w'3, x3.g = g4.g ∧ Made w14 w'3 (52 : TypeId) 6 x3.ad (g4.g.cs.length + 1) (flat (g4.g.cs ++ [markC])) x3.c → Below w14.heap.size w14 w'3 ∧ StE w'3 b2 0 (int .i64 x2.g.w) fun w15 => StE w15 b2 1 (int .i64 x2.g.h) fun w16 => StE w16 b2 2 (slice x2.ad x2.g.cs.length x2.c) fun w17 => StE w17 b2 3 (int .i64 x2.g.x) fun w18 => StE w18 b2 4 (int .i64 x2.g.y) fun w19 => StE w19 b3 0 (int .i64 x3.g.w) fun w110 => StE w110 b3 1 (int .i64 x3.g.h) fun w111 => StE w111 b3 2 (slice x3.ad x3.g.cs.length x3.c) fun w112 => StE w112 b3 3 (int .i64 x3.g.x) fun w113 => StE w113 b3 4 (int .i64 x3.g.y) fun w114 => ∃ (c4 : RtX), pointer (some ⟨b2, 0, none⟩) = pointer (some ⟨c4.b7, 0, none⟩) ∧ pointer (some ⟨b3, 0, none⟩) = pointer (some ⟨c4.b8, 0, none⟩) ∧ RtF g w c4 w114 ∧ pointer (some ⟨b, 0, none⟩) = pointer (some ⟨c4.b3, 0, none⟩) ∧ pointer (some ⟨b1, 0, none⟩) = pointer (some ⟨c4.b4, 0, none⟩)) ∧ ∀ b3 w14, New w13 (Obj.cells #[int .i64 0, int .i64 0, slice none 0 0, int .i64 0, int .i64 0] 24) b3 w14 → Below w13.heap.size w13 w14 ∧ ∃ (g3 : GTw), #[agg #[int .i64 n2, int .i64 n3, slice a8 n4 c2, int .i64 n5, int .i64 n6]] = #[grA g3.ad g3.c g3.g] ∧ grIn w14 g3.ad g3.g.cs ∧ ∀ (x2 : GTw) w'2, x2.g = g3.g ∧ Made w14 w'2 (52 : TypeId) 6 x2.ad (g3.g.cs.length + 1) (flat (g3.g.cs ++ [markC])) x2.c → Below w14.heap.size w14 w'2 ∧ ∃ (g4 : GTw), #[agg
 #[int .i64 n7, int .i64 n8, slice a9 n9 c3, int .i64 n10, int .i64 n11]] = #[grA g4.ad g4.c g4.g] ∧ grIn w'2 g4.ad g4.g.cs ∧ ∀ (x3 : GTw) w'3, x3.g = g4.g ∧ Made w'2 w'3 (52 : TypeId) 6 x3.ad (g4.g.cs.length + 1) (flat (g4.g.cs ++ [markC])) x3.c → Below w'2.heap.size w'2 w'3 ∧ StE w'3 b2 0 (int .i64 x2.g.w) fun w15 => StE w15 b2 1 (int .i64 x2.g.h) fun w16 => StE w16 b2 2 (slice x2.ad x2.g.cs.length x2.c) fun w17 => StE w17 b2 3 (int .i64 x2.g.x) fun w18 => StE w18 b2 4 (int .i64 x2.g.y) fun w19 => StE w19 b3 0 (int .i64 x3.g.w) fun w110 => StE w110 b3 1 (int .i64 x3.g.h) fun w111 => StE w111 b3 2 (slice x3.ad x3.g.cs.length x3.c) fun w112 => StE w112 b3 3 (int .i64 x3.g.x) fun w113 => StE w113 b3 4 (int .i64 x3.g.y) fun w114 => ∃ (c4 : RtX), pointer (some ⟨b2, 0, none⟩) = pointer (some ⟨c4.b7, 0, none⟩) ∧ pointer (some ⟨b3, 0, none⟩) = pointer (some ⟨c4.b8, 0, none⟩) ∧ RtF g w c4 w114 ∧ pointer (some ⟨b, 0, none⟩) = pointer (some ⟨c4.b3, 0, none⟩) ∧ pointer (some ⟨b1, 0, none⟩) = pointer (some ⟨c4.b4, 0, none⟩)) ∧ ∀ b2 w13, New w12 (Obj.cells #[int .i64 0, int .i64 0, slice none 0 0, int .i64 0, int .i64 0] 24) b2 w13 → Below w12.heap.size w12 w13 ∧ (∃ (g3 : GTw), #[agg #[int .i64 n2, int .i64 n3, slice a8 n4 c2, int .i64 n5, int .i64 n6]] = #[grA g3.ad g3.c g3.g] ∧ grIn w13 g3.ad g3.g.cs ∧ ∀ (x2 : GTw) w'2, x2.g = g3.g ∧ Made w13 w'2 (52 : TypeId) 6 x2.ad (g3.g.cs.length + 1) (flat (g3.g.cs ++ [markC])) x2.c → Below w13.heap.size w13 w'2 ∧ (∃ (g4 : GTw), #[agg #[int .i64 n7, int .i64 n8, slice a9 n9 c3, int .i64 n10, int .i64 n11]] = #[grA g4.ad g4.c g4.g] ∧ grIn w'2 g4.ad g4.g.cs ∧ ∀ (x3 : GTw) w'3, x3.g = g4.g ∧ Made w'2 w'3 (52 : TypeId) 6 x3.ad (g4.g.cs.length + 1) (flat (g4.g.cs ++ [markC])) x3.c → Below w'2.heap.size w'2 w'3 ∧ ∀ b3 w14, New w'3 (Obj.cells #[int .i64 0, int .i64 0, slice none 0 0, int .i64 0, int .i64 0] 24) b3 w14 → Below w'3.heap.size w'3 w14 ∧ StE w14 b3 0 (int .i64 x2.g.w) fun w15 => StE w15 b3 1 (int .i64 x2.g.h) fun w16 => StE w16 b3 2 (slice x2.ad x2.g.cs.length x2.c) fun w17 => StE w17 b3 3 (int .i64 x2.g.x) fun w18 => StE w18 b3 4 (int .i64 x2.g.y) fun w19 => StE w19 b2 0 (int .i64 x3.g.w) fun w110 => StE w110 b2 1 (int .i64 x3.g.h) fun w111 => StE w111 b2 2 (slice x3.ad x3.g.cs.length x3.c) fun w112 => StE w112 b2 3 (int .i64 x3.g.x) fun w113 => StE w113 b2 4 (int .i64 x3.g.y) fun w114 => ∃ (c4 : RtX), pointer (some ⟨b3, 0, none⟩) = pointer (some ⟨c4.b7, 0, none⟩) ∧ pointer (some ⟨b2, 0, none⟩) = pointer (some ⟨c4.b8, 0, none⟩) ∧ RtF g w c4 w114 ∧ pointer (some ⟨b, 0, none⟩) = pointer (some ⟨c4.b3, 0, none⟩) ∧ pointer (some ⟨b1, 0, none⟩) = pointer (some ⟨c4.b4, 0, none⟩)) ∧ ∀ b3 w14, New w'2 (Obj.cells #[int .i64 0, int .i64 0, slice none 0 0, int .i64 0, int .i64 0] 24) b3 w14 → Below w'2.heap.size w'2 w14 ∧ ∃ (g4 : GTw), #[agg #[int .i64 n7, int .i64 n8, slice a9 n9 c3, int .i64 n10, int .i64 n11]] = #[grA g4.ad g4.c g4.g] ∧ grIn w14 g4.ad g4.g.cs ∧ ∀ (x3 : GTw) w'3,
 x3.g = g4.g ∧ Made w14 w'3 (52 : TypeId) 6 x3.ad (g4.g.cs.length + 1) (flat (g4.g.cs ++ [markC])) x3.c → Below w14.heap.size w14 w'3 ∧ StE w'3 b3 0 (int .i64 x2.g.w) fun w15 => StE w15 b3 1 (int .i64 x2.g.h) fun w16 => StE w16 b3 2 (slice x2.ad x2.g.cs.length x2.c) fun w17 => StE w17 b3 3 (int .i64 x2.g.x) fun w18 => StE w18 b3 4 (int .i64 x2.g.y) fun w19 => StE w19 b2 0 (int .i64 x3.g.w) fun w110 => StE w110 b2 1 (int .i64 x3.g.h) fun w111 => StE w111 b2 2 (slice x3.ad x3.g.cs.length x3.c) fun w112 => StE w112 b2 3 (int .i64 x3.g.x) fun w113 => StE w113 b2 4 (int .i64 x3.g.y) fun w114 => ∃ (c4 : RtX), pointer (some ⟨b3, 0, none⟩) = pointer (some ⟨c4.b7, 0, none⟩) ∧ pointer (some ⟨b2, 0, none⟩) = pointer (some ⟨c4.b8, 0, none⟩) ∧ RtF g w c4 w114 ∧ pointer (some ⟨b, 0, none⟩) = pointer (some ⟨c4.b3, 0, none⟩) ∧ pointer (some ⟨b1, 0, none⟩) = pointer (some ⟨c4.b4, 0, none⟩)) ∧ ∀ b3 w14, New w13 (Obj.cells #[int .i64 0, int .i64 0, slice none 0 0, int .i64 0, int .i64 0] 24) b3 w14 → Below w13.heap.size w13 w14 ∧ ∃ (g3 : GTw), #[agg #[int .i64 n2, int .i64 n3, slice a8 n4 c2, int .i64 n5, int .i64 n6]] = #[grA g3.ad g3.c g3.g] ∧ grIn w14 g3.ad g3.g.cs ∧ ∀ (x2 : GTw) w'2, x2.g = g3.g ∧ Made w14 w'2 (52 : TypeId) 6 x2.ad (g3.g.cs.length + 1) (flat (g3.g.cs ++ [markC])) x2.c → Below w14.heap.size w14 w'2 ∧ ∃ (g4 : GTw), #[agg #[int .i64 n7, int .i64 n8, slice a9 n9 c3, int .i64 n10, int .i64 n11]] = #[grA g4.ad g4.c g4.g] ∧ grIn w'2 g4.ad g4.g.cs ∧ ∀ (x3 : GTw) w'3, x3.g = g4.g ∧ Made w'2 w'3 (52 : TypeId) 6 x3.ad (g4.g.cs.length + 1) (flat (g4.g.cs ++ [markC])) x3.c → Below w'2.heap.size w'2 w'3 ∧ StE w'3 b3 0 (int .i64 x2.g.w) fun w15 => StE w15 b3 1 (int .i64 x2.g.h) fun w16 => StE w16 b3 2 (slice x2.ad x2.g.cs.length x2.c) fun w17 => StE w17 b3 3 (int .i64 x2.g.x) fun w18 => StE w18 b3 4 (int .i64 x2.g.y) fun w19 => StE w19 b2 0 (int .i64 x3.g.w) fun w110 => StE w110 b2 1 (int .i64 x3.g.h) fun w111 => StE w111 b2 2 (slice x3.ad x3.g.cs.length x3.c) fun w112 => StE w112 b2 3 (int .i64 x3.g.x) fun w113 => StE w113 b2 4 (int .i64 x3.g.y) fun w114 => ∃ (c4 : RtX), pointer (some ⟨b3, 0, none⟩) = pointer (some ⟨c4.b7, 0, none⟩) ∧ pointer (some ⟨b2, 0, none⟩) = pointer (some ⟨c4.b8, 0, none⟩) ∧ RtF g w c4 w114 ∧ pointer (some ⟨b, 0, none⟩) = pointer (some ⟨c4.b3, 0, none⟩) ∧ pointer (some ⟨b1, 0, none⟩) = pointer (some ⟨c4.b4, 0, none⟩)) ∧ ∀ (u : Nat → Value) (c2 : RtX) w'2, RtF g w c2 w'2 ∧ pointer (some ⟨b, 0, none⟩) = pointer (some ⟨c2.b3, 0, none⟩) ∧ pointer (some ⟨b1, 0, none⟩) = pointer (some ⟨c2.b4, 0, none⟩) → ∀ w12, Drew w'2 w12 → LdG w'2 c2.b7 fun n2 n3 a9 n4 c3 n5 n6 => LdG w'2 b fun n7 n8 a10 n9 c4 n10 n11 => ∃ (g3 : GGr), #[agg #[int .i64 n2, int .i64 n3, slice a9 n4 c3, int .i64 n5, int .i64 n6], bool g.wd] = #[grA g3.ad g3.c g3.g, bool g3.wd] ∧ (UD w12 ∧ grIn w12 g3.ad g3.g.cs) ∧ ∀ (x2 : Bool) w'3, x2 = rightB g3.g g3.wd ∧ Ext w12 w'3 → Below w12.heap.size w12 w'3 ∧ ∃ (g4 : GGr), #[agg
 #[int .i64 n7, int .i64 n8, slice a10 n9 c4, int .i64 n10, int .i64 n11], bool g.wd] = #[grA g4.ad g4.c g4.g, bool g4.wd] ∧ (UD w'3 ∧ grIn w'3 g4.ad g4.g.cs) ∧ ∀ (x3 : Bool) w'4, x3 = rightB g4.g g4.wd ∧ Ext w'3 w'4 → bcase (x2 == x3) (LdG w'4 c2.b7 fun n12 n13 a13 n14 c5 n15 n16 => LdG w'4 c2.b8 fun n17 n18 a14 n19 c6 n20 n21 => LdG w'4 b fun n22 n23 a15 n24 c7 n25 n26 => LdG w'4 b1 fun n27 n28 a16 n29 c8 n30 n31 => ∃ (g5 : GGg), #[agg #[int .i64 n12, int .i64 n13, slice a13 n14 c5, int .i64 n15, int .i64 n16], agg #[int .i64 n17, int .i64 n18, slice a14 n19 c6, int .i64 n20, int .i64 n21]] = #[grA g5.a1 g5.c1 g5.g1, grA g5.a2 g5.c2 g5.g2] ∧ (grIn w'4 g5.a1 g5.g1.cs ∧ grIn w'4 g5.a2 g5.g2.cs) ∧ ∀ (x4 : Bool) w'5, x4 = sameB g5.g1 g5.g2 ∧ Ext w'4 w'5 → Below w'4.heap.size w'4 w'5 ∧ ∃ (g6 : GGg), #[agg #[int .i64 n22, int .i64 n23, slice a15 n24 c7, int .i64 n25, int .i64 n26], agg #[int .i64 n27, int .i64 n28, slice a16 n29 c8, int .i64 n30, int .i64 n31]] = #[grA g6.a1 g6.c1 g6.g1, grA g6.a2 g6.c2 g6.g2] ∧ (grIn w'5 g6.a1 g6.g1.cs ∧ grIn w'5 g6.a2 g6.g2.cs) ∧ ∀ (x5 : Bool) w'6, x5 = sameB g6.g1 g6.g2 ∧ Ext w'5 w'6 → bcase (x4 == x5) (LdG w'6 c2.b8 fun n32 n33 a19 n34 c9 n35 n36 => LdG w'6 c2.b7 fun n37 n38 a20 n39 c10 n40 n41 => LdG w'6 b1 fun n42 n43 a21 n44 c11 n45 n46 => LdG w'6 b fun n47 n48 a22 n49 c12 n50 n51 => ∃ (g7 : GGg), #[agg #[int .i64 n32, int .i64 n33, slice a19 n34 c9, int .i64 n35, int .i64 n36], agg #[int .i64 n37, int .i64 n38, slice a20 n39 c10, int .i64 n40, int .i64 n41]] = #[grA g7.a1 g7.c1 g7.g1, grA g7.a2 g7.c2 g7.g2] ∧ (grIn w'6 g7.a1 g7.g1.cs ∧ grIn w'6 g7.a2 g7.g2.cs) ∧ ∀ (x6 : Bool) w'7, x6 = sameB g7.g1 g7.g2 ∧ Ext w'6 w'7 → Below w'6.heap.size w'6 w'7 ∧ ∃ (g8 : GGg), #[agg #[int .i64 n42, int .i64 n43, slice a21 n44 c11, int .i64 n45, int .i64 n46], agg #[int .i64 n47, int .i64 n48, slice a22 n49 c12, int .i64 n50, int .i64 n51]] = #[grA g8.a1 g8.c1 g8.g1, grA g8.a2 g8.c2 g8.g2] ∧ (grIn w'7 g8.a1 g8.g1.cs ∧ grIn w'7 g8.a2 g8.g2.cs) ∧ ∀ (x7 : Bool) w'8, x7 = sameB g8.g1 g8.g2 ∧ Ext w'7 w'8 → bcase (x6 == x7) (LdG w'8 c2.b7 fun n52 n53 a25 n54 c13 n55 n56 => LdG w'8 b fun n57 n58 a26 n59 c14 n60 n61 => ∃ (g9 : GKp), #[agg #[int .i64 n52, int .i64 n53, slice a25 n54 c13, int .i64 n55, int .i64 n56], agg #[int .i64 n57, int .i64 n58, slice a26 n59 c14, int .i64 n60, int .i64 n61]] = #[grA g9.a1 g9.c1 g9.g, grA g9.a2 g9.c2 g9.g] ∧ (CellsAt w'8 g9.a1 (flat (g9.g.cs ++ [markC])) ∧ g9.g.cs.length + 1 ≤ g9.c1 ∧ grIn w'8 g9.a2 g9.g.cs) ∧ ∀ (x8 : Unit) w'9, Ext w'8 w'9 → LdG w'9 c2.b8 fun n62 n63 a28 n64 c15 n65 n66 => LdG w'9 b1 fun n67 n68 a29 n69 c16 n70 n71 => ∃ (g10 : GKp), #[agg #[int .i64 n62, int .i64 n63, slice a28 n64 c15, int .i64 n65, int .i64 n66], agg #[int .i64 n67, int .i64 n68, slice a29 n69 c16, int .i64 n70, int .i64 n71]] = #[grA g10.a1 g10.c1 g10.g, grA g10.a2 g10.c2 g10.g] ∧ (CellsAt w'9 g10.a1 (flat (g10.g.cs ++ [markC])) ∧ g10.g.cs.length + 1 ≤ g10.c1 ∧ grIn w'9 g10.a2 g10.g.cs) ∧ ∀ (x9 : Unit) w'10,
 Ext w'9 w'10 → ∃ (g11 : Unit), (#[] : Array Value) = #[] ∧ UP w'10 ∧ ∀ (x10 : Unit) w'11, Ext w'10 w'11 → ∃ (x11 : Unit), bool true = bool true ∧ Ext w w'11) (∃ (x8 : Unit), bool false = bool true ∧ Ext w w'8)) (∃ (x6 : Unit), bool false = bool true ∧ Ext w w'6)) (∃ (x4 : Unit), bool false = bool true ∧ Ext w w'4)) : sLawRt.Ok Tryz.prog 3 := ok_of_vc sLawRt annLawRt spLawRt (fun _ _ => rfl) (fun _ _ => rfl) hsp Tryz.func3 rfl (n := 3) (fun _ => rfl) (by kernel_rfl) (vcast (by kernel_rfl) h)
end

section
open Go Go.RowKit Vc Ut Tb Cl Orb
structure S3 (g : GRt3) (w00 : World) (b b1 : Nat) (zs : List Nat) (tx ty : Option (Option Addr × Nat)) (w : World) : Prop where
  ext : Ext w00 w
  b3 : boxE w b ⟨g.a1, g.c1, g.g1⟩
  b4 : boxE w b1 ⟨g.a2, g.c2, g.g2⟩
  in1 : CellsAt w g.a1 (flat g.g1.cs) ∧ bulkC g.g1.cs ≤ 1048576
  in2 : CellsAt w g.a2 (flat g.g2.cs) ∧ bulkC g.g2.cs ≤ 1048576
  z0 : ∀ z ∈ zs, w.heap[z]? = some (.cells #[.int .i64 0, .int .i64 0, .slice none 0 0, .int .i64 0, .int .i64 0] 24) ∧ w00.heap.size ≤ z ∧ z ≠ b ∧ z ≠ b1
  nd : zs.Nodup
  t7 : ∀ t, tx = some t → CellsAt w t.1 (flat (g.g1.cs ++ [markC])) ∧ g.g1.cs.length + 1 ≤ t.2 ∧ ∀ q, blk t.1 = some q → q ∉ zs
  t8 : ∀ t, ty = some t → CellsAt w t.1 (flat (g.g2.cs ++ [markC])) ∧ g.g2.cs.length + 1 ≤ t.2 ∧ ∀ q, blk t.1 = some q → q ∉ zs
section
variable {g : GRt3} {w00 w w' : World} {b b1 : Nat} {zs : List Nat} {tx ty : Option (Option Addr × Nat)}
theorem S3.next (S : S3 g w00 b b1 zs tx ty w) (hx : Ext w w') : S3 g w00 b b1 zs tx ty w' :=
  ⟨Ext.trans S.ext hx, Ext.heap hx S.b3, Ext.heap hx S.b4, ⟨S.in1.1.ext hx, S.in1.2⟩, ⟨S.in2.1.ext hx, S.in2.2⟩, fun z hz => ⟨Ext.heap hx (S.z0 z hz).1, (S.z0 z hz).2⟩, S.nd, fun t ht => ⟨(S.t7 t ht).1.ext hx, (S.t7 t ht).2⟩, fun t ht => ⟨(S.t8 t ht).1.ext hx, (S.t8 t ht).2⟩⟩
theorem S3.drew {K : World → Prop} (S : S3 g w00 b b1 zs tx ty w) (hk : ∀ w', S3 g w00 b b1 zs tx ty w' → K w') : ∀ w', Drew w w' → K w' := fun w' hd => hk w' (S.next hd.ext)
theorem cells_lt {ad : Option Addr} {vs : List Value} {q : Nat} (h : CellsAt w ad vs) (hne : vs ≠ []) (hq : blk ad = some q) : q < w.heap.size := by
  rcases h with h | ⟨o, k, rfl, hh⟩
  · exact absurd h hne
  · cases hq
    match vs, hne with
    | v :: _, _ =>
      have h0 := hh 0 v rfl
      by_cases hlt : o < w.heap.size
      · exact hlt
      · have hn : w.heap[o]? = none := Array.getElem?_eq_none (by omega)
        unfold World.cell? at h0
        simp [hn] at h0
theorem flat_ne (l : List Ce) : flat (l ++ [markC]) ≠ [] := by
  intro h
  have := flc_len (l ++ [markC])
  rw [h] at this
  simp at this
theorem S3.new {K : Nat → World → Prop} (S : S3 g w00 b b1 zs tx ty w) (hk : ∀ z w', S3 g w00 b b1 (z :: zs) tx ty w' → K z w') :
    ∀ z w', New w (.cells #[.int .i64 0, .int .i64 0, .slice none 0 0, .int .i64 0, .int .i64 0] 24) z w' → Below w.heap.size w w' ∧ K z w' := fun z w' hn => by
  have hz := hn.size
  have S' := S.next hn.ext
  have h0 := S.ext.size
  have l3 := heap_lt S.b3
  have l4 := heap_lt S.b4
  refine ⟨hn.ext, hk z w' ⟨S'.ext, S'.b3, S'.b4, S'.in1, S'.in2, fun y hy => ?_, List.nodup_cons.2 ⟨fun h => by have := heap_lt (S.z0 z h).1; omega, S.nd⟩, fun t ht => ⟨(S'.t7 t ht).1, (S'.t7 t ht).2.1, fun q hq hm => ?_⟩, fun t ht => ⟨(S'.t8 t ht).1, (S'.t8 t ht).2.1, fun q hq hm => ?_⟩⟩⟩
  · rcases List.mem_cons.1 hy with rfl | hy
    · exact ⟨hn.heap, by omega, by omega, by omega⟩
    · exact S'.z0 y hy
  · rcases List.mem_cons.1 hm with rfl | hm
    · have := cells_lt (S.t7 t ht).1 (flat_ne _) hq; omega
    · exact (S.t7 t ht).2.2 q hq hm
  · rcases List.mem_cons.1 hm with rfl | hm
    · have := cells_lt (S.t8 t ht).1 (flat_ne _) hq; omega
    · exact (S.t8 t ht).2.2 q hq hm
theorem S3.tw7 {K : GTw → World → Prop} (S : S3 g w00 b b1 zs none ty w) (hk : ∀ a c w', S3 g w00 b b1 zs (some (a, c)) ty w' → Below w.heap.size w w' → K ⟨a, c, g.g1⟩ w') :
    ∃ g3 : GTw, #[grA g.a1 g.c1 g.g1] = #[grA g3.ad g3.c g3.g] ∧ grIn w g3.ad g3.g.cs ∧ ∀ (x2 : GTw) w', x2.g = g3.g ∧ Made w w' 52 6 x2.ad (g3.g.cs.length + 1) (flat (g3.g.cs ++ [markC])) x2.c → K x2 w' := by
  refine ⟨⟨g.a1, g.c1, g.g1⟩, rfl, ⟨S.in1.1, by have := S.in1.2; dsimp only; omega⟩, ?_⟩
  rintro ⟨a, c, _⟩ w' ⟨rfl, hm⟩
  dsimp only at hm ⊢
  have S' := S.next hm.ext
  refine hk a c w' ⟨S'.ext, S'.b3, S'.b4, S'.in1, S'.in2, S'.z0, S'.nd, fun t ht => ?_, S'.t8⟩ hm.ext
  obtain rfl := Option.some.inj ht
  exact ⟨hm.row.cells, (by rcases hm.row.2 with ⟨_, h, _⟩ | ⟨_, _, _, _, h, _⟩ <;> dsimp only <;> omega), fun q hq hz => by have := hm.new q hq; have := heap_lt (S.z0 q hz).1; omega⟩
theorem S3.tw8 {K : GTw → World → Prop} (S : S3 g w00 b b1 zs tx none w) (hk : ∀ a c w', S3 g w00 b b1 zs tx (some (a, c)) w' → Below w.heap.size w w' → K ⟨a, c, g.g2⟩ w') :
    ∃ g3 : GTw, #[grA g.a2 g.c2 g.g2] = #[grA g3.ad g3.c g3.g] ∧ grIn w g3.ad g3.g.cs ∧ ∀ (x2 : GTw) w', x2.g = g3.g ∧ Made w w' 52 6 x2.ad (g3.g.cs.length + 1) (flat (g3.g.cs ++ [markC])) x2.c → K x2 w' := by
  refine ⟨⟨g.a2, g.c2, g.g2⟩, rfl, ⟨S.in2.1, by have := S.in2.2; dsimp only; omega⟩, ?_⟩
  rintro ⟨a, c, _⟩ w' ⟨rfl, hm⟩
  dsimp only at hm ⊢
  have S' := S.next hm.ext
  refine hk a c w' ⟨S'.ext, S'.b3, S'.b4, S'.in1, S'.in2, S'.z0, S'.nd, S'.t7, fun t ht => ?_⟩ hm.ext
  obtain rfl := Option.some.inj ht
  exact ⟨hm.row.cells, (by rcases hm.row.2 with ⟨_, h, _⟩ | ⟨_, _, _, _, h, _⟩ <;> dsimp only <;> omega), fun q hq hz => by have := hm.new q hq; have := heap_lt (S.z0 q hz).1; omega⟩
theorem S3.fin {p q c7 c8 : Nat} {a7 a8 : Option Addr} {w1 w2 : World} (S : S3 g w00 b b1 zs (some (a7, c7)) (some (a8, c8)) w) (hz : zs = [p, q] ∨ zs = [q, p])
    (hb1 : boxE w1 p ⟨a7, c7, g.g1⟩) (hf1 : Fr (fun y => y = p) w w1) (hb2 : boxE w2 q ⟨a8, c8, g.g2⟩) (hf2 : Fr (fun y => y = q) w1 w2) :
    ∃ c4 : RtX, Value.pointer (some ⟨p, 0, none⟩) = .pointer (some ⟨c4.b7, 0, none⟩) ∧ Value.pointer (some ⟨q, 0, none⟩) = .pointer (some ⟨c4.b8, 0, none⟩) ∧ RtF g w00 c4 w2 ∧ Value.pointer (some ⟨b, 0, none⟩) = .pointer (some ⟨c4.b3, 0, none⟩) ∧ Value.pointer (some ⟨b1, 0, none⟩) = .pointer (some ⟨c4.b4, 0, none⟩) := by
  have hp : p ∈ zs := by rcases hz with h | h <;> rw [h] <;> simp
  have hq : q ∈ zs := by rcases hz with h | h <;> rw [h] <;> simp
  have hne : p ≠ q := by
    have := S.nd
    rcases hz with h | h
    · rw [h] at this; simp at this; exact this
    · rw [h] at this; simp at this; exact fun h => this h.symm
  obtain ⟨zp, sp, np, np1⟩ := S.z0 p hp
  obtain ⟨zq, sq, nq, nq1⟩ := S.z0 q hq
  have keep : ∀ {y : Nat} {o : Obj}, y ≠ p → y ≠ q → w.heap[y]? = some o → w2.heap[y]? = some o := fun {y o} h1 h2 h3 => by
    have k1 := (hf1.block y (heap_lt h3) h1).trans h3
    exact (hf2.block y (heap_lt k1) h2).trans k1
  have kc : ∀ {t : Option Addr} {l : List Value}, CellsAt w t l → (∀ y, blk t = some y → y ∉ zs) → CellsAt w2 t l := fun h hn => (h.fr hf1 (fun y hy hh => hn y hy (by rw [hh]; exact hp))).fr hf2 (fun y hy hh => hn y hy (by rw [hh]; exact hq))
  obtain ⟨t7, l7, n7⟩ := S.t7 _ rfl
  obtain ⟨t8, l8, n8⟩ := S.t8 _ rfl
  have hb1' : boxE w2 p ⟨a7, c7, g.g1⟩ := (hf2.block p (heap_lt hb1) hne).trans hb1
  refine ⟨⟨b, b1, p, q, a7, c7, a8, c8⟩, rfl, rfl, ⟨fr_ext hf2 (fr_ext hf1 S.ext (fun y hy => by omega)) (fun y hy => by omega), keep (Ne.symm np) (Ne.symm nq) S.b3, keep (Ne.symm np1) (Ne.symm nq1) S.b4, hb1', hb2, kc t7 n7, kc t8 n8, l7, l8⟩, rfl, rfl⟩
theorem S3.zero (S : S3 g w00 b b1 zs tx ty w) {p : Nat} (hp : p ∈ zs) : w.heap[p]? = some (.cells #[.int .i64 0, .int .i64 0, .slice none 0 0, .int .i64 0, .int .i64 0] 24) := (S.z0 p hp).1
theorem S3.zero2 {w1 : World} (S : S3 g w00 b b1 zs tx ty w) {p q : Nat} (hz : zs = [p, q] ∨ zs = [q, p]) (hf : Fr (fun y => y = p) w w1) : w1.heap[q]? = some (.cells #[.int .i64 0, .int .i64 0, .slice none 0 0, .int .i64 0, .int .i64 0] 24) := by
  have hq : q ∈ zs := by rcases hz with h | h <;> rw [h] <;> simp
  have hne : q ≠ p := by
    have := S.nd
    rcases hz with h | h
    · rw [h] at this; simp at this; exact fun h => this h.symm
    · rw [h] at this; simp at this; exact this
  exact (hf.block q (heap_lt (S.z0 q hq).1) hne).trans (S.z0 q hq).1
end
section
variable {g : GRt3} {w00 w : World} {x : RtX}
theorem RtF.next {w' : World} (R : RtF g w00 x w) (hx : Ext w w') : RtF g w00 x w' :=
  ⟨Ext.trans R.ext hx, Ext.heap hx R.b3, Ext.heap hx R.b4, Ext.heap hx R.b7, Ext.heap hx R.b8, R.t7.ext hx, R.t8.ext hx, R.l7, R.l8⟩
structure RtP (g : GRt3) (w00 : World) (x : RtX) (w : World) : Prop where
  r : RtF g w00 x w
  u : UP w00
  i1 : CellsAt w00 g.a1 (flat g.g1.cs) ∧ bulkC g.g1.cs ≤ 1048576
  i2 : CellsAt w00 g.a2 (flat g.g2.cs) ∧ bulkC g.g2.cs ≤ 1048576
theorem RtP.next {w' : World} (R : RtP g w00 x w) (hx : Ext w w') : RtP g w00 x w' := ⟨R.r.next hx, R.u, R.i1, R.i2⟩
theorem flat_app (l m : List Ce) : flat (l ++ m) = flat l ++ flat m := by unfold flat; rw [List.flatMap_append]
theorem half_in {ad : Option Addr} {l : List Ce} (h : CellsAt w ad (flat (l ++ [markC]))) : CellsAt w ad (flat l) := by
  have := h.take (flat l).length
  rwa [flat_app, List.take_left'] at this
  rfl
theorem RtP.n1 (R : RtP g w00 x w) : grIn w g.a1 g.g1.cs := ⟨R.i1.1.ext R.r.ext, by have := R.i1.2; omega⟩
theorem RtP.n2 (R : RtP g w00 x w) : grIn w g.a2 g.g2.cs := ⟨R.i2.1.ext R.r.ext, by have := R.i2.2; omega⟩
theorem RtP.n7 (R : RtP g w00 x w) : grIn w x.a7 g.g1.cs := ⟨half_in R.r.t7, by have := R.i1.2; omega⟩
theorem RtP.n8 (R : RtP g w00 x w) : grIn w x.a8 g.g2.cs := ⟨half_in R.r.t8, by have := R.i2.2; omega⟩
theorem RtP.drew {K : World → Prop} (R : RtP g w00 x w) (hk : ∀ w', RtP g w00 x w' → K w') : ∀ w', Drew w w' → K w' := fun w' hd => hk w' (R.next hd.ext)
theorem RtP.right {K : Bool → World → Prop} (R : RtP g w00 x w) {ad : Option Addr} {c : Nat} {h : Gr} {wd : Bool} (hi : grIn w ad h.cs) (hk : ∀ w', RtP g w00 x w' → Below w.heap.size w w' → K (rightB h wd) w') :
    ∃ g3 : GGr, #[grA ad c h, Value.bool wd] = #[grA g3.ad g3.c g3.g, .bool g3.wd] ∧ (UD w ∧ grIn w g3.ad g3.g.cs) ∧ ∀ x2 w', x2 = rightB g3.g g3.wd ∧ Ext w w' → K x2 w' :=
  ⟨⟨ad, c, h, wd⟩, rfl, ⟨(R.u.ext R.r.ext).ud, hi⟩, fun _ w' ⟨h1, h2⟩ => by subst h1; exact hk w' (R.next h2) h2⟩
theorem RtP.same {K : Bool → World → Prop} (R : RtP g w00 x w) {a a' : Option Addr} {c c' : Nat} {h h' : Gr} (hi : grIn w a h.cs) (hi' : grIn w a' h'.cs) (hk : ∀ w', RtP g w00 x w' → Below w.heap.size w w' → K (sameB h h') w') :
    ∃ g3 : GGg, #[grA a c h, grA a' c' h'] = #[grA g3.a1 g3.c1 g3.g1, grA g3.a2 g3.c2 g3.g2] ∧ (grIn w g3.a1 g3.g1.cs ∧ grIn w g3.a2 g3.g2.cs) ∧ ∀ x2 w', x2 = sameB g3.g1 g3.g2 ∧ Ext w w' → K x2 w' :=
  ⟨⟨a, c, h, a', c', h'⟩, rfl, ⟨hi, hi'⟩, fun _ w' ⟨h1, h2⟩ => by subst h1; exact hk w' (R.next h2) h2⟩
theorem RtP.kept {K : World → Prop} (R : RtP g w00 x w) {a a' : Option Addr} {c c' : Nat} {h : Gr} (ht : CellsAt w a (flat (h.cs ++ [markC]))) (hl : h.cs.length + 1 ≤ c) (hi : grIn w a' h.cs) (hk : ∀ w', RtP g w00 x w' → K w') :
    ∃ g3 : GKp, #[grA a c h, grA a' c' h] = #[grA g3.a1 g3.c1 g3.g, grA g3.a2 g3.c2 g3.g] ∧ (CellsAt w g3.a1 (flat (g3.g.cs ++ [markC])) ∧ g3.g.cs.length + 1 ≤ g3.c1 ∧ grIn w g3.a2 g3.g.cs) ∧ ∀ (_ : Unit) w', Ext w w' → K w' :=
  ⟨⟨a, c, a', c', h⟩, rfl, ⟨ht, hl, hi⟩, fun _ w' h2 => hk w' (R.next h2)⟩
end
set_option maxRecDepth 8000 in
theorem lawRt_ok : sLawRt.Ok Tryz.prog 3 := by
  refine lawRt_vc ⟨beyond_ok, worksX_ok, twin_ok, rightW_ok, rightX_ok, sameW_ok, sameX_ok, kept_ok, trivial⟩ ?_
  rintro g w ⟨hU, hi1, hi2⟩ b w1 hn1 b1 w2 hn2
  have z1 := hn1.size; have z2 := hn2.size
  have hx2 : Ext w w2 := Ext.trans hn1.ext hn2.ext
  have hb3 : boxE w2 b ⟨g.a1, g.c1, g.g1⟩ := Ext.heap hn2.ext hn1.heap
  have hb4 : boxE w2 b1 ⟨g.a2, g.c2, g.g2⟩ := hn2.heap
  refine ⟨_, _, _, (cell_of_heap hb3 2).trans rfl, ⟨g.a1, g.c1, g.g1.cs⟩, rfl, ⟨hi1.1.ext hx2, by have := hi1.2; dsimp only; omega⟩, ?_⟩
  intro _ w3 hx23
  have hx3 := Ext.trans hx2 hx23
  refine ⟨_, _, _, (cell_of_heap (Ext.heap hx23 hb4) 2).trans rfl, ⟨g.a2, g.c2, g.g2.cs⟩, rfl, ⟨hi2.1.ext hx3, by have := hi2.2; dsimp only; omega⟩, ?_⟩
  intro _ w4 hx34
  have hx24 := Ext.trans hx23 hx34
  have hx4 := Ext.trans hx2 hx24
  have S : S3 g w b b1 [] none none w4 := ⟨hx4, Ext.heap hx24 hb3, Ext.heap hx24 hb4, ⟨hi1.1.ext hx4, hi1.2⟩, ⟨hi2.1.ext hx4, hi2.2⟩, (fun _ h => by cases h), List.nodup_nil, (fun _ h => by cases h), (fun _ h => by cases h)⟩
  refine ⟨?_, ?_⟩
  · refine S.drew fun w5 S5 => ?_
    refine (box_gr S.b3).load ((box_gr S.b4).load ?_)
    clear S
    repeat' first
      | assumption
      | refine ⟨by assumption, ?_⟩
      | refine S3.new (by assumption) (fun z w' S' => ?_)
      | refine S3.tw7 (by assumption) (fun a c w' S' hB => ?_)
      | refine S3.tw8 (by assumption) (fun a c w' S' hB => ?_)
      | refine putR (S3.zero (by assumption) (by simp)) (fun w1 hb1 hf1 => putR (S3.zero2 (by assumption) (by first | exact .inl rfl | exact .inr rfl) hf1) (fun w2 hb2 hf2 => S3.fin (by assumption) (by first | exact .inl rfl | exact .inr rfl) hb1 hf1 hb2 hf2))
      | refine ⟨?_, ?_⟩
  clear S
  rintro - x w5 ⟨R, hp1, hp2⟩
  have e1 : b = x.b3 := by injection hp1 with h1; injection h1 with h2; injection h2
  have e2 : b1 = x.b4 := by injection hp2 with h1; injection h1 with h2; injection h2
  have R : RtP g w x w5 := ⟨R, hU, hi1, hi2⟩
  clear hp1 hp2 hb3 hb4 hn1 hn2 z1 z2
  subst e1 e2
  clear hx2 hx23 hx3 hx34 hx24 hx4
  repeat' first
    | exact ⟨(), rfl, hU.ext (RtF.ext (x := x) (RtP.r (by assumption))), fun _ w'' hx => ⟨(), rfl, Ext.trans (RtF.ext (x := x) (RtP.r (by assumption))) hx⟩⟩
    | exact ⟨(), rfl, RtF.ext (x := x) (RtP.r (by assumption))⟩
    | refine ⟨by assumption, ?_⟩
    | refine RtP.drew (by assumption) (fun w' R' => ?_)
    | refine (box_gr (RtF.b7 (x := x) (RtP.r (by assumption)))).load ?_
    | refine (box_gr (RtF.b8 (x := x) (RtP.r (by assumption)))).load ?_
    | refine (box_gr (RtF.b3 (x := x) (RtP.r (by assumption)))).load ?_
    | refine (box_gr (RtF.b4 (x := x) (RtP.r (by assumption)))).load ?_
    | refine RtP.right (x := x) (by assumption) (RtP.n7 (by assumption)) (fun w' R' hB => ?_)
    | refine RtP.right (x := x) (by assumption) (RtP.n1 (by assumption)) (fun w' R' hB => ?_)
    | refine RtP.same (x := x) (by assumption) (RtP.n7 (by assumption)) (RtP.n8 (by assumption)) (fun w' R' hB => ?_)
    | refine RtP.same (x := x) (by assumption) (RtP.n8 (by assumption)) (RtP.n7 (by assumption)) (fun w' R' hB => ?_)
    | refine RtP.same (x := x) (by assumption) (RtP.n1 (by assumption)) (RtP.n2 (by assumption)) (fun w' R' hB => ?_)
    | refine RtP.same (x := x) (by assumption) (RtP.n2 (by assumption)) (RtP.n1 (by assumption)) (fun w' R' hB => ?_)
    | refine RtP.kept (x := x) (by assumption) (RtF.t7 (RtP.r (by assumption))) (RtF.l7 (RtP.r R)) (RtP.n1 (by assumption)) (fun w' R' => ?_)
    | refine RtP.kept (x := x) (by assumption) (RtF.t8 (RtP.r (by assumption))) (RtF.l8 (RtP.r R)) (RtP.n2 (by assumption)) (fun w' R' => ?_)
    | refine bcase_mk (fun _ => ?_) (fun h => absurd h (by simp))
end

section
namespace Lw
open Go Go.RowKit Go.ChangeShapes Go.WideShapes Go.ChangeAt Vc
section
variable {H : Type} {enc : TypeId × Value → H} {P : Program}
theorem trodAll_stays (hl : laidOutB P = true) {W W' : World} (hx : Below W.heap.size W W') {sp : Nat → Bool} : ∀ {ts : List TypeId} {vs : List Value} {ds : List (DataW H)} {p : List MemPlace},
    ts.all (fun t => P.readableRec t && decide (t < P.types.size)) = true → DataW.TrodAll enc P W 0 (fun _ => true) true ts vs ds p → (∀ x ∈ p, x.block < W.heap.size) → (∀ x ∈ p, sp x.block = true) → DataW.TrodAll enc P W' 0 sp true ts vs ds p
  | [], vs, ds, p, _, h, _, _ => by
    obtain ⟨rfl, rfl, rfl⟩ := trodAll_nil h
    exact trodAll_mk0
  | t :: ts, vs, ds, p, hp, h, hlt, hs => by
    obtain ⟨v, vs', d, ds', a, b, rfl, rfl, rfl, h1, h2⟩ := trodAll_cons h
    simp only [List.all_cons, Bool.and_eq_true, decide_eq_true_eq] at hp
    have h3 := WideElems.Trod_stays (sp' := sp) hl hp.1.1 hp.1.2 h1 (fun x hx' => hx.same (hlt x (by simp [hx']))) (fun x hx' => hs x (by simp [hx']))
    exact ⟨a, b, h3, trodAll_stays hl hx (by simpa using hp.2) h2 (fun x hx' => hlt x (by simp [hx'])) (fun x hx' => hs x (by simp [hx'])), rfl⟩
theorem post_law {f : Func} {s : ChangeSpec} {apart fresh handsOn again : Bool} {W W' : World} {args : Array Value} {ds gs : List (DataW H)} {before : List MemPlace} {tb : TypeId} (hW : DataW.Whole enc P f.params.toList s.vars apart W args.toList ds gs before) (hvars : s.vars = [])
    (hfn : s.fn H ds = { results := [.lit (.bool true)], args := ds }) (hres : f.resultTypes = #[tb]) (htb : P.underlying tb = some .bool) (hl : laidOutB P = true) (hp : f.params.toList.all (fun t => P.readableRec t && decide (t < P.types.size)) = true) (hx : Below W.heap.size W W') :
    s.post enc P f apart fresh handsOn again W args (.bool true) W' := by
  have hW0 := hW
  obtain ⟨pa, pv, hA, hV, rfl, hz, hn⟩ := hW
  rw [hvars] at hV
  obtain ⟨rfl, rfl⟩ := trodVars_none hV
  simp only [List.append_nil] at hW0 hz hn
  have hlt : ∀ x ∈ pa, x.block < W.heap.size := fun x hx => by simpa using hW0.lt x hx
  have hr : ∀ (b : Nat) (sp : Nat → Bool) (hd : Bool), DataW.TrodAll enc P W' b sp hd f.resultTypes.toList ((Value.bool true).resultList f.resultTypes.size) (s.fn H (ds ++ [])).results [] := by
    intro b sp hd
    rw [List.append_nil, hfn, hres]
    exact trodAll_cons_mk (shut_bool htb _) trodAll_mk0
  have ha : ∀ sp : Nat → Bool, (∀ p ∈ pa, sp p.block = true) → DataW.TrodAll enc P W' 0 sp true f.params.toList args.toList (s.fn H (ds ++ [])).args pa := by
    intro sp hs
    rw [List.append_nil, hfn]
    exact trodAll_stays hl hx hp hA hlt hs
  have hv : ∀ sp : Nat → Bool, DataW.TrodVars enc P W' sp s.vars (s.fn H (ds ++ [])).vars [] := by
    intro sp
    rw [List.append_nil, hfn, hvars]
    rfl
  refine ⟨ds, [], pa, [], pa, [], hW0, hr _ _ _, ha _ (fun p hp => by simpa using hlt p hp), hv _, World.keptBut_mono (fun p hp => ⟨hp, .inr (.inl hp)⟩) (hx.frame _), fun _ => ?_⟩
  refine ⟨ok_one hres rfl (okWide_bool_mk htb _), _, _, ([] ++ pa) ++ [], ⟨[] ++ pa, [], trodAll_append (ha _ (fun _ _ => rfl)) (hr _ _ _), hv _, rfl, ?_, ?_⟩, ?_⟩
  · intro b off hp
    have hp' : MemPlace.cell b off ∈ pa := by simpa using hp
    rw [hx.frozen (hlt _ hp')]
    exact hz b off hp'
  · intro ha'
    have := hn ha'
    simpa using this
  · intro p hp _
    simpa using hp
theorem law_calls {f : FuncId} {fn : Func} {s : ChangeSpec} {apart fresh handsOn again : Bool} {W : World} {args : Array Value} {ds gs : List (DataW H)} {before : List MemPlace} {tb : TypeId} (hW : DataW.Whole enc P fn.params.toList s.vars apart W args.toList ds gs before) (hvars : s.vars = [])
    (hfn : s.fn H ds = { results := [.lit (.bool true)], args := ds }) (hres : fn.resultTypes = #[tb]) (htb : P.underlying tb = some .bool) (hl : laidOutB P = true) (hp : fn.params.toList.all (fun t => P.readableRec t && decide (t < P.types.size)) = true)
    (h : Calls P f args W fun e W' => e = .returned (.bool true) ∧ Below W.heap.size W W') :
    Calls P f args W fun e W' => ∃ v, e = .returned v ∧ s.post enc P fn apart fresh handsOn again W args v W' :=
  h.mono fun e W' ⟨he, hx⟩ => ⟨_, he, post_law hW hvars hfn hres htb hl hp hx⟩
end
end Lw
end

section
namespace Bulk
open Go
theorem one_le {H : Type} (d : DataW H) : 1 ≤ Rows.uptoBulk d := by
  cases d with
  | lit l => cases l <;> simp [Rows.uptoBulk]
  | _ => simp only [Rows.uptoBulk]; omega
theorem part_le {H : Type} {d : DataW H} {l : List (DataW H)} (h : d ∈ l) : Rows.uptoBulk d ≤ Rows.uptoBulkAll l := by
  induction l with
  | nil => cases h
  | cons x r ih =>
    simp only [Rows.uptoBulkAll]
    rcases List.mem_cons.1 h with rfl | h
    · omega
    · have := ih h; omega
theorem small {H : Type} {l : List (DataW H)} (hk : Rows.uptoSmall H l = true) : Rows.uptoBulkAll l ≤ 1048576 := of_decide_eq_true hk
end Bulk
end
end Go.Proofs.YtjdohhididpomaaGreatDoor
