/-
  Texts joined by program: VgXc, WkXc, WkXh, WkXi, WkXj, WkXk.
-/
import Derived.Test.YtjdohhididpomaaDoorWk16
import Derived.Test.YtjdohhididpomaaDoorProg
import Derived.KernelRfl
import Derived.Test.YtjdohhididpomaaDoorWk08
set_option linter.unusedVariables false
set_option linter.unusedSimpArgs false

section
set_option linter.unusedVariables false
namespace Go.Proofs.YtjdohhididpomaaDoor
open Go Go.RowKit Vc Ut Tb Cl
set_option maxRecDepth 1000000 in
theorem like_vc (hsp : SpecsOk Tryd.prog []) (h : ∀ (g : GGg) (w : World), grIn w g.a1 g.g1.cs ∧ grIn w g.a2 g.g2.cs → ∀ (b : Nat) (w1 : World), New w (Obj.cells #[Value.int .i64 g.g1.w, Value.int .i64 g.g1.h, Value.slice g.a1 g.g1.cs.length g.c1, Value.int .i64 g.g1.x, Value.int .i64 g.g1.y] (27 : Nat)) b w1 → ∀ (b1 : Nat) (w11 : World), New w1 (Obj.cells #[Value.int .i64 g.g2.w, Value.int .i64 g.g2.h, Value.slice g.a2 g.g2.cs.length g.c2, Value.int .i64 g.g2.x, Value.int .i64 g.g2.y] (27 : Nat)) b1 w11 → ∃ (n : Int), w11.cell? ⟨b, 0, none⟩ = some (Value.int .i64 n) ∧ ∃ (n1 : Int), w11.cell? ⟨b1, 0, none⟩ = some (Value.int .i64 n1) ∧ bcase (n != n1) (∃ (x : Bool), Value.bool false = Value.bool x ∧ x = likeB g.g1 g.g2 ∧ Ext w w11) (∃ (n2 : Int), w11.cell? ⟨b, 1, none⟩ = some (Value.int .i64 n2) ∧ ∃ (n3 : Int), w11.cell? ⟨b1, 1, none⟩ = some (Value.int .i64 n3) ∧ bcase (n2 != n3) (∃ (x : Bool), Value.bool false = Value.bool x ∧ x = likeB g.g1 g.g2 ∧ Ext w w11) (∃ (n4 : Int), w11.cell? ⟨b, 3, none⟩ = some (Value.int .i64 n4) ∧ ∃ (n5 : Int), w11.cell? ⟨b1, 3, none⟩ = some (Value.int .i64 n5) ∧ bcase (n4 != n5) (∃ (x : Bool), Value.bool false = Value.bool x ∧ x = likeB g.g1 g.g2 ∧ Ext w w11) (∃ (n6 : Int), w11.cell? ⟨b, 4, none⟩ = some (Value.int .i64 n6) ∧ ∃ (n7 : Int), w11.cell? ⟨b1, 4, none⟩ = some (Value.int .i64 n7) ∧ bcase (n6 != n7) (∃ (x : Bool), Value.bool false = Value.bool x ∧ x = likeB g.g1 g.g2 ∧ Ext w w11) (∃ (a3 : Option Addr) (n8 : Nat) (c : Nat), w11.cell? ⟨b, 2, none⟩ = some (Value.slice a3 n8 c) ∧ ∃ (a4 : Option Addr) (n9 : Nat) (c1 : Nat), w11.cell? ⟨b1, 2, none⟩ = some (Value.slice a4 n9 c1) ∧ bcase ((↑n8 : Int) != (↑n9 : Int)) (∃ (x : Bool), Value.bool false = Value.bool x ∧ x = likeB g.g1 g.g2 ∧ Ext w w11) (∃ (a5 : Option Addr) (n10 : Nat) (c2 : Nat), w11.cell? ⟨b, 2, none⟩ = some (Value.slice a5 n10 c2) ∧ (∃ (x : Nat), Value.int .i64 0 = Value.int .i64 (↑x : Int) ∧ x ≤ g.g1.cs.length ∧ List.take x g.g1.cs = List.take x g.g2.cs ∧ Ext w11 w11) ∧ ∀ (u : Nat → Value) (x : Nat) (w' : World), x ≤ g.g1.cs.length ∧ List.take x g.g1.cs = List.take x g.g2.cs ∧ Ext w11 w' → bcase (decide ((↑x : Int) < (↑n10 : Int))) (∀ (w12 : World), Drew w' w12 → ∃ (a8 : Option Addr) (n11 : Nat) (c3 : Nat), w'.cell? ⟨b, 2, none⟩ = some (Value.slice a8 n11 c3) ∧ ∃ (k : Nat), (↑x : Int) = (↑k : Int) ∧ k < n11 ∧ ptrE a8 fun (b2 o : Nat) => ∃ (s : ByteArray), w'.cell? ⟨b2, o + k * 6, none⟩ = some (Value.string s) ∧ ∃ (n12 : Int), w'.cell? ⟨b2, o + k * 6 + 1, none⟩ = some (Value.int .i8 n12) ∧ ∃ (n13 : Int), w'.cell? ⟨b2, o + k * 6 + 2, none⟩ = some (Value.int .i64 n13) ∧ ∃ (n14 : Int), w'.cell? ⟨b2, o + k * 6 + 3, none⟩ = some (Value.int .i64 n14) ∧ ∃ (b3 : Bool), w'.cell? ⟨b2, o + k * 6 + 4, none⟩ = some (Value.bool b3) ∧ ∃ (n15 : Int), w'.cell? ⟨b2, o + k * 6 + 5, none⟩ = some (Value.int .u16 n15) ∧ ∃ (a9 : Option Addr) (n16 : Nat) (c4 : Nat), w'.cell? ⟨b1, 2, none⟩ = some (Value.slice a9 n16 c4) ∧ ∃ (k1 : Nat), (↑x : Int) = (↑k1 : Int) ∧ k1 < n16 ∧
 ptrE a9 fun (b4 o1 : Nat) => ∃ (s1 : ByteArray), w'.cell? ⟨b4, o1 + k1 * 6, none⟩ = some (Value.string s1) ∧ ∃ (n17 : Int), w'.cell? ⟨b4, o1 + k1 * 6 + 1, none⟩ = some (Value.int .i8 n17) ∧ ∃ (n18 : Int), w'.cell? ⟨b4, o1 + k1 * 6 + 2, none⟩ = some (Value.int .i64 n18) ∧ ∃ (n19 : Int), w'.cell? ⟨b4, o1 + k1 * 6 + 3, none⟩ = some (Value.int .i64 n19) ∧ ∃ (b5 : Bool), w'.cell? ⟨b4, o1 + k1 * 6 + 4, none⟩ = some (Value.bool b5) ∧ ∃ (n20 : Int), w'.cell? ⟨b4, o1 + k1 * 6 + 5, none⟩ = some (Value.int .u16 n20) ∧ bcase (!(s.toList == s1.toList && (n12 == n17 && (n13 == n18 && (n14 == n19 && (b3 == b5 && (n15 == n20 && true))))))) (∃ (x1 : Bool), Value.bool false = Value.bool x1 ∧ x1 = likeB g.g1 g.g2 ∧ Ext w w12) (InR .i64 ((↑x : Int) + (1 : Int)) ∧ ∃ (y : Nat), Value.int .i64 ((↑x : Int) + (1 : Int)) = Value.int .i64 (↑y : Int) ∧ (y ≤ g.g1.cs.length ∧ List.take y g.g1.cs = List.take y g.g2.cs ∧ Ext w11 w12) ∧ g.g1.cs.length - y < g.g1.cs.length - x)) (∃ (x1 : Bool), Value.bool true = Value.bool x1 ∧ x1 = likeB g.g1 g.g2 ∧ Ext w w'))))))) :
    (sLikeW).Ok Tryd.prog 15 :=
  ok_of_vc sLikeW annLikeW [] (fun _ _ => rfl) (fun _ _ => rfl) hsp Tryd.func15 rfl (n := 2) (fun _ => rfl) (by kernel_rfl) (vcast (by kernel_rfl) h)
set_option maxRecDepth 1000000 in
theorem beyond_vc (hsp : SpecsOk Tryd.prog []) (h : ∀ (g : GCs) (w : World), CellsAt w g.ad (flat g.cs) ∧ bulkC g.cs ≤ 16777216 → (∃ (x : Nat), Value.int .i64 0 = Value.int .i64 (↑x : Int) ∧ Value.int .i64 0 = Value.int .i64 (↑(bulkC (List.take x g.cs)) : Int) ∧ x ≤ g.cs.length ∧ Ext w w) ∧ ∀ (u : Nat → Value) (x : Nat) (w' : World), x ≤ g.cs.length ∧ Ext w w' → bcase (decide ((↑x : Int) < (↑g.cs.length : Int))) (∃ (k : Nat), (↑x : Int) = (↑k : Int) ∧ k < g.cs.length ∧ ptrE g.ad fun (b o : Nat) => ∃ (s : ByteArray), w'.cell? ⟨b, o + k * 6, none⟩ = some (Value.string s) ∧ InR .i64 ((1 : Int) + (↑s.size : Int)) ∧ InR .i64 ((↑(bulkC (List.take x g.cs)) : Int) + ((1 : Int) + (↑s.size : Int))) ∧ bcase (decide ((↑(bulkC (List.take x g.cs)) : Int) + ((1 : Int) + (↑s.size : Int)) > (16777216 : Int))) (∃ (x1 : Unit), Value.bool true = Value.bool false ∧ Ext w w') (InR .i64 ((↑x : Int) + (1 : Int)) ∧ ∃ (y : Nat), Value.int .i64 ((↑x : Int) + (1 : Int)) = Value.int .i64 (↑y : Int) ∧ Value.int .i64 ((↑(bulkC (List.take x g.cs)) : Int) + ((1 : Int) + (↑s.size : Int))) = Value.int .i64 (↑(bulkC (List.take y g.cs)) : Int) ∧ (y ≤ g.cs.length ∧ Ext w w') ∧ g.cs.length - y < g.cs.length - x)) (∃ (x1 : Unit), Value.bool false = Value.bool false ∧ Ext w w')) :
    (sBeyond).Ok Tryd.prog 8 :=
  ok_of_vc sBeyond annBeyond [] (fun _ _ => rfl) (fun _ _ => rfl) hsp Tryd.func8 rfl (n := 1) (fun _ => rfl) (by kernel_rfl) (vcast (by kernel_rfl) h)
end Go.Proofs.YtjdohhididpomaaDoor
end

section
namespace Go.Proofs.YtjdohhididpomaaDoor
open Go Go.RowKit Vc Ut Tb Cl
theorem elemCe : ElemOk Tryd.prog 25 46 6 48 := elemOk_mk (.agg #[.string ⟨#[]⟩, .int .i8 0, .int .i64 0, .int .i64 0, .bool false, .int .u16 0]) (by kernel_rfl) (by kernel_rfl) rfl
theorem bulk_app (a b : List Ce) : bulkC (a ++ b) = bulkC a + bulkC b := by simp [bulkC]
theorem bulk_take (l : List Ce) (i : Nat) : bulkC (l.take i) ≤ bulkC l := by
  have := bulk_app (l.take i) (l.drop i)
  rw [List.take_append_drop] at this; omega
theorem take_ce {l : List Ce} {i : Nat} (h : i < l.length) : l.take (i + 1) = l.take i ++ [ceG l i] := by
  rw [List.take_succ_eq_append_getElem h, ceG_lt h]
theorem beyond_ok : sBeyond.Ok Tryd.prog 8 := by
  refine beyond_vc trivial ?_
  rintro ⟨ad, c, cs⟩ w ⟨hc, hb⟩
  dsimp only at hc hb ⊢
  have hl := bulk_len cs
  refine ⟨⟨0, rfl, rfl, Nat.zero_le _, Ext.refl _⟩, ?_⟩
  rintro _ i w1 ⟨hi, e1⟩
  refine bcase_mk (fun h => ?_) (fun h => ⟨(), rfl, e1⟩)
  have hlt : i < cs.length := by have := of_decide_eq_true h; omega
  have hs : bulkC (cs.take (i + 1)) = bulkC (cs.take i) + (1 + (ceG cs i).t.size) := by
    rw [take_ce hlt, bulk_app, bulk_cons]; rfl
  have h1 := bulk_take cs (i + 1)
  refine ⟨i, rfl, hlt, (hc.ext e1).ce hlt fun b o hce => ⟨_, hce.1, inr_i64 (by omega) (by omega), inr_i64 (by omega) (by omega), bcase_mk (fun h => ?_) (fun h => ⟨inr_i64 (by omega) (by omega), i + 1, rfl, ?_, ⟨hlt, e1⟩, by omega⟩)⟩⟩
  · exfalso; have := of_decide_eq_true h; omega
  · rw [hs]; rfl
theorem like_ok : sLikeW.Ok Tryd.prog 15 := by
  refine like_vc trivial ?_
  rintro ⟨a1, c1, g1, a2, c2, g2⟩ w ⟨⟨hc1, hb1⟩, ⟨hc2, hb2⟩⟩ b w1 hn1 b2 w2 hn2
  dsimp only at hc1 hb1 hc2 hb2 hn1 hn2 ⊢
  have hg1 := (gr_box hn1.heap).ext hn2.ext
  have hg2 := gr_box hn2.heap
  have e02 := Ext.trans hn1.ext hn2.ext
  have hl1 := bulk_len g1.cs
  refine ⟨_, hg1.w, _, hg2.w, bcase_mk (fun h => ⟨_, rfl, ?_, e02⟩) (fun k1 => ⟨_, hg1.h, _, hg2.h, bcase_mk (fun h => ⟨_, rfl, ?_, e02⟩) (fun k2 => ⟨_, hg1.x, _, hg2.x, bcase_mk (fun h => ⟨_, rfl, ?_, e02⟩) (fun k3 => ⟨_, hg1.y, _, hg2.y, bcase_mk (fun h => ⟨_, rfl, ?_, e02⟩) (fun k4 => ?_)⟩)⟩)⟩)⟩
  · unfold likeB; rw [show (g1.w == g2.w) = false from by rw [beq_eq_false_iff_ne]; exact bne_iff_ne.1 h]; rfl
  · unfold likeB; rw [show (g1.h == g2.h) = false from by rw [beq_eq_false_iff_ne]; exact bne_iff_ne.1 h]; simp
  · unfold likeB; rw [show (g1.x == g2.x) = false from by rw [beq_eq_false_iff_ne]; exact bne_iff_ne.1 h]; simp
  · unfold likeB; rw [show (g1.y == g2.y) = false from by rw [beq_eq_false_iff_ne]; exact bne_iff_ne.1 h]; simp
  have hS : likeB g1 g2 = decide (g1.cs = g2.cs) := by
    unfold likeB
    rw [bne_eq_false_iff_eq.1 k1, bne_eq_false_iff_eq.1 k2, bne_eq_false_iff_eq.1 k3, bne_eq_false_iff_eq.1 k4]
    simp
  rw [hS]
  refine ⟨_, _, _, hg1.cs, _, _, _, hg2.cs, bcase_mk (fun h => ⟨_, rfl, ?_, e02⟩) (fun k5 => ?_)⟩
  · have h := bne_iff_ne.1 h
    symm; rw [decide_eq_false_iff_not]; intro hh; rw [hh] at h; exact h rfl
  have hlen : g1.cs.length = g2.cs.length := by have := bne_eq_false_iff_eq.1 k5; omega
  refine ⟨_, _, _, hg1.cs, ⟨0, rfl, Nat.zero_le _, rfl, Ext.refl _⟩, ?_⟩
  rintro _ i w3 ⟨hi, hs, e23⟩
  have e03 := Ext.trans e02 e23
  refine bcase_mk (fun h => ?_) (fun h => ⟨_, rfl, ?_, e03⟩)
  · have hlt : i < g1.cs.length := by have := of_decide_eq_true h; omega
    intro w4 hd
    have hg13 := hg1.ext e23
    have hg23 := hg2.ext e23
    refine ⟨_, _, _, hg13.cs, i, rfl, hlt, (hc1.ext e03).ce hlt fun b3 o3 hce => hce.load ⟨_, _, _, hg23.cs, i, rfl, by omega, (hc2.ext e03).ce (by omega) fun b4 o4 hcd => hcd.load ?_⟩⟩
    have heq : ((ceG g1.cs i).t.toList == (ceG g2.cs i).t.toList && ((ceG g1.cs i).p == (ceG g2.cs i).p && ((ceG g1.cs i).a == (ceG g2.cs i).a && ((ceG g1.cs i).n == (ceG g2.cs i).n && ((ceG g1.cs i).r == (ceG g2.cs i).r && ((((ceG g1.cs i).st : Nat) : Int) == (((ceG g2.cs i).st : Nat) : Int) && true)))))) = decide (ceG g1.cs i = ceG g2.cs i) := by
      rw [str_eq]
      generalize ceG g1.cs i = x
      generalize ceG g2.cs i = y
      obtain ⟨x1, x2, x3, x4, x5, x6⟩ := x
      obtain ⟨y1, y2, y3, y4, y5, y6⟩ := y
      rw [Bool.eq_iff_iff]
      simp only [Bool.and_eq_true, decide_eq_true_eq, beq_iff_eq, and_true, Ce.mk.injEq]
      constructor
      · rintro ⟨h1, h2, h3, h4, h5, h6⟩; exact ⟨h1, h2, h3, h4, h5, by omega⟩
      · rintro ⟨h1, h2, h3, h4, h5, h6⟩; exact ⟨h1, h2, h3, h4, h5, by omega⟩
    rw [heq]
    refine bcase_mk (fun h => ⟨_, rfl, ?_, Ext.trans e03 hd.ext⟩) (fun h => ⟨inr_i64 (by omega) (by omega), i + 1, rfl, ⟨by omega, ?_, Ext.trans e23 hd.ext⟩, by omega⟩)
    · have h : ¬ ceG g1.cs i = ceG g2.cs i := by simpa using h
      symm; rw [decide_eq_false_iff_not]; intro hh; rw [hh] at h; exact h rfl
    · have h : ceG g1.cs i = ceG g2.cs i := by simpa using h
      rw [take_ce hlt, take_ce (by omega), hs, h]
  · have h := of_decide_eq_false h
    symm; rw [decide_eq_true_eq]
    rw [List.take_of_length_le (by omega), List.take_of_length_le (by omega)] at hs
    exact hs
end Go.Proofs.YtjdohhididpomaaDoor
end

section
namespace Go.Proofs.YtjdohhididpomaaDoor
open Go Go.RowKit Vc Ut Tb Cl
theorem row_type {w : World} {e t : TypeId} {s n c q : Nat} {ad : Option Addr} {vs : List Value} {cs : Array Value} (h : Row w e s ad n vs c) (hq : w.heap[q]? = some (.cells cs t)) (hne : t ≠ e) : blk ad ≠ some q := fun hh => by
  obtain ⟨cur, h1⟩ := row_cells h hh
  rw [hq] at h1
  injection h1 with h2
  injection h2 with _ h3
  exact hne h3
theorem row_type2 {w : World} {e t : TypeId} {s s' n c n' c' q : Nat} {ad ad' : Option Addr} {vs vs' : List Value} (h : Row w e s ad n vs c) (h' : Row w t s' ad' n' vs' c') (hne : t ≠ e) (hq : blk ad' = some q) : blk ad ≠ some q := fun hh => by
  obtain ⟨cur, h1⟩ := row_cells h' hq
  exact row_type h h1 hne hh
theorem GlIn.lt {w : World} {A : GlP} {g : Gs} (h : GlIn w A g) : ∀ q, own A q → q < w.heap.size := fun q hq => by
  rcases hq with rfl | hq | hq
  · exact heap_lt h.box
  · exact h.row.lt hq
  · exact h.num.lt hq
theorem GlIn.cp {w : World} {A : GlP} {g : Gs} (h : GlIn w A g) : blk A.ca ≠ some A.p := row_type h.row h.box (by decide)
theorem GlIn.np {w : World} {A : GlP} {g : Gs} (h : GlIn w A g) : blk A.na ≠ some A.p := row_type h.num h.box (by decide)
theorem GlIn.cn {w : World} {A : GlP} {g : Gs} (h : GlIn w A g) {q : Nat} (hq : blk A.na = some q) : blk A.ca ≠ some q := row_type2 h.row h.num (by decide) hq
theorem GlIn.ud {w : World} {A : GlP} {g : Gs} (h : GlIn w A g) : UD w := h.u w (Below.refl _ _)
theorem GlIn.ext {w w' : World} {A : GlP} {g : Gs} (h : GlIn w A g) (hx : Ext w w') : GlIn w' A g :=
  ⟨hx.heap h.box, h.row.ext hx, h.num.ext hx, h.nil, h.bq, Nat.le_trans h.bw hx.size, h.u.on (hx.mono h.bw)⟩
theorem GlIn.below {w w' : World} {A : GlP} {g : Gs} (h : GlIn w A g) (hf : Fr (own A) w w') : Below A.B w w' := hf.below h.bw (fun q hq hh => by have := h.bq q hh; omega)
theorem GlOut.refl {w : World} {A : GlP} {g : Gs} (h : GlIn w A g) : GlOut w w A A g := ⟨h, rfl, rfl, rfl, Step.refl h.lt⟩
theorem GlOut.ext {w w' : World} {A : GlP} {g : Gs} (h : GlIn w A g) (hx : Ext w w') : GlOut w w' A A g := ⟨h.ext hx, rfl, rfl, rfl, Step.ext hx h.lt⟩
theorem GlOut.trans {a b c : World} {A A1 A2 : GlP} {g1 g2 : Gs} (h : GlOut a b A A1 g1) (k : GlOut b c A1 A2 g2) : GlOut a c A A2 g2 :=
  ⟨k.is, k.p.trans h.p, k.b.trans h.b, k.rb.trans h.rb, h.st.trans k.st⟩
theorem GlIn.old {w : World} {A : GlP} {g : Gs} (h : GlIn w A g) {k : Nat} (hk : k < 14) : ∃ old, w.cell? ⟨A.p, k, none⟩ = some old := by
  rw [cell_of_heap h.box]; exact ⟨_, Array.getElem?_eq_getElem (by show k < 14; exact hk)⟩
theorem GlIn.free {w : World} {A : GlP} {g : Gs} (h : GlIn w A g) (k : Nat) : w.frozen? ⟨A.p, k, none⟩ = false := frozen_of_heap h.box _
theorem gl_put {w w1 : World} {A : GlP} {g g' : Gs} {k : Nat} {v : Value} (h : GlIn w A g) (hs : Stored w ⟨A.p, k, none⟩ v w1) (hv : (glV A g).setIfInBounds k v = glV A g') (hc : g'.cs = g.cs) (hn : g'.num = g.num) : GlOut w w1 A A g' := by
  have hst : Step (own A) w w1 (own A) := Step.stored hs (.inl rfl) h.lt
  refine ⟨⟨by rw [← hv]; exact hs.heap h.box, ?_, ?_, by rw [hn]; exact h.nil, h.bq, by rw [hs.size]; exact h.bw, h.u.on (h.below hst.fr)⟩, rfl, rfl, rfl, hst⟩
  · rw [hc]; exact h.row.keep fun q hq => hs.other (by show q ≠ A.p; rintro rfl; exact h.cp hq)
  · rw [hn]; exact h.num.keep fun q hq => hs.other (by show q ≠ A.p; rintro rfl; exact h.np hq)
theorem gl_cells {w w1 : World} {A : GlP} {g : Gs} {cs' : List Ce} (h : GlIn w A g) (hr : Row w1 46 6 A.ca g.cs.length (flat cs') A.cc) (hf : Fr (fun q => blk A.ca = some q) w w1) : GlOut w w1 A A { g with cs := cs' } := by
  have hl : cs'.length = g.cs.length := by have := hr.1; rw [flc_len] at this; omega
  have hfo : Fr (own A) w w1 := hf.mono fun q _ hq => .inr (.inl hq)
  refine ⟨⟨?_, by rw [hl]; exact hr, h.num.keep fun q hq => hf.block q (h.num.lt hq) (h.cn hq), h.nil, h.bq, Nat.le_trans h.bw hf.size, h.u.on (h.below hfo)⟩, rfl, rfl, rfl, hfo, fun q hq => ⟨Nat.lt_of_lt_of_le (h.lt q hq) hf.size, .inl hq⟩⟩
  have := (hf.block A.p (heap_lt h.box) h.cp).trans h.box
  rw [this]
  unfold glV
  dsimp only
  rw [hl]
theorem backG_ok : sBackG.Ok Tryd.prog 40 := by
  refine backG_vc trivial ?_
  rintro ⟨A, g⟩ w ⟨hG, hF⟩ w1 hd
  dsimp only at hG hF ⊢
  have hw := hF.w; have hx := hF.x
  have hG1 := hG.ext hd.ext
  refine ⟨g.x, (cell_of_heap hG.box 4).trans rfl, g.w, (cell_of_heap hG.box 0).trans rfl, bcase_mk (fun h => ⟨g.w, (cell_of_heap hG1.box 0).trans rfl, inr_i64 (by omega) (by omega), rfl, hG1.old (k := 4) (by decide), hG1.free 4, fun w2 hs => ⟨A, rfl, ?_⟩⟩) (fun h => ⟨A, rfl, ?_⟩)⟩
  · have h : g.w ≤ g.x := by have := of_decide_eq_true h; omega
    have e : backG g = { g with x := g.w - 1 } := by unfold backG; rw [if_pos h]
    have ev : (if 0 > (g.w : Int) - 1 then 0 else (g.w : Int) - 1) = ((g.w - 1 : Nat) : Int) := by split <;> omega
    rw [ev] at hs
    rw [e]
    exact (GlOut.ext hG hd.ext).trans (gl_put hG1 hs rfl rfl rfl)
  · have h : ¬ g.w ≤ g.x := by have := of_decide_eq_false h; omega
    have e : backG g = g := by unfold backG; rw [if_neg h]
    rw [e]; exact GlOut.ext hG hd.ext
theorem zeroCe : zeroOf Tryd.prog 46 = some (.agg #[.string ⟨#[]⟩, .int .i8 0, .int .i64 0, .int .i64 0, .bool false, .int .u16 0]) := by kernel_rfl
theorem infoCe : ∃ i, Tryd.prog.info? 46 = some i ∧ i.size = 6 := by
  obtain ⟨i, z, h1, h2, h3, h4⟩ := elemCe.info
  exact ⟨i, h1, h3⟩
theorem row_some {w : World} {e : TypeId} {s n c : Nat} {ad : Option Addr} {vs : List Value} (h : Row w e s ad n vs c) (hn : 0 < n) : ∃ q, ad = some ⟨q, 0, none⟩ := by
  rcases h.2 with ⟨_, h1, _⟩ | ⟨g', cur, rfl, _⟩
  · omega
  · exact ⟨g', rfl⟩
theorem clear_zero (ad : Option Addr) {n : Nat} (c : Nat) (w : World) (hn : n = 0) : (Builtin.clear_ #[25] 0 #[.slice ad n c]).run Tryd.prog w = .ok (.tuple #[]) w := by
  subst hn
  cases ad <;> simp [Builtin.clear_, run_underlying elemCe.und]
theorem downG_ok : sDownG.Ok Tryd.prog 41 := by
  refine downG_vc trivial ?_
  rintro ⟨A, g⟩ w ⟨hG, hF⟩ w1 hd
  dsimp only at hG hF ⊢
  have hw := hF.w; have hh := hF.h; have hy := hF.y
  have hG1 := hG.ext hd.ext
  have hO1 := GlOut.ext hG hd.ext
  have hwh : g.w * g.h ≤ 1048576 := Nat.le_trans (Nat.mul_le_mul hw hh) (by decide)
  have hlen := hF.len
  refine ⟨g.y, (cell_of_heap hG.box 5).trans rfl, inr_i64 (by omega) (by omega), g.h, (cell_of_heap hG.box 1).trans rfl, bcase_mk (fun h => ⟨g.y, (cell_of_heap hG1.box 5).trans rfl, inr_i64 (by omega) (by omega), rfl, hG1.old (k := 5) (by decide), hG1.free 5, fun w2 hs => ⟨A, rfl, ?_⟩⟩) (fun h => ?_)⟩
  · have h : g.y + 1 < g.h := by have := of_decide_eq_true h; omega
    have e : downG g = { g with y := g.y + 1 } := by unfold downG; rw [if_pos h]
    rw [e]
    exact hO1.trans (gl_put hG1 hs rfl rfl rfl)
  have h : ¬ g.y + 1 < g.h := by have := of_decide_eq_false h; omega
  have e : downG g = { g with cs := g.cs.drop g.w ++ List.replicate (min g.w g.cs.length) (blkC 0) } := by unfold downG; rw [if_neg h]
  rw [e]
  intro w2 hd2
  have hG2 := hG1.ext hd2.ext
  have hO2 := hO1.trans (GlOut.ext hG1 hd2.ext)
  refine ⟨A.ca, g.cs.length, A.cc, (cell_of_heap hG1.box 3).trans rfl, A.ca, g.cs.length, A.cc, (cell_of_heap hG1.box 3).trans rfl, g.w, (cell_of_heap hG1.box 0).trans rfl, A.ca, g.cs.length, A.cc, (cell_of_heap hG1.box 3).trans rfl, min g.w g.cs.length, by split <;> omega, Nat.min_le_right _ _, ?_⟩
  intro ad' hsl
  have hcc := hG2.row.le.1
  by_cases h0 : g.cs.length = 0
  · -- nothing is there
    have hm0 : min g.w g.cs.length = 0 := by omega
    have hcs : g.cs = [] := List.eq_nil_of_length_eq_zero h0
    have hcopy : CopyRun Tryd.prog #[25, 25] 3 (.slice A.ca g.cs.length A.cc) (.slice ad' (g.cs.length - min g.w g.cs.length) (A.cc - min g.w g.cs.length)) w2 0 w2 := by
      obtain ⟨i, hi, hs⟩ := infoCe
      have hfc : ∀ (a : Option Addr) (c : Nat), (Builtin.firstCells 6 0 (.slice a 0 c)).run Tryd.prog w2 = .ok #[] w2 := fun a c => by
        cases a with
        | none => rfl
        | some a => simp [Builtin.firstCells, loadCells, loadCellsFrom]
      unfold CopyRun
      rw [h0]
      cases hca : A.ca with
      | none => simp [Builtin.copy_, run_underlying elemCe.und, Builtin.lenOf, sizeOf, typeInfo, hi, hs, hfc, goInt]
      | some a => simp [Builtin.copy_, run_underlying elemCe.und, Builtin.lenOf, sizeOf, typeInfo, hi, hs, hfc, goInt, storeCells]
    refine ⟨0, w2, hcopy, KOE.refl _ _, ?_⟩
    intro w3 hd3
    have hO3 := hO2.trans (GlOut.ext hG2 hd3.ext)
    refine ⟨A.ca, g.cs.length, A.cc, (cell_of_heap hG2.box 3).trans rfl, A.ca, g.cs.length, A.cc, (cell_of_heap hG2.box 3).trans rfl, g.w, (cell_of_heap hG2.box 0).trans rfl, inr_i64 (by omega) (by omega), 0, by split <;> omega, by omega, ?_⟩
    intro ad2 hsl2
    refine ⟨w3, clear_zero _ _ _ (by omega), KOE.refl _ _, A, rfl, ?_⟩
    · rw [hcs]
      have : ({ g with cs := List.drop g.w [] ++ List.replicate (min g.w ([] : List Ce).length) (blkC 0) } : Gs) = g := by
        rw [show List.drop g.w ([] : List Ce) ++ List.replicate (min g.w ([] : List Ce).length) (blkC 0) = g.cs from by rw [hcs]; simp]
      rw [this]; exact hO3
  · obtain ⟨q, hq⟩ := row_some hG2.row (by omega)
    have hh0 : 0 < g.h := by
      rcases Nat.eq_zero_or_pos g.h with h | h
      · rw [h, Nat.mul_zero] at hlen; omega
      · exact h
    have hwl : g.w ≤ g.cs.length := by rw [hlen]; exact Nat.le_mul_of_pos_right _ hh0
    have hm : min g.w g.cs.length = g.w := Nat.min_eq_left hwl
    rw [hm] at hsl ⊢
    obtain ⟨i, hi, hs⟩ := infoCe
    have hrow2 := hG2.row
    rw [hq] at hrow2
    have hsrc : CellsAt w2 ad' (flat (g.cs.drop g.w)) := by
      have := hG2.row.cells.drop (s := 6) hsl (by omega) (by rw [flc_len]; omega)
      rw [flc_drop] at this; exact this
    obtain ⟨w3, hcp, hko3, hr3, hf3⟩ := copy_row (P := Tryd.prog) (dT := 25) (sT := 25) (ty := 3) (cx := A.cc - g.w) (dn := A.cc) elemCe.und hi hs hrow2 hsrc (m := g.cs.length - g.w) (by rw [flc_len, List.length_drop]) (by omega) (flc_one _)
    rw [← hq] at hcp
    refine ⟨g.cs.length - g.w, w3, hcp, hko3, ?_⟩
    have hcells3 : setL (flat g.cs) 0 (flat (g.cs.drop g.w)) = flat (g.cs.drop g.w ++ g.cs.drop (g.cs.length - g.w)) := by
      rw [setL_eq _ _ _ (by rw [flc_len, flc_len, List.length_drop]; omega), List.take_zero, List.nil_append, Nat.zero_add, flc_len, List.length_drop, flc_drop, flc_append]
    rw [hcells3, ← hq] at hr3
    have hf3' : Fr (fun x => blk A.ca = some x) w2 w3 := hf3.mono fun x _ hx => by rw [hq, hx]; rfl
    have hO3 := hO2.trans (gl_cells hG2 hr3 hf3')
    have hG3 := hO3.is
    intro w4 hd4
    have hG4 := hG3.ext hd4.ext
    have hO4 := hO3.trans (GlOut.ext hG3 hd4.ext)
    have hlen3 : (g.cs.drop g.w ++ g.cs.drop (g.cs.length - g.w)).length = g.cs.length := by rw [List.length_append, List.length_drop, List.length_drop]; omega
    refine ⟨A.ca, g.cs.length, A.cc, (cell_of_heap hG3.box 3).trans ?_, A.ca, g.cs.length, A.cc, (cell_of_heap hG3.box 3).trans ?_, g.w, (cell_of_heap hG3.box 0).trans rfl, inr_i64 (by omega) (by omega), g.cs.length - g.w, by split <;> omega, by omega, ?_⟩
    · show some (Value.slice A.ca (g.cs.drop g.w ++ g.cs.drop (g.cs.length - g.w)).length A.cc) = _
      rw [hlen3]
    · show some (Value.slice A.ca (g.cs.drop g.w ++ g.cs.drop (g.cs.length - g.w)).length A.cc) = _
      rw [hlen3]
    intro ad2 hsl2
    have hrow4 := hG4.row
    dsimp only at hrow4
    rw [hlen3] at hrow4
    have hfin : ∀ {w5 : World} {cs' : List Ce}, Row w5 46 6 A.ca g.cs.length (flat cs') A.cc → Fr (fun x => blk A.ca = some x) w4 w5 → cs' = g.cs.drop g.w ++ List.replicate g.w (blkC 0) → GlOut w w5 A A { g with cs := g.cs.drop g.w ++ List.replicate g.w (blkC 0) } := by
      intro w5 cs' hr5 hf5 he
      subst he
      have := hO4.trans (gl_cells hG4 (by dsimp only; rw [hlen3]; exact hr5) hf5)
      exact this
    by_cases hw0 : g.w = 0
    · refine ⟨w4, clear_zero _ _ _ (by omega), KOE.refl _ _, A, rfl, ?_⟩
      · refine hfin hrow4 (Fr.refl _ _) ?_
        rw [hw0, Nat.sub_zero, List.drop_length]; rfl
    · have hca : ad2 = some ⟨q, (g.cs.length - g.w) * 6, none⟩ := by
        rw [hq] at hsl2
        have := hsl2.lt (by omega)
        rw [Nat.zero_add] at this; exact this
      have hrow4' := hrow4
      rw [hq] at hrow4'
      obtain ⟨w5, hcl, hko5, hr5, hf5⟩ := clear_row (P := Tryd.prog) (t := 25) (ty := 0) (cx := A.cc - (g.cs.length - g.w)) elemCe.und zeroCe rfl hrow4' (k := g.cs.length - g.w) (m := g.w) (by omega)
      refine ⟨w5, ?_, hko5, A, rfl, ?_⟩
      · rw [hca, show g.cs.length - (g.cs.length - g.w) = g.w from by omega]; exact hcl
      · refine hfin (by rw [← hq] at hr5; exact hr5) (hf5.mono fun x _ hx => by rw [hq, hx]; rfl) ?_
        rw [List.take_left' (by rw [List.length_drop])]
end Go.Proofs.YtjdohhididpomaaDoor
end

section
namespace Go.Proofs.YtjdohhididpomaaDoor
open Go Go.RowKit Vc Ut Tb Cl
theorem gl_wr {W : World} {A : GlP} {g : Gs} {j : Nat} {x : Ce} {K : World → Prop} (hG : GlIn W A g) (hj : j < g.cs.length) (hK : ∀ w', GlOut W w' A A { g with cs := g.cs.set j x } → K w') : ptrE A.ca fun b o => storesE b (o + j * 6) 0 (ceV x) W K := by
  obtain ⟨q, hq⟩ := row_some hG.row (by omega)
  have hrow := hG.row
  rw [hq] at hrow ⊢
  exact hrow.setCe hj x fun w' hr hf => hK w' (gl_cells hG (by rw [hq]; exact hr) (hf.mono fun x _ hx => by rw [hq, hx]; rfl))
theorem gl_wr1 {W : World} {A : GlP} {g : Gs} {j k : Nat} {x : Ce} {v : Value} {K : Nat → Nat → Prop} (hG : GlIn W A g) (hj : j < g.cs.length) (hk : k < 6) (hx : (ceV (ceG g.cs j)).set k v = ceV x)
    (hK : ∀ b o, (∃ old, W.cell? ⟨b, o + j * 6 + k, none⟩ = some old) → W.frozen? ⟨b, o + j * 6 + k, none⟩ = false → (∀ w', Stored W ⟨b, o + j * 6 + k, none⟩ v w' → GlOut W w' A A { g with cs := g.cs.set j x }) → K b o) : ptrE A.ca K := by
  obtain ⟨q, hq⟩ := row_some hG.row (by omega)
  have hrow := hG.row
  rw [hq] at hrow ⊢
  have hn := hrow.1
  rw [flc_len] at hn
  obtain ⟨h1, h2⟩ := hrow.can (j := 0 + j * 6 + k) (by omega)
  refine hK q 0 h1 h2 fun w' hs => ?_
  have hr := hrow.put hs
  rw [Nat.zero_add, flc_set1 _ j k x v hj hk hx, ← hq] at hr
  exact gl_cells hG hr ((Fr.stored hs).mono fun y _ hy => by rw [hq, hy]; rfl)
theorem gl_box {w w' : World} {A A' : GlP} {g g' : Gs} {b : Nat} {cs : Array Value} {t : TypeId} (hb : w.heap[b]? = some (.cells cs t)) (h : GlIn w A g) (ho : GlOut w w' A A' g') (ht : t ≠ 66) (hn : blk A.ca ≠ some b) (hm : blk A.na ≠ some b) : w'.heap[b]? = some (.cells cs t) := by
  refine (ho.st.fr.block b (heap_lt hb) (fun hh => ?_)).trans hb
  rcases hh with rfl | hh | hh
  · rw [h.box] at hb
    injection hb with h2
    injection h2 with _ h3
    exact ht h3.symm
  · exact hn hh
  · exact hm hh
theorem set_len {g : Gs} {j : Nat} {x : Ce} : (g.cs.set j x).length = g.cs.length := List.length_set
set_option maxRecDepth 2000 in
theorem layG_ok : sLayG.Ok Tryd.prog 53 := by
  refine layG_vc trivial ?_
  rintro ⟨A, g, i, c⟩ w ⟨hG, hF, hi, hw0, hl0, hl1⟩ b w1 hn
  dsimp only at hG hF hi hw0 hl0 hl1 hn ⊢
  have hG1 := hG.ext hn.ext
  have hw := hF.w; have hh := hF.h; have hlen := hF.len
  have hwh : g.w * g.h ≤ 1048576 := Nat.le_trans (Nat.mul_le_mul hw hh) (by decide)
  have hce := box_ce hn.heap
  refine ⟨_, _, _, (cell_of_heap hG1.box 3).trans rfl, i, rfl, hi, hG1.row.cells.ce hi fun b1 o1 hc1 => hc1.load ?_⟩
  intro b2 w2 hn2
  have hG2 := hG1.ext hn2.ext
  have e02 := Ext.trans hn.ext hn2.ext
  have hO2 := GlOut.ext hG e02
  have hce2 := box_ce hn2.heap
  have hb2 := hn2.ext.heap hn.heap
  have z1 := hn.size
  have hnew : ∀ q, own A q → q ≠ b := fun q hq => by have := hG.lt q hq; omega
  have hkeep : ∀ {W : World}, GlOut w2 W A A (layT g i) → W.heap[b]? = some (.cells #[.string c.t, .int .i8 c.p, .int .i64 c.a, .int .i64 c.n, .bool c.r, .int .u16 c.st] 46) := fun ho =>
    gl_box hb2 hG2 ho (by decide) (fun h => hnew b (.inr (.inl h)) rfl) (fun h => hnew b (.inr (.inr h)) rfl)
  refine ⟨⟨_, hce2.2.1, bcase_mk (fun h1 => ?_) (fun h1 => ?_)⟩, ?_⟩
  · have h1 : (ceG g.cs i).p = 1 := beq_iff_eq.1 h1
    have hi0 := hl0 h1
    have e : layT g i = { g with cs := g.cs.set (i - 1) (blkC (ceG g.cs (i - 1)).st) } := by unfold layT layH; rw [if_pos h1]
    intro w3 hd
    have hG3 := hG2.ext hd.ext
    have hO3 := GlOut.ext hG2 hd.ext
    refine ⟨_, _, _, (cell_of_heap hG2.box 3).trans rfl, inr_i64 (by omega) (by omega), _, _, _, (cell_of_heap hG2.box 3).trans rfl, inr_i64 (by omega) (by omega), i - 1, by omega, by omega, hG2.row.cells.ce (i := i - 1) (by omega) fun b4 o4 hc4 => ⟨_, hc4.2.2.2.2.2, i - 1, by omega, by omega, gl_wr (x := blkC (ceG g.cs (i - 1)).st) hG3 (by omega) fun w4 hO => ⟨(A, b), rfl, ?_, ?_⟩⟩⟩
    · rw [e]; exact hO2.trans (hO3.trans hO)
    · exact hkeep (by rw [e]; exact hO3.trans hO)
  · have h1 : ¬ (ceG g.cs i).p = 1 := beq_eq_false_iff_ne.1 h1
    have hmod : ((i : Int) + 1) % (g.w : Int) = (((i + 1) % g.w : Nat) : Int) := by rw [Int.natCast_emod]; rfl
    refine ⟨inr_i64 (by omega) (by omega), g.w, (cell_of_heap hG2.box 0).trans rfl, by omega, by omega, bcase_mk (fun h2 => ?_) (fun h2 => ⟨(A, b), rfl, ?_, hb2⟩)⟩
    · have h2 : (i + 1) % g.w ≠ 0 := by have := bne_iff_ne.1 h2; rw [hmod] at this; omega
      have hi1 := hl1 h2
      refine ⟨_, _, _, (cell_of_heap hG2.box 3).trans rfl, inr_i64 (by omega) (by omega), i + 1, rfl, hi1, hG2.row.cells.ce hi1 fun b4 o4 hc4 => ⟨_, hc4.2.1, bcase_mk (fun h3 => ?_) (fun h3 => ⟨(A, b), rfl, ?_, hb2⟩)⟩⟩
      · have h3 : (ceG g.cs (i + 1)).p = 1 := beq_iff_eq.1 h3
        have e : layT g i = { g with cs := g.cs.set (i + 1) (blkC (ceG g.cs (i + 1)).st) } := by unfold layT layH; rw [if_neg h1, if_pos ⟨h2, h3⟩]
        intro w3 hd
        have hG3 := hG2.ext hd.ext
        have hO3 := GlOut.ext hG2 hd.ext
        refine ⟨_, _, _, (cell_of_heap hG2.box 3).trans rfl, inr_i64 (by omega) (by omega), _, _, _, (cell_of_heap hG2.box 3).trans rfl, inr_i64 (by omega) (by omega), i + 1, rfl, hi1, hG2.row.cells.ce hi1 fun b5 o5 hc5 => ⟨_, hc5.2.2.2.2.2, i + 1, rfl, hi1, gl_wr (x := blkC (ceG g.cs (i + 1)).st) hG3 hi1 fun w4 hO => ⟨(A, b), rfl, ?_, ?_⟩⟩⟩
        · rw [e]; exact hO2.trans (hO3.trans hO)
        · exact hkeep (by rw [e]; exact hO3.trans hO)
      · have h3 : ¬ (ceG g.cs (i + 1)).p = 1 := beq_eq_false_iff_ne.1 h3
        have e : layT g i = g := by unfold layT layH; rw [if_neg h1, if_neg (fun hh => h3 hh.2)]
        rw [e]; exact hO2
    · have h2 : (i + 1) % g.w = 0 := by have := bne_eq_false_iff_eq.1 h2; rw [hmod] at this; omega
      have e : layT g i = g := by unfold layT layH; rw [if_neg h1, if_neg (fun hh => hh.1 h2)]
      rw [e]; exact hO2
  clear hkeep hb2 hce2 hO2 hG2 hn2
  rintro _ ⟨A3, b3⟩ w3 ⟨hO3, hb3⟩
  dsimp only at hO3 hb3
  intro w4 hd
  have hG3 := hO3.is
  have hG4 := hG3.ext hd.ext
  have hO4 := hO3.trans (GlOut.ext hG3 hd.ext)
  have hce3 := box_ce hb3
  have hlt : (layT g i).cs.length = g.cs.length := by
    show (layH g.cs g.w i).length = _
    unfold layH
    split
    · rw [List.length_set]
    · split
      · rw [List.length_set]
      · rfl
  have hp : A3.p = A.p := hO3.p
  refine ⟨_, _, _, by rw [← hp]; exact (cell_of_heap hG3.box 3).trans rfl, hce3.load ⟨i, rfl, by rw [hlt]; exact hi, gl_wr (x := c) hG4 (by rw [hlt]; exact hi) fun w5 hO => ⟨A3, rfl, ?_⟩⟩⟩
  have := hO4.trans hO
  exact this
end Go.Proofs.YtjdohhididpomaaDoor
end

section
namespace Go.Proofs.YtjdohhididpomaaDoor
open Go Go.RowKit Vc Ut Tb Cl
theorem gl_num {w w1 : World} {A : GlP} {g : Gs} {l : List Int} (h : GlIn w A g) (hl : l.length = g.num.length) (hr : Row w1 3 1 A.na g.num.length (l.map (Value.int .i64)) A.nc) (hf : Fr (fun q => blk A.na = some q) w w1) : GlOut w w1 A A { g with num := l } := by
  have hfo : Fr (own A) w w1 := hf.mono fun q _ hq => .inr (.inr hq)
  refine ⟨⟨?_, h.row.keep fun q hq => hf.block q (h.row.lt hq) (fun hh => h.cn hh hq), by dsimp only; rw [hl]; exact hr, fun hn => ?_, h.bq, Nat.le_trans h.bw hf.size, h.u.on (h.below hfo)⟩, rfl, rfl, rfl, hfo, fun q hq => ⟨Nat.lt_of_lt_of_le (h.lt q hq) hf.size, .inl hq⟩⟩
  · have := (hf.block A.p (heap_lt h.box) h.np).trans h.box
    rw [this]
    unfold glV
    dsimp only
    rw [hl]
  · dsimp only at hn
    refine h.nil (List.eq_nil_of_length_eq_zero ?_)
    rw [← hl, hn]; rfl
theorem gl_more {w w2 w3 : World} {A : GlP} {g : Gs} {l : List Int} {a' : Option Addr} {c' n' : Nat} (h : GlIn w A g) (hn' : n' = l.length) (hl0 : l ≠ []) (hr : Row w2 3 1 a' n' (l.map (Value.int .i64)) c') (hf : Fr (fun q => blk A.na = some q) w w2)
    (hnw : ∀ q, blk a' = some q → blk A.na = some q ∨ w.heap.size ≤ q) (hs : Stored w2 ⟨A.p, 11, none⟩ (.slice a' n' c') w3) : GlOut w w3 A { A with na := a', nc := c' } { g with num := l } := by
  subst hn'
  have hb2 := (hf.block A.p (heap_lt h.box) h.np).trans h.box
  have hz := hf.size
  have hz3 := hs.size
  have hpq : blk a' ≠ some A.p := row_type hr hb2 (by decide)
  have hfo : Fr (own A) w w3 := (hf.mono fun q _ hq => .inr (.inr hq)).trans (Fr.stored hs) (fun x _ hx => .inl hx)
  have hr3 : Row w3 3 1 a' l.length (l.map (Value.int .i64)) c' := hr.keep fun q hq => hs.other (by show q ≠ A.p; rintro rfl; exact hpq hq)
  have hBp := h.bq A.p (.inl rfl)
  have hown : ∀ q, own { A with na := a', nc := c' } q → own A q ∨ w.heap.size ≤ q := by
    rintro q (hq | hq | hq)
    · exact .inl (.inl hq)
    · exact .inl (.inr (.inl hq))
    · exact (hnw q hq).elim (fun hh => .inl (.inr (.inr hh))) .inr
  refine ⟨⟨hs.heap hb2, ?_, hr3, fun hn => absurd hn hl0, fun q hq => ?_, by dsimp only; have := h.bw; omega, h.u.on (h.below hfo)⟩, rfl, rfl, rfl, hfo, fun q hq => ⟨?_, hown q hq⟩⟩
  · refine (h.row.keep fun q hq => hf.block q (h.row.lt hq) (fun hh => h.cn hh hq)).keep fun q hq => hs.other (by show q ≠ A.p; rintro rfl; exact h.cp hq)
  · rcases hown q hq with hh | hh
    · exact h.bq q hh
    · have := h.bw; dsimp only; omega
  · rcases hq with rfl | hq | hq
    · have := heap_lt h.box; dsimp only; omega
    · have := h.row.lt hq; omega
    · exact hr3.lt hq
theorem getD_nm {l : List Int} {i : Nat} (h : i < l.length) : l.getD i 0 = nmL l i := by
  unfold nmL; rw [List.getD_eq_getElem?_getD, List.getD_eq_getElem?_getD, List.getElem?_eq_getElem h]; rfl
theorem nm_mem {l : List Int} {i : Nat} (h : i < l.length) : nmL l i ∈ l := by
  unfold nmL; rw [List.getD_eq_getElem?_getD, List.getElem?_eq_getElem h]; exact List.getElem_mem h
theorem holdG_ok : sHoldG.Ok Tryd.prog 36 := by
  refine holdG_vc trivial ?_
  rintro ⟨A, g, r, f⟩ w ⟨hG, hF, hne⟩
  dsimp only at hG hF hne ⊢
  have hnl := hF.numl
  have hlen : 0 < g.num.length := by
    rcases Nat.eq_zero_or_pos g.num.length with h | h
    · exact absurd (List.eq_nil_of_length_eq_zero h) hne
    · exact h
  have hc11 : w.cell? ⟨A.p, 11, none⟩ = some (.slice A.na g.num.length A.nc) := (cell_of_heap hG.box 11).trans rfl
  refine ⟨_, _, _, hc11, inr_i64 (by omega) (by omega), bcase_mk (fun h => ⟨rfl, hG.old (k := 12) (by decide), hG.free 12, fun w1 hs => ⟨A, rfl, ?_⟩⟩) (fun h => bcase_mk (fun h1 => ?_) (fun h1 => bcase_mk (fun h2 => ?_) (fun h2 => ⟨rfl, hG.old (k := 13) (by decide), hG.free 13, fun w1 hs => ⟨A, rfl, ?_⟩⟩)))⟩
  · rw [Bool.and_eq_true, beq_iff_eq] at h
    have e : holdG g r f = { g with asked := true } := by unfold holdG; rw [if_pos h]
    rw [e]; exact gl_put hG hs rfl rfl rfl
  · have h0 : ¬ (r = 63 ∧ f = true) := fun hh => by rw [Bool.and_eq_false_iff, beq_eq_false_iff_ne] at h; rcases h with h | h; exact h hh.1; rw [hh.2] at h; cases h
    have h1 : r = 59 := beq_iff_eq.1 h1
    have e : holdG g r f = { g with num := g.num ++ [-1] } := by unfold holdG; rw [if_neg h0, if_pos h1]
    rw [e]
    refine ⟨_, _, _, hc11, ?_⟩
    intro b w1 hn
    obtain ⟨a', c', w2, hrun, hko, hrow, hg, hor, _⟩ := hG.num.pushN (P := Tryd.prog) (ty := 62) elem64 (by decide) (m := 1) (news := [.int .i64 (-1)]) hn rfl (by simp [Value.oneCell']) (by unfold maxLen; omega) (.inr (by omega))
    have hz := hn.size
    have hfr : Fr (fun q => blk A.na = some q) w w2 := (Fr.of_ext hn.ext).trans (Fr.grown hg) (fun x _ hx => hx)
    have hb2 := (hfr.block A.p (heap_lt hG.box) hG.np).trans hG.box
    refine ⟨a', c', w2, hrun, hko, rfl, ⟨_, by rw [cell_of_heap hb2]; rfl⟩, frozen_of_heap hb2 _, fun w3 hs => ⟨{ A with na := a', nc := c' }, rfl, ?_⟩⟩
    refine gl_more hG (l := g.num ++ [-1]) (by rw [List.length_append]; rfl) (by simp) (by rw [List.map_append]; exact hrow) hfr ?_ hs
    intro q hq
    rcases hor with rfl | ⟨rfl, _⟩
    · exact .inl hq
    · right; simp [blk] at hq; omega
  · have h0 : ¬ (r = 63 ∧ f = true) := fun hh => by rw [Bool.and_eq_false_iff, beq_eq_false_iff_ne] at h; rcases h with h | h; exact h hh.1; rw [hh.2] at h; cases h
    have h1 : ¬ r = 59 := beq_eq_false_iff_ne.1 h1
    rw [Bool.and_eq_true] at h2
    have h2a := of_decide_eq_true h2.1
    have h2b := of_decide_eq_true h2.2
    have e : holdG g r f = { g with num := g.num.set (g.num.length - 1) (min (max (nmL g.num (g.num.length - 1)) 0 * 10 + (r - 48)) 9999) } := by unfold holdG; rw [if_neg h0, if_neg h1, if_pos ⟨h2a, h2b⟩]
    rw [e]
    intro w1 hd
    have hG1 := hG.ext hd.ext
    have hlt : g.num.length - 1 < g.num.length := by omega
    have hb := hF.num _ (nm_mem hlt)
    have hgd := getD_nm hlt
    refine ⟨_, _, _, hc11, _, _, _, hc11, g.num.length - 1, by omega, hlt, hG.num.cells.int hlt fun b o hbo => ⟨_, hbo, ?_⟩⟩
    rw [hgd]
    generalize nmL g.num (g.num.length - 1) = n at hb ⊢
    have hm : 0 ≤ (if 0 > n then 0 else n) ∧ (if 0 > n then 0 else n) ≤ 9999 := by split <;> omega
    refine ⟨inr_i64 (by omega) (by omega), inr_i32 (by omega) (by omega), inr_i64 (by omega) (by omega), Ext.refl _, inr_i64 (by omega) (by omega), g.num.length - 1, by omega, hlt, ?_⟩
    obtain ⟨q, hq⟩ := row_some hG1.num hlen
    have hrow := hG1.num
    rw [hq] at hrow ⊢
    obtain ⟨k1, k2⟩ := hrow.can (j := 0 + (g.num.length - 1)) (by omega)
    refine ⟨rfl, k1, k2, fun w2 hs => ⟨A, rfl, (GlOut.ext hG hd.ext).trans ?_⟩⟩
    have hv : (if 9999 < (if 0 > n then 0 else n) * 10 + (r - 48) then 9999 else (if 0 > n then 0 else n) * 10 + (r - 48)) = min (max n 0 * 10 + (r - 48)) 9999 := by
      rw [show (if 0 > n then 0 else n) = max n 0 from by rw [Int.max_def]; split <;> split <;> omega, Int.min_def]
      split <;> split <;> omega
    rw [hv] at hs
    have hr := hrow.put hs
    rw [Nat.zero_add, ← List.map_set, ← hq] at hr
    exact gl_num hG1 List.length_set hr ((Fr.stored hs).mono fun y _ hy => by rw [hq, hy]; rfl)
  · have h0 : ¬ (r = 63 ∧ f = true) := fun hh => by rw [Bool.and_eq_false_iff, beq_eq_false_iff_ne] at h; rcases h with h | h; exact h hh.1; rw [hh.2] at h; cases h
    have h1 : ¬ r = 59 := beq_eq_false_iff_ne.1 h1
    have h2 : ¬ (48 ≤ r ∧ r ≤ 57) := fun hh => by rw [decide_eq_true (show r ≥ 48 from hh.1), decide_eq_true hh.2] at h2; cases h2
    have e : holdG g r f = { g with void := true } := by unfold holdG; rw [if_neg h0, if_neg h1, if_neg h2]
    rw [e]; exact gl_put hG hs rfl rfl rfl
theorem numG_ok : sNumG.Ok Tryd.prog 49 := by
  refine numG_vc trivial ?_
  rintro ⟨b, a, c, l, i⟩ w ⟨hb, hc⟩
  dsimp only at hb hc ⊢
  refine ⟨_, _, _, box_cell hb, bcase_mk (fun h => ?_) (fun h => ⟨_, rfl, ?_, rfl⟩)⟩
  · have hlt : i < l.length := by have := of_decide_eq_true h; omega
    exact ⟨_, _, _, box_cell hb, i, rfl, hlt, hc.int hlt fun b1 o1 hb1 => ⟨_, hb1, _, rfl, getD_nm hlt, rfl⟩⟩
  · have h := of_decide_eq_false h
    unfold nmL; rw [List.getD_eq_getElem?_getD, List.getElem?_eq_none (by omega)]; rfl
end Go.Proofs.YtjdohhididpomaaDoor
end

section
namespace Go.Proofs.YtjdohhididpomaaDoor
open Go Go.RowKit Vc Ut Tb Cl
theorem wear_fuel : ∀ (f f' : Nat) (l : List Int) (st : Nat), l.length ≤ f → l.length ≤ f' → wearF f l st = wearF f' l st
  | f, f', [], st, _, _ => by cases f <;> cases f' <;> simp [wearF]
  | 0, f', n :: l, st, h, _ => by simp at h
  | f + 1, 0, n :: l, st, _, h => by simp at h
  | f + 1, f' + 1, n :: l, st, h, h' => by
    simp only [List.length_cons] at h h'
    have ih := fun st => wear_fuel f f' l st (by omega) (by omega)
    simp only [wearF, ih]
    split
    · rfl
    split
    · rfl
    split
    · rfl
    split
    · rfl
    split
    · rfl
    cases l with
    | nil => rfl
    | cons a l =>
      cases l with
      | nil => rfl
      | cons k l' =>
        simp only [List.length_cons] at h h'
        have ih2 := fun st => wear_fuel f f' l' st (by omega) (by omega)
        simp only [ih2]
theorem or_u16 {a b : Nat} (ha : a < 65536) (hb : b < 65536) : IntKind.u16.wrap (((BitVec.ofInt IntKind.u16.bits (a : Int) ||| BitVec.ofInt IntKind.u16.bits (b : Int)).toNat : Nat) : Int) = ((a ||| b : Nat) : Int) := by
  have h : (BitVec.ofInt IntKind.u16.bits (a : Int) ||| BitVec.ofInt IntKind.u16.bits (b : Int)).toNat = a ||| b := by
    rw [BitVec.toNat_or, BitVec.ofInt_natCast, BitVec.ofInt_natCast, BitVec.toNat_ofNat, BitVec.toNat_ofNat]
    show (a % 65536) ||| (b % 65536) = _
    rw [Nat.mod_eq_of_lt ha, Nat.mod_eq_of_lt hb]
  rw [h]
  have h2 : a ||| b < 2 ^ 16 := Nat.or_lt_two_pow ha hb
  exact InR.wrap ⟨by show (0 : Int) ≤ _; omega, by show _ ≤ (65535 : Int); omega⟩
theorem or_lt {a b : Nat} (ha : a < 65536) (hb : b < 65536) : a ||| b < 65536 := Nat.or_lt_two_pow (n := 16) ha hb
theorem high_bits : ∀ i : Fin 16, Nat.testBit 65280 i.val = decide (8 ≤ i.val) := by decide
theorem not255 {a : Nat} (ha : a < 65536) : IntKind.u16.wrap (((BitVec.ofInt IntKind.u16.bits (a : Int) &&& ~~~BitVec.ofInt IntKind.u16.bits 255).toNat : Nat) : Int) = ((a / 256 * 256 : Nat) : Int) := by
  have hb : (~~~BitVec.ofInt IntKind.u16.bits 255 : BitVec IntKind.u16.bits) = BitVec.ofInt IntKind.u16.bits ((65280 : Nat) : Int) := by decide
  rw [hb, and_u16 ha (by decide)]
  congr 1
  apply Nat.eq_of_testBit_eq
  intro i
  rw [Nat.testBit_and]
  have e : a / 256 * 256 = (a >>> 8) <<< 8 := by rw [Nat.shiftRight_eq_div_pow, Nat.shiftLeft_eq]
  rw [e, Nat.testBit_shiftLeft, Nat.testBit_shiftRight]
  by_cases hi : i < 16
  · have := high_bits ⟨i, hi⟩
    dsimp only at this
    rw [this]
    by_cases h8 : 8 ≤ i
    · rw [decide_eq_true h8, show 8 + (i - 8) = i from by omega]; simp [h8]
    · rw [decide_eq_false h8]; simp [h8]
  · have h0 : a.testBit i = false := Nat.testBit_lt_two_pow (Nat.lt_of_lt_of_le ha (Nat.pow_le_pow_right (show 0 < 2 by decide) (show 16 ≤ i by omega)))
    rw [h0, show 8 + (i - 8) = i from by omega, h0]; simp
theorem low4095 {a : Nat} (ha : a < 65536) : IntKind.u16.wrap (((BitVec.ofInt IntKind.u16.bits (a : Int) &&& BitVec.ofInt IntKind.u16.bits 4095).toNat : Nat) : Int) = ((a % 4096 : Nat) : Int) := by
  rw [show (4095 : Int) = ((4095 : Nat) : Int) from rfl, and_u16 ha (by decide), show (4095 : Nat) = 2 ^ 12 - 1 from rfl, Nat.and_two_pow_sub_one_eq_mod]
theorem shl12 {k : Int} (h0 : 0 ≤ k) (h1 : k ≤ 15) : IntKind.u16.wrap (k * 2 ^ min (Int.toNat 12) IntKind.u16.bits) = ((k.toNat * 4096 : Nat) : Int) := by
  rw [show ((2 : Int) ^ min (Int.toNat 12) IntKind.u16.bits) = 4096 from rfl]
  rw [InR.wrap (k := .u16) (n := k * 4096) ⟨by show (0 : Int) ≤ _; omega, by show _ ≤ (65535 : Int); omega⟩]
  omega
theorem sl_blk {ad ad' : Option Addr} {m l z : Nat} (h : SlAt ad ad' m l z) : blk ad' = blk ad := by
  unfold SlAt at h
  subst h
  split
  · rfl
  · cases ad with
    | none => rfl
    | some a =>
      obtain ⟨b, o, sp⟩ := a
      cases sp <;> (simp only [Option.map, blk, Addr.add]; split <;> rfl)
theorem wg38 {A : GlP} {g : Gs} {w W : World} {k c s : Nat} {a : Option Addr} (hnp : blk A.na ≠ some A.p) (hnl : g.num.length ≤ 1099511627776) (hO : GlOut w W A A (styS g s)) (hs : s < 65536) (hc : CellsAt W a ((g.num.drop k).map (Value.int .i64))) (hbl : blk a = blk A.na) (hcap : g.num.length - k ≤ c)
    (hk3 : k + 2 < g.num.length) (h0 : 0 ≤ nmL g.num (k + 2)) (h1 : nmL g.num (k + 2) ≤ 255) (hw : wearF (g.num.length - (k + 1)) (g.num.drop (k + 3)) (s / 256 * 256 ||| (nmL g.num (k + 2)).toNat) = wearL g.num g.sty) :
    ∃ n5 : Int, W.cell? ⟨A.p, 7, none⟩ = some (.int .u16 n5) ∧ true = true ∧ (∃ old, W.cell? ⟨A.p, 7, none⟩ = some old) ∧ W.frozen? ⟨A.p, 7, none⟩ = false ∧
      ∀ w1, Stored W ⟨A.p, 7, none⟩ (.int .u16 (IntKind.u16.wrap (((BitVec.ofInt IntKind.u16.bits n5 &&& ~~~BitVec.ofInt IntKind.u16.bits 255).toNat : Nat) : Int))) w1 → ∀ w11, Drew w1 w11 →
      ∃ n6 : Int, w1.cell? ⟨A.p, 7, none⟩ = some (.int .u16 n6) ∧ ∃ k5 : Nat, (2 : Int) = (k5 : Int) ∧ k5 < g.num.length - k ∧ ptrE a fun b5 o5 => ∃ n7 : Int, w1.cell? ⟨b5, o5 + k5, none⟩ = some (.int .i64 n7) ∧ InR .u16 n7 ∧ Below w11.heap.size w11 w11 ∧ true = true ∧
        (∃ old, w11.cell? ⟨A.p, 7, none⟩ = some old) ∧ w11.frozen? ⟨A.p, 7, none⟩ = false ∧
        ∀ w12, Stored w11 ⟨A.p, 7, none⟩ (.int .u16 (IntKind.u16.wrap (((BitVec.ofInt IntKind.u16.bits n6 ||| BitVec.ofInt IntKind.u16.bits n7).toNat : Nat) : Int))) w12 →
        ∃ ln : Nat, (2 : Int) = (ln : Int) ∧ ln ≤ g.num.length - k ∧ ∀ ad', SlAt a ad' c ln 1 → ∃ c1 : WgX, Value.slice ad' (g.num.length - k - ln) (c - ln) = Value.slice c1.a (g.num.length - c1.k) c1.c ∧ wgJ ⟨A, g⟩ w c1 w12 ∧ g.num.length - c1.k ≤ slLen (Value.slice a (g.num.length - k) c) := by
  refine ⟨s, (cell_of_heap hO.is.box 7).trans rfl, rfl, hO.is.old (k := 7) (by decide), hO.is.free 7, fun w1 hs1 w11 hd => ?_⟩
  rw [not255 hs] at hs1
  have hO1 := hO.trans (gl_put (g' := styS g (s / 256 * 256)) hO.is hs1 rfl rfl rfl)
  have hc1 : CellsAt w1 a ((g.num.drop k).map (Value.int .i64)) := hc.keep fun q hq => hs1.other (by show q ≠ A.p; rintro rfl; rw [hbl] at hq; exact hnp hq)
  have hO11 := hO1.trans (GlOut.ext hO1.is hd.ext)
  have hgd : (g.num.drop k).getD 2 0 = nmL g.num (k + 2) := by
    rw [← getD_nm hk3, List.getD_eq_getElem?_getD, List.getElem?_drop, List.getD_eq_getElem?_getD]
  refine ⟨((s / 256 * 256 : Nat) : Int), (cell_of_heap hO1.is.box 7).trans rfl, 2, rfl, by omega, hc1.int (by rw [List.length_drop]; omega) fun b5 o5 hb5 => ⟨_, hb5, ?_⟩⟩
  rw [hgd]
  refine ⟨⟨by show (0 : Int) ≤ _; omega, by show _ ≤ (65535 : Int); omega⟩, Ext.refl _, rfl, hO11.is.old (k := 7) (by decide), hO11.is.free 7, fun w12 hs12 => ⟨2, rfl, by omega, fun ad' hsl => ⟨⟨k + 2, ad', c - 2, s / 256 * 256 ||| (nmL g.num (k + 2)).toNat⟩, by dsimp only; rw [show g.num.length - k - 2 = g.num.length - (k + 2) from by omega], ⟨hk3, ?_, ?_, ?_, ?_, ?_, ?_⟩, by show g.num.length - (k + 2) ≤ g.num.length - k; omega⟩⟩⟩
  · rw [show nmL g.num (k + 2) = (((nmL g.num (k + 2)).toNat : Nat) : Int) from (Int.toNat_of_nonneg h0).symm, or_u16 (by omega) (by omega)] at hs12
    exact hO11.trans (gl_put (g' := styS g (s / 256 * 256 ||| (nmL g.num (k + 2)).toNat)) hO11.is hs12 rfl rfl rfl)
  · exact or_lt (by omega) (by omega)
  · have hc12 : CellsAt w12 a ((g.num.drop k).map (Value.int .i64)) := (hc1.ext hd.ext).keep fun q hq => hs12.other (by show q ≠ A.p; rintro rfl; rw [hbl] at hq; exact hnp hq)
    have := hc12.drop (s := 1) hsl (by omega) (by rw [List.length_map, List.length_drop]; omega)
    rw [← List.map_drop, List.drop_drop] at this
    exact this
  · rw [sl_blk hsl, hbl]
  · show g.num.length - (k + 2) ≤ c - 2; omega
  · rw [← hw]; exact wear_fuel _ _ _ _ (by show (g.num.drop (k + 2 + 1)).length ≤ g.num.length - (k + 2 + 1); rw [List.length_drop]; omega) (by show (g.num.drop (k + 3)).length ≤ g.num.length - (k + 1); rw [List.length_drop]; omega)
theorem wg48 {A : GlP} {g : Gs} {w W : World} {k c s : Nat} {a : Option Addr} (hnp : blk A.na ≠ some A.p) (hnl : g.num.length ≤ 1099511627776) (hO : GlOut w W A A (styS g s)) (hs : s < 65536) (hc : CellsAt W a ((g.num.drop k).map (Value.int .i64))) (hbl : blk a = blk A.na) (hcap : g.num.length - k ≤ c)
    (hk3 : k + 2 < g.num.length) (h0 : 0 ≤ nmL g.num (k + 2)) (h1 : nmL g.num (k + 2) ≤ 15) (hw : wearF (g.num.length - (k + 1)) (g.num.drop (k + 3)) (s % 4096 ||| (nmL g.num (k + 2)).toNat * 4096) = wearL g.num g.sty) :
    ∃ n5 : Int, W.cell? ⟨A.p, 7, none⟩ = some (.int .u16 n5) ∧ true = true ∧ (∃ old, W.cell? ⟨A.p, 7, none⟩ = some old) ∧ W.frozen? ⟨A.p, 7, none⟩ = false ∧
      ∀ w1, Stored W ⟨A.p, 7, none⟩ (.int .u16 (IntKind.u16.wrap (((BitVec.ofInt IntKind.u16.bits n5 &&& BitVec.ofInt IntKind.u16.bits 4095).toNat : Nat) : Int))) w1 → ∀ w11, Drew w1 w11 →
      ∃ n6 : Int, w1.cell? ⟨A.p, 7, none⟩ = some (.int .u16 n6) ∧ ∃ k5 : Nat, (2 : Int) = (k5 : Int) ∧ k5 < g.num.length - k ∧ ptrE a fun b5 o5 => ∃ n7 : Int, w1.cell? ⟨b5, o5 + k5, none⟩ = some (.int .i64 n7) ∧ InR .u16 n7 ∧ Below w11.heap.size w11 w11 ∧ true = true ∧
        (∃ old, w11.cell? ⟨A.p, 7, none⟩ = some old) ∧ w11.frozen? ⟨A.p, 7, none⟩ = false ∧
        ∀ w12, Stored w11 ⟨A.p, 7, none⟩ (.int .u16 (IntKind.u16.wrap (((BitVec.ofInt IntKind.u16.bits n6 ||| BitVec.ofInt IntKind.u16.bits (IntKind.u16.wrap (n7 * 2 ^ min (Int.toNat 12) IntKind.u16.bits))).toNat : Nat) : Int))) w12 →
        ∃ ln : Nat, (2 : Int) = (ln : Int) ∧ ln ≤ g.num.length - k ∧ ∀ ad', SlAt a ad' c ln 1 → ∃ c1 : WgX, Value.slice ad' (g.num.length - k - ln) (c - ln) = Value.slice c1.a (g.num.length - c1.k) c1.c ∧ wgJ ⟨A, g⟩ w c1 w12 ∧ g.num.length - c1.k ≤ slLen (Value.slice a (g.num.length - k) c) := by
  refine ⟨s, (cell_of_heap hO.is.box 7).trans rfl, rfl, hO.is.old (k := 7) (by decide), hO.is.free 7, fun w1 hs1 w11 hd => ?_⟩
  rw [low4095 hs] at hs1
  have hO1 := hO.trans (gl_put (g' := styS g (s % 4096)) hO.is hs1 rfl rfl rfl)
  have hc1 : CellsAt w1 a ((g.num.drop k).map (Value.int .i64)) := hc.keep fun q hq => hs1.other (by show q ≠ A.p; rintro rfl; rw [hbl] at hq; exact hnp hq)
  have hO11 := hO1.trans (GlOut.ext hO1.is hd.ext)
  have hgd : (g.num.drop k).getD 2 0 = nmL g.num (k + 2) := by
    rw [← getD_nm hk3, List.getD_eq_getElem?_getD, List.getElem?_drop, List.getD_eq_getElem?_getD]
  refine ⟨((s % 4096 : Nat) : Int), (cell_of_heap hO1.is.box 7).trans rfl, 2, rfl, by omega, hc1.int (by rw [List.length_drop]; omega) fun b5 o5 hb5 => ⟨_, hb5, ?_⟩⟩
  rw [hgd]
  refine ⟨⟨by show (0 : Int) ≤ _; omega, by show _ ≤ (65535 : Int); omega⟩, Ext.refl _, rfl, hO11.is.old (k := 7) (by decide), hO11.is.free 7, fun w12 hs12 => ⟨2, rfl, by omega, fun ad' hsl => ⟨⟨k + 2, ad', c - 2, s % 4096 ||| (nmL g.num (k + 2)).toNat * 4096⟩, by dsimp only; rw [show g.num.length - k - 2 = g.num.length - (k + 2) from by omega], ⟨hk3, ?_, ?_, ?_, ?_, ?_, ?_⟩, by show g.num.length - (k + 2) ≤ g.num.length - k; omega⟩⟩⟩
  · rw [shl12 h0 h1, or_u16 (by omega) (by omega)] at hs12
    exact hO11.trans (gl_put (g' := styS g (s % 4096 ||| (nmL g.num (k + 2)).toNat * 4096)) hO11.is hs12 rfl rfl rfl)
  · exact or_lt (by omega) (by omega)
  · have hc12 : CellsAt w12 a ((g.num.drop k).map (Value.int .i64)) := (hc1.ext hd.ext).keep fun q hq => hs12.other (by show q ≠ A.p; rintro rfl; rw [hbl] at hq; exact hnp hq)
    have := hc12.drop (s := 1) hsl (by omega) (by rw [List.length_map, List.length_drop]; omega)
    rw [← List.map_drop, List.drop_drop] at this
    exact this
  · rw [sl_blk hsl, hbl]
  · show g.num.length - (k + 2) ≤ c - 2; omega
  · rw [← hw]; exact wear_fuel _ _ _ _ (by show (g.num.drop (k + 2 + 1)).length ≤ g.num.length - (k + 2 + 1); rw [List.length_drop]; omega) (by show (g.num.drop (k + 3)).length ≤ g.num.length - (k + 1); rw [List.length_drop]; omega)
set_option maxRecDepth 4000 in
theorem wearG_ok : sWearG.Ok Tryd.prog 50 := by
  refine wearG_vc trivial ?_
  rintro ⟨A, g⟩ w ⟨hG, hF⟩
  dsimp only at hG hF ⊢
  have hnl := hF.numl
  have hsty := hF.sty
  have hnp := hG.np
  refine ⟨⟨⟨0, A.na, A.nc, g.sty⟩, by rw [Nat.sub_zero], Nat.zero_le _, GlOut.refl hG, hsty, by rw [List.drop_zero]; exact hG.num.cells, rfl, by rw [Nat.sub_zero]; exact hG.num.le.1, by rw [Nat.sub_zero, List.drop_zero]; rfl⟩, ?_⟩
  rintro _ ⟨k, a, c, s⟩ W ⟨hk, hO, hs, hc, hbl, hcap, hw⟩
  dsimp only at hk hO hs hc hbl hcap hw ⊢
  refine bcase_mk (fun h => ?_) (fun h => ⟨A, rfl, ?_⟩)
  rotate_left
  · have h := of_decide_eq_false h
    have hk : k = g.num.length := by omega
    rw [hk, Nat.sub_self, List.drop_length] at hw
    rw [← hw]
    exact hO
  have hlt : k < g.num.length := by have := of_decide_eq_true h; omega
  clear h
  have hgd : ∀ j, k + j < g.num.length → (g.num.drop k).getD j 0 = nmL g.num (k + j) := fun j hj => by
    rw [← getD_nm hj, List.getD_eq_getElem?_getD, List.getElem?_drop, List.getD_eq_getElem?_getD]
  have hn := hF.num _ (nm_mem hlt)
  have hdr : g.num.drop k = nmL g.num k :: g.num.drop (k + 1) := by
    rw [List.drop_eq_getElem_cons hlt, ← getD_nm hlt, List.getD_eq_getElem?_getD, List.getElem?_eq_getElem hlt]; rfl
  have hst : wearF (g.num.length - (k + 1) + 1) (nmL g.num k :: g.num.drop (k + 1)) s = wearL g.num g.sty := by
    rw [← hdr, show g.num.length - (k + 1) + 1 = g.num.length - k from by omega]; exact hw
  have hgd0 := hgd 0 hlt
  have fin : ∀ {W' : World}, GlOut w W' A A (styS g s) → CellsAt W' a ((g.num.drop k).map (Value.int .i64)) → wearF (g.num.length - (k + 1)) (g.num.drop (k + 1)) s = wearL g.num g.sty →
      ∃ c1 : WgX, Value.slice a (g.num.length - k) c = Value.slice c1.a (g.num.length - c1.k) c1.c ∧ wgJ ⟨A, g⟩ w c1 W' ∧ g.num.length - c1.k ≤ slLen (Value.slice a (g.num.length - k) c) :=
    fun hO' hc' hw' => ⟨⟨k, a, c, s⟩, rfl, ⟨hlt, hO', hs, hc', hbl, hcap, hw'⟩, Nat.le_refl _⟩
  have put : ∀ {W1 W2 : World} {s' : Nat}, GlOut w W1 A A (styS g s) → CellsAt W1 a ((g.num.drop k).map (Value.int .i64)) → Stored W1 ⟨A.p, 7, none⟩ (.int .u16 (s' : Int)) W2 → s' < 65536 → wearF (g.num.length - (k + 1)) (g.num.drop (k + 1)) s' = wearL g.num g.sty →
      ∃ c1 : WgX, Value.slice a (g.num.length - k) c = Value.slice c1.a (g.num.length - c1.k) c1.c ∧ wgJ ⟨A, g⟩ w c1 W2 ∧ g.num.length - c1.k ≤ slLen (Value.slice a (g.num.length - k) c) :=
    fun {W1 W2 s'} hO' hc' hs' hlt' hw' => ⟨⟨k, a, c, s'⟩, rfl, ⟨hlt, hO'.trans (gl_put hO'.is hs' rfl rfl rfl), hlt', hc'.keep fun q hq => hs'.other (by show q ≠ A.p; rintro rfl; rw [hbl] at hq; exact hnp hq), hbl, hcap, hw'⟩, Nat.le_refl _⟩
  refine ⟨0, rfl, by omega, hc.int (by rw [List.length_drop]; omega) fun b o hb => ⟨_, hb, ?_, ?_⟩⟩
  · rw [hgd0]
    rw [Nat.add_zero]
    generalize hnn : nmL g.num k = n at hn hst ⊢
    simp only [wearF] at hst
    refine bcase_mk (fun h1 => ⟨rfl, hO.is.old (k := 7) (by decide), hO.is.free 7, fun w1 hs1 => ?_⟩) (fun h1 => bcase_mk (fun h2 => ⟨s, (cell_of_heap hO.is.box 7).trans rfl, rfl, hO.is.old (k := 7) (by decide), hO.is.free 7, fun w1 hs1 => ?_⟩) (fun h2 => ?_))
    · have h1 : n = -1 ∨ n = 0 := by simpa using h1
      rw [if_pos h1] at hst
      exact put (s' := 0) hO hc hs1 (by decide) hst
    · have h1 : ¬ (n = -1 ∨ n = 0) := by simpa using h1
      have h2 : n = 1 := beq_iff_eq.1 h2
      rw [if_neg h1, if_pos h2] at hst
      rw [show (256 : Int) = ((256 : Nat) : Int) from rfl, or_u16 hs (by decide)] at hs1
      exact put hO hc hs1 (or_lt hs (by decide)) hst
    have h1 : ¬ (n = -1 ∨ n = 0) := by simpa using h1
    have h2 : ¬ n = 1 := beq_eq_false_iff_ne.1 h2
    rw [if_neg h1, if_neg h2] at hst
    have hnt : n = ((n.toNat : Nat) : Int) := (Int.toNat_of_nonneg (by omega)).symm
    refine ⟨⟨n.toNat, by rw [← hnt], by rw [← hnt], by rw [← hnt], rfl, hnt⟩, ?_⟩
    rintro _ m W1 ⟨hW1, hm⟩
    replace hW1 := hW1.symm; subst hW1
    refine bcase_mk (fun h3 => ?_) (fun h3 => bcase_mk (fun h4 => ⟨s, (cell_of_heap hO.is.box 7).trans rfl, rfl, hO.is.old (k := 7) (by decide), hO.is.free 7, fun w1 hs1 => ?_⟩) (fun h4 => ?_))
    · intro w1 hd
      have hO1 := hO.trans (GlOut.ext hO.is hd.ext)
      refine ⟨s, (cell_of_heap hO.is.box 7).trans rfl, inr_i64 (by omega) (by omega), rfl, hO1.is.old (k := 7) (by decide), hO1.is.free 7, fun w2 hs2 => ?_⟩
      rw [Bool.or_eq_true, beq_iff_eq, beq_iff_eq] at h3
      rcases h3 with h3 | h3
      · have h3' : n = 3 := by omega
        have hm3 : m = 3 := by omega
        subst hm3
        rw [if_pos h3'] at hst
        rw [show IntKind.u16.wrap (1 * 2 ^ min (6 + ((3 : Nat) : Int)).toNat IntKind.u16.bits) = ((512 : Nat) : Int) from rfl, or_u16 hs (by decide)] at hs2
        exact put hO1 (hc.ext hd.ext) hs2 (or_lt hs (by decide)) hst
      · have h3' : ¬ n = 3 := by omega
        have h4' : n = 4 := by omega
        have hm4 : m = 4 := by omega
        subst hm4
        rw [if_neg h3', if_pos h4'] at hst
        rw [show IntKind.u16.wrap (1 * 2 ^ min (6 + ((4 : Nat) : Int)).toNat IntKind.u16.bits) = ((1024 : Nat) : Int) from rfl, or_u16 hs (by decide)] at hs2
        exact put hO1 (hc.ext hd.ext) hs2 (or_lt hs (by decide)) hst
    · rw [Bool.or_eq_false_iff, beq_eq_false_iff_ne, beq_eq_false_iff_ne] at h3
      have h4 : n = 7 := by rw [hm]; exact beq_iff_eq.1 h4
      rw [if_neg (by omega), if_neg (by omega), if_pos h4] at hst
      rw [show (2048 : Int) = ((2048 : Nat) : Int) from rfl, or_u16 hs (by decide)] at hs1
      exact put hO hc hs1 (or_lt hs (by decide)) hst
    rw [Bool.or_eq_false_iff, beq_eq_false_iff_ne, beq_eq_false_iff_ne] at h3
    have h4 : ¬ n = 7 := by rw [hm]; exact beq_eq_false_iff_ne.1 h4
    rw [if_neg (by omega), if_neg (by omega), if_neg h4] at hst
    refine bcase_mk (fun h5 => ?_) (fun h5 => fin hO hc ?_)
    rotate_left
    · rw [Bool.or_eq_false_iff, beq_eq_false_iff_ne, beq_eq_false_iff_ne] at h5
      rw [← hst]
      split
      · rw [if_neg (fun hh => by omega), if_neg (fun hh => by omega)]
      · rfl
    rw [Bool.or_eq_true, beq_iff_eq, beq_iff_eq] at h5
    refine bcase_mk (fun h6 => fin hO hc ?_) (fun h6 => ?_)
    · have h6 := of_decide_eq_true h6
      rw [← hst]
      split
      · rename_i a1 a2 a3 hl
        exfalso
        have := congrArg List.length hl
        rw [List.length_drop] at this
        simp only [List.length_cons] at this
        omega
      · rfl
    have h6 := of_decide_eq_false h6
    have k1 : k + 1 < g.num.length := by omega
    have k2 : k + 2 < g.num.length := by omega
    have hd1 : g.num.drop (k + 1) = nmL g.num (k + 1) :: nmL g.num (k + 2) :: g.num.drop (k + 3) := by
      rw [List.drop_eq_getElem_cons k1, List.drop_eq_getElem_cons k2, ← getD_nm k1, ← getD_nm k2, List.getD_eq_getElem?_getD, List.getD_eq_getElem?_getD, List.getElem?_eq_getElem k1, List.getElem?_eq_getElem k2]; rfl
    have hst2 := hst
    rw [hd1] at hst2
    dsimp only at hst2
    rw [← hd1] at hst2
    refine ⟨1, rfl, by omega, hc.int (by rw [List.length_drop]; omega) fun b1 o1 hb1 => ⟨_, hb1, ?_⟩⟩
    rw [hgd 1 k1]
    refine bcase_mk (fun h7 => fin hO hc ?_) (fun h7 => ?_)
    · have h7 := bne_iff_ne.1 h7
      rw [if_neg (fun hh => h7 hh.2.1), if_neg (fun hh => h7 hh.2.1)] at hst2
      exact hst2
    have h7 := bne_eq_false_iff_eq.1 h7
    refine ⟨2, rfl, by omega, hc.int (by rw [List.length_drop]; omega) fun b2 o2 hb2 => ⟨_, hb2, ?_⟩⟩
    rw [hgd 2 k2]
    refine bcase_mk (fun h8 => fin hO hc ?_) (fun h8 => ?_)
    · have h8 := of_decide_eq_true h8
      rw [if_neg (fun hh => by omega), if_neg (fun hh => by omega)] at hst2
      exact hst2
    have h8 := of_decide_eq_false h8
    have c2 : ∀ {K : Int → Prop}, K (nmL g.num (k + 2)) → ∃ k3 : Nat, (2 : Int) = (k3 : Int) ∧ k3 < g.num.length - k ∧ ptrE a fun b3 o3 => ∃ n3 : Int, W.cell? ⟨b3, o3 + k3, none⟩ = some (.int .i64 n3) ∧ K n3 :=
      fun hK => ⟨2, rfl, by omega, hc.int (by rw [List.length_drop]; omega) fun b3 o3 hb3 => ⟨_, hb3, by rw [hgd 2 k2]; exact hK⟩⟩
    have d38 := fun (h38 : n = 38) (hle : nmL g.num (k + 2) ≤ 255) => wg38 hnp hnl hO hs hc hbl hcap k2 (by omega) hle (by rw [if_pos ⟨h38, h7, by omega, hle⟩] at hst2; exact hst2)
    have d48 := fun (h48 : n = 48) (hle : nmL g.num (k + 2) ≤ 15) => wg48 hnp hnl hO hs hc hbl hcap k2 (by omega) hle (by rw [if_neg (fun hh => by omega), if_pos ⟨h48, h7, by omega, hle⟩] at hst2; exact hst2)
    refine bcase_mk (fun h9 => c2 (bcase_mk (fun h10 => fin hO hc ?_) (fun h10 => bcase_mk (fun h11 => ?_) (fun h11 => bcase_mk (fun h12 => d38 (by rw [hm]; exact beq_iff_eq.1 h9) (by have := of_decide_eq_false h10; omega)) (fun h12 => ?_))))) (fun h9 => bcase_mk (fun h11 => c2 (bcase_mk (fun h10 => fin hO hc ?_) (fun h10 => bcase_mk (fun h12 => ?_) (fun h12 => d48 (by rw [hm]; exact beq_iff_eq.1 h11) (by have := of_decide_eq_false h10; omega))))) (fun h11 => ?_))
    · have h9 := beq_iff_eq.1 h9
      have h10 := of_decide_eq_true h10
      rw [if_neg (fun hh => by omega), if_neg (fun hh => by omega)] at hst2
      exact hst2
    · exfalso; have h9 := beq_iff_eq.1 h9; have h11 := beq_iff_eq.1 h11; omega
    · exfalso; rw [h9] at h12; cases h12
    · have h9 := beq_eq_false_iff_ne.1 h9
      have h10 := of_decide_eq_true h10
      rw [if_neg (fun hh => by omega), if_neg (fun hh => by omega)] at hst2
      exact hst2
    · exfalso; rw [h9] at h12; cases h12
    · exfalso; have h9 := beq_eq_false_iff_ne.1 h9; have h11 := beq_eq_false_iff_ne.1 h11; omega
  rintro _ ⟨k', a', c', s'⟩ W' ⟨⟨hk', hO', hs', hc', hbl', hcap', hw'⟩, hle⟩
  dsimp only at hk' hO' hs' hc' hbl' hcap' hw' hle ⊢
  have hle : g.num.length - k' ≤ g.num.length - k := hle
  refine ⟨1, rfl, by omega, fun ad' hsl => ⟨⟨k' + 1, ad', c' - 1, s'⟩, by dsimp only; rw [show g.num.length - k' - 1 = g.num.length - (k' + 1) from by omega], ⟨hk', hO', hs', ?_, by rw [sl_blk hsl, hbl'], by show g.num.length - (k' + 1) ≤ c' - 1; omega, hw'⟩, by dsimp only; omega⟩⟩
  have := hc'.drop (s := 1) hsl (by omega) (by rw [List.length_map, List.length_drop]; omega)
  rw [← List.map_drop, List.drop_drop] at this
  exact this
end Go.Proofs.YtjdohhididpomaaDoor
end
