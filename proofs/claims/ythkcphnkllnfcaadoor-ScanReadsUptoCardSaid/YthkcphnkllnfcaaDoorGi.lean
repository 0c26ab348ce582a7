/-
  Facts on a function's own variables and on rounds of ranges over functions.
-/
import Derived.Test.YthkcphnkllnfcaaDoorGn
set_option linter.unusedVariables false
set_option linter.unusedSimpArgs false
namespace Go.Proofs.YthkcphnkllnfcaaDoor.Vc
open Go Go.RowKit

theorem Stored.box {w w1 : World} {b : Nat} {u v : Value} {t : TypeId} (hs : Stored w ⟨b, 0, none⟩ v w1) (h : w.heap[b]? = some (.cells #[u] t)) : w1.heap[b]? = some (.cells #[v] t) := by
  have := hs.heap h
  simpa using this
theorem box_cell {w : World} {b : Nat} {v : Value} {t : TypeId} (h : w.heap[b]? = some (.cells #[v] t)) : w.cell? ⟨b, 0, none⟩ = some v := by
  rw [cell_of_heap h]; rfl
theorem box_old {w : World} {b : Nat} {v : Value} {t : TypeId} (h : w.heap[b]? = some (.cells #[v] t)) : ∃ old, w.cell? ⟨b, 0, none⟩ = some old := ⟨v, box_cell h⟩
theorem box_free {w : World} {b : Nat} {v : Value} {t : TypeId} (h : w.heap[b]? = some (.cells #[v] t)) : w.frozen? ⟨b, 0, none⟩ = false := frozen_of_heap h _
theorem heap_lt {w : World} {b : Nat} {o : Obj} (h : w.heap[b]? = some o) : b < w.heap.size := (Array.getElem?_eq_some_iff.1 h).1

theorem Step.stored {D : Nat → Prop} {W W1 : World} {p : Addr} {v : Value} (hs : Stored W p v W1) (hD : D p.block) (hdom : ∀ q, D q → q < W.heap.size) : Step D W W1 D :=
  ⟨(Fr.stored hs).mono (fun x _ hx => by subst hx; exact hD), fun q hq => ⟨by rw [hs.size]; exact hdom q hq, .inl hq⟩⟩
theorem Step.refl {D : Nat → Prop} {W : World} (hdom : ∀ q, D q → q < W.heap.size) : Step D W W D := ⟨Fr.refl _ _, fun q hq => ⟨hdom q hq, .inl hq⟩⟩
theorem Step.trans {D D1 D2 : Nat → Prop} {a b c : World} (h : Step D a b D1) (k : Step D1 b c D2) : Step D a c D2 :=
  ⟨h.fr.trans k.fr (fun x hx hd => ((h.dom x hd).2).elim id (fun h2 => by omega)), fun q hq => ⟨(k.dom q hq).1, (k.dom q hq).2.elim (fun h1 => ((h.dom q h1).2)) (fun h2 => .inr (Nat.le_trans h.fr.size h2))⟩⟩
theorem Step.ext {D : Nat → Prop} {W W1 : World} (hx : Ext W W1) (hdom : ∀ q, D q → q < W.heap.size) : Step D W W1 D := ⟨Fr.of_ext hx, fun q hq => ⟨Nat.lt_of_lt_of_le (hdom q hq) hx.size, .inl hq⟩⟩
theorem Mid.step {w W W1 : World} {D0 D D' : Nat → Prop} (h : Mid w D0 D W) (k : Step D W W1 D') : Mid w D0 D' W1 :=
  ⟨h.fr.trans k.fr (fun x hx hd => ((h.dom x hd).2).elim id (fun h2 => by omega)), fun q hq => ⟨(k.dom q hq).1, (k.dom q hq).2.elim (fun h1 => (h.dom q h1).2) (fun h2 => .inr (Nat.le_trans h.fr.size h2))⟩⟩
theorem Mid.lt {w W : World} {D0 D : Nat → Prop} (h : Mid w D0 D W) : ∀ q, D q → q < W.heap.size := fun q hq => (h.dom q hq).1
theorem Mid.old {w W : World} {D0 D : Nat → Prop} (h : Mid w D0 D W) {b : Nat} (hb : b < w.heap.size) (h0 : ¬ D0 b) : W.heap[b]? = w.heap[b]? := h.fr.block b hb h0
theorem Mid.start {w W : World} {D0 : Nat → Prop} (h : Ext w W) (hd : ∀ q, D0 q → q < w.heap.size) : Mid w D0 D0 W := ⟨Fr.of_ext h, fun q hq => ⟨Nat.lt_of_lt_of_le (hd q hq) h.size, .inl hq⟩⟩
/-- The iterator's own step. -/
theorem Mid.own {w W W1 : World} {D0 D : Nat → Prop} {S : Nat → Prop} (h : Mid w D0 D W) (hf : Fr S W W1) (hS : ∀ q, S q → w.heap.size ≤ q) : Mid w D0 D W1 :=
  ⟨h.fr.trans hf (fun x hx hs => by have := hS x hs; omega), fun q hq => ⟨Nat.lt_of_lt_of_le (h.dom q hq).1 hf.size, (h.dom q hq).2⟩⟩
theorem Nexted.fr {w w1 : World} {r i : Nat} {s : ByteArray} (h : Nexted w r s i w1) : Fr (fun q => q = r) w w1 := by
  subst h; exact Fr.putObj w r _
/-- What only new blocks and these have turned. -/
theorem Mid.ext {w0 w W : World} {D0 D : Nat → Prop} (h : Mid w D0 D W) (hx : Ext w0 w) (h0 : ∀ q, D0 q → w0.heap.size ≤ q) : Ext w0 W :=
  Below.trans hx (h.fr.below hx.size (fun q hq hd => by have := h0 q hd; omega))
theorem Ext.turn {w0 w w2 : World} (h : Ext w0 w) (ht : Turn w0.heap.size w w2) : Ext w0 w2 := Below.trans h ht.ext
theorem Ext.stored {w0 w w1 : World} {p : Addr} {v : Value} (h : Ext w0 w) (hs : Stored w p v w1) (hp : w0.heap.size ≤ p.block) : Ext w0 w1 := hs.below h hp
/-- A slice that was there, behind changes of blocks of one's own. -/
theorem CellsAt.mid {w0 w W : World} {S : Nat → Prop} {ad : Option Addr} {vs : List Value} (h : CellsAt w0 ad vs) (hx : Ext w0 w) (hf : Fr S w W) (hS : ∀ q, q < w0.heap.size → ¬ S q) : CellsAt W ad vs := by
  rcases h with h | ⟨b, o, h1, h2⟩
  · exact .inl h
  · refine .inr ⟨b, o, h1, fun j v hv => ?_⟩
    have hc := h2 j v hv
    have hb : b < w0.heap.size := World.block_lt_of_cell? w0 _ hc
    exact (World.cell?_of_block (w := w) (hf.block b (Nat.lt_of_lt_of_le hb hx.size) (hS b hb))).trans (hx.cell hc)

end Go.Proofs.YthkcphnkllnfcaaDoor.Vc
