/-
  A variable that holds a list of one's own, within rounds.
-/
import Derived.Test.YthkcphnkllnfcaaDoorGi
import Derived.Test.YthkcphnkllnfcaaDoorSpR
set_option linter.unusedVariables false
set_option linter.unusedSimpArgs false
namespace Go.Proofs.YthkcphnkllnfcaaDoor.Vc
open Go Go.RowKit

/-- A variable of the function's own, filled at once. -/
theorem new_box {w w1 : World} {u : Value} {t : TypeId} {b : Nat} (h : New w (.cells #[u] t) b w1) :
    (∃ old, w1.cell? ⟨b, 0, none⟩ = some old) ∧ w1.frozen? ⟨b, 0, none⟩ = false ∧ ∀ {v : Value} {w2 : World}, Stored w1 ⟨b, 0, none⟩ v w2 → Ext w w2 ∧ w2.heap[b]? = some (.cells #[v] t) ∧ b = w.heap.size ∧ w2.heap.size = b + 1 := by
  refine ⟨box_old h.heap, box_free h.heap, fun {v w2} hs => ?_⟩
  have := h.size
  refine ⟨h.ext.stored hs (by show _ ≤ b; omega), hs.box h.heap, this.1, by rw [hs.size]; omega⟩

theorem _root_.Go.Proofs.YthkcphnkllnfcaaDoor.Grow.keep {W W' : World} {box : Nat} {t e : TypeId} {a : Option Addr} {c : Nat} {vs : List Value} (h : Grow W box t e a c vs) (hk : ∀ q, q = box ∨ blk a = some q → W'.heap[q]? = W.heap[q]?) : Grow W' box t e a c vs :=
  ⟨(hk box (.inl rfl)).trans h.hb, h.row.keep fun g hg => hk g (.inr hg)⟩
theorem _root_.Go.Proofs.YthkcphnkllnfcaaDoor.Grow.fr {S : Nat → Prop} {W W' : World} {box : Nat} {t e : TypeId} {a : Option Addr} {c : Nat} {vs : List Value} (h : Grow W box t e a c vs) (hf : Fr S W W') (hS : ∀ q, q = box ∨ blk a = some q → ¬ S q) : Grow W' box t e a c vs :=
  h.keep fun q hq => hf.block q (hq.elim (fun e => by rw [e]; exact heap_lt h.hb) (fun e => h.row.lt e)) (hS q hq)
theorem _root_.Go.Proofs.YthkcphnkllnfcaaDoor.Grow.ext {W W' : World} {box : Nat} {t e : TypeId} {a : Option Addr} {c : Nat} {vs : List Value} (h : Grow W box t e a c vs) (hx : Ext W W') : Grow W' box t e a c vs :=
  h.fr (Fr.of_ext (S := fun _ => False) hx) (fun _ _ h => h)
/-- What is of another type lies elsewhere. -/
theorem Row.off {W : World} {e t : TypeId} {n c q : Nat} {a : Option Addr} {vs : List Value} {cs : Array Value} (h : Row W e 1 a n vs c) (hq : W.heap[q]? = some (.cells cs t)) (hne : t ≠ e) : blk a ≠ some q := by
  intro he
  rcases h.2 with ⟨rfl, _⟩ | ⟨g, cur, rfl, h1, _⟩
  · cases he
  · cases he
    rw [hq] at h1
    simp only [Option.some.injEq, Obj.cells.injEq] at h1
    exact hne h1.2.1
theorem Row.off2 {W : World} {e t : TypeId} {n c n' c' : Nat} {a a' : Option Addr} {vs vs' : List Value} (h : Row W e 1 a n vs c) (h' : Row W t 1 a' n' vs' c') (hne : t ≠ e) {q : Nat} (h1 : blk a = some q) : blk a' ≠ some q := by
  intro he
  rcases h'.2 with ⟨rfl, _⟩ | ⟨g, cur, rfl, h2, _⟩
  · cases he
  · cases he
    exact h.off h2 hne h1

/-- v = append(v, x) -/
theorem _root_.Go.Proofs.YthkcphnkllnfcaaDoor.Grow.push {P : Program} {W w1 : World} {box b : Nat} {t tt ty e : TypeId} {bytes c : Nat} {a : Option Addr} {vs : List Value} {v : Value} (hE : ElemOk P tt e 1 bytes) (h : Grow W box t e a c vs) (hne : t ≠ e) (hn : New W (.cells #[v] e) b w1)
    (hv : v.oneCell' = true) (h63 : vs.length + 1 ≤ maxLen) (hb : (vs.length + 1) * bytes ≤ 140737488355328) :
    ∃ a' c' w2, AppRun P #[tt, tt] ty (.slice a vs.length c) (.slice (some ⟨b, 0, none⟩) 1 1) w1 a' (vs.length + 1) c' w2 ∧ KO w1 w2 ∧ (∃ old, w2.cell? ⟨box, 0, none⟩ = some old) ∧ w2.frozen? ⟨box, 0, none⟩ = false ∧
      ∀ {w3 : World}, Stored w2 ⟨box, 0, none⟩ (.slice a' (vs.length + 1) c') w3 → Grow w3 box t e a' c' (vs ++ [v]) ∧ Fr (fun q => q = box ∨ blk a = some q) W w3 ∧ (∀ q, blk a' = some q → blk a = some q ∨ W.heap.size ≤ q) := by
  obtain ⟨a', c', w2, hr, hko, hrow, hg, hor, _⟩ := h.row.pushN (P := P) (ty := ty) hE (by decide) (m := 1) (news := [v]) hn rfl (by simp [hv]) h63 (.inr hb)
  have hb1 := hn.ext.heap h.hb
  have hoff := h.row.off h.hb hne
  have hb2 : w2.heap[box]? = some (.cells #[.slice a vs.length c] t) := (hg.block box (heap_lt hb1) (fun e => hoff e.symm)).trans hb1
  refine ⟨a', c', w2, hr, hko, box_old hb2, box_free hb2, fun {w3} hs => ?_⟩
  have hoff' : ∀ q, blk a' = some q → blk a = some q ∨ W.heap.size ≤ q := by
    intro q hq
    rcases hor with rfl | ⟨rfl, _⟩
    · exact .inl hq
    · simp [blk] at hq; subst hq; exact .inr hn.ext.size
  have hne' : blk a' ≠ some box := fun he => by
    rcases hoff' box he with h1 | h1
    · exact hoff h1
    · have := heap_lt h.hb; omega
  refine ⟨⟨?_, ?_⟩, ?_, hoff'⟩
  · have := hs.box hb2; simpa using this
  · have hl : (vs ++ [v]).length = vs.length + 1 := by simp
    rw [hl]
    exact hrow.keep fun g hg' => hs.other (by show g ≠ box; rintro rfl; exact hne' hg')
  · refine ((Fr.of_ext (S := fun q => q = box ∨ blk a = some q) hn.ext).trans (Fr.grown hg) (fun x _ hx => .inr hx)).trans (Fr.stored hs) (fun x _ hx => .inl hx)

theorem take_snoc {α β : Type} {f : α → β} {xs : List α} {k : Nat} {p : α} (h : xs[k]? = some p) : (xs.take (k + 1)).map f = (xs.take k).map f ++ [f p] := by
  rw [List.take_add_one, h]; simp

end Go.Proofs.YthkcphnkllnfcaaDoor.Vc
