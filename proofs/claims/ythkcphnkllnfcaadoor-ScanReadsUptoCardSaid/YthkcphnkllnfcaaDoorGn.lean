/-
  Facts that many proofs share.
-/
import Derived.Test.YthkcphnkllnfcaaDoorSpG
set_option linter.unusedVariables false
set_option linter.unusedSimpArgs false
namespace Go.Proofs.YthkcphnkllnfcaaDoor
open Go Go.RowKit Vc

theorem take_succ0 {xs : List Int} {x : Nat} (h : x < xs.length) : xs.take (x + 1) = xs.take x ++ [xs.getD x 0] := by
  rw [List.take_add_one, List.getD_eq_getElem?_getD, List.getElem?_eq_getElem h]; rfl
theorem getD_take_map {k : IntKind} {xs : List Int} {i : Nat} (h : i < xs.length) : ((xs.take (i + 1)).map (Value.int k)) = ((xs.take i).map (Value.int k)) ++ [.int k (xs.getD i 0)] := by
  rw [take_succ0 h]; simp
theorem take_eq_step {a b : List Int} {x : Nat} (ha : x < a.length) (hb : x < b.length) (h : a.take x = b.take x) (hv : a.getD x 0 = b.getD x 0) : a.take (x + 1) = b.take (x + 1) := by
  rw [take_succ0 ha, take_succ0 hb, h, hv]
theorem at_box {w w1 : World} {k : IntKind} {e : TypeId} {b : Nat} {xs : List Int} {cs : Array Value} (h : New w (.cells cs e) b w1) (hcs : cs = (xs.map (Value.int k)).toArray) (hl : xs.length ≤ 35184372087808) : GSl.at k ⟨some ⟨b, 0, none⟩, xs.length, xs⟩ w1 := by
  subst hcs; exact ⟨CellsAt.new h, hl⟩
theorem GSl.at_ext {k : IntKind} {g : GSl} {w w1 : World} (h : g.at k w) (hx : Ext w w1) : g.at k w1 := ⟨h.1.ext hx, h.2⟩
theorem at_made {w w1 : World} {k : IntKind} {e : TypeId} {a : Option Addr} {n c : Nat} {xs : List Int} (h : Made w w1 e 1 a n (xs.map (Value.int k)) c) (hl : xs.length ≤ 35184372087808) : GSl.at k ⟨a, c, xs⟩ w1 :=
  ⟨h.row.cells, hl⟩
theorem Ext.fr_new {w0 w w' : World} {S : Nat → Prop} (h : Ext w0 w) (hf : Fr S w w') (hS : ∀ q, S q → w0.heap.size ≤ q) : Ext w0 w' :=
  Below.trans h (hf.below h.size (fun q hq hs => by have := hS q hs; omega))
theorem beq_nat (a b : Nat) : ((a : Int) == (b : Int)) = decide (a = b) := decide_eq_decide.2 (by omega)
theorem bne_nat (a b : Nat) : ((a : Int) != (b : Int)) = decide (a ≠ b) := by
  rw [bne, beq_nat, decide_not]

theorem flat_at {α : Type} {f : α → List Value} {s : Nat} (hf : ∀ x, (f x).length = s) : ∀ {l : List α} {k j : Nat} {x : α}, l[k]? = some x → j < s → (l.flatMap f)[k * s + j]? = (f x)[j]?
  | [], k, j, x, h, _ => by simp at h
  | y :: l, 0, j, x, h, hj => by
    simp only [List.getElem?_cons_zero, Option.some.injEq] at h
    subst h
    rw [List.flatMap_cons, Nat.zero_mul, Nat.zero_add, List.getElem?_append_left (by rw [hf]; exact hj)]
  | y :: l, k + 1, j, x, h, hj => by
    simp only [List.getElem?_cons_succ] at h
    rw [List.flatMap_cons, List.getElem?_append_right (by rw [hf, Nat.add_mul]; omega), hf, show (k + 1) * s + j - s = k * s + j from by rw [Nat.add_mul]; omega]
    exact flat_at hf h hj
theorem flat_len' {α : Type} {f : α → List Value} {s : Nat} (hf : ∀ x, (f x).length = s) (l : List α) : (l.flatMap f).length = l.length * s := by
  induction l with
  | nil => simp
  | cons x l ih => rw [List.flatMap_cons, List.length_append, ih, hf, List.length_cons, Nat.add_mul]; omega

end Go.Proofs.YthkcphnkllnfcaaDoor

namespace Go.Proofs.YthkcphnkllnfcaaDoor.Vc
open Go Go.RowKit

/-- A cell of an element of several cells. -/
theorem CellsAt.fld {w : World} {ad : Option Addr} {vs : List Value} {k s j : Nat} {v : Value} {K : Nat → Nat → Prop} (h : CellsAt w ad vs) (hv : vs[k * s + j]? = some v)
    (hk : ∀ b o, w.cell? ⟨b, o + k * s + j, none⟩ = some v → K b o) : ptrE ad K := by
  rcases h with h | ⟨b, o, h1, h2⟩
  · subst h; simp at hv
  · subst h1
    refine hk b o ?_
    rw [Nat.add_assoc]; exact h2 _ _ hv
/-- All cells of an element. -/
theorem CellsAt.elem {w : World} {ad : Option Addr} {vs : List Value} {k s : Nat} {K : Nat → Nat → Prop} (h : CellsAt w ad vs) (hs : 0 < s) (hl : k * s + s ≤ vs.length)
    (hk : ∀ b o, (∀ j v, vs[k * s + j]? = some v → w.cell? ⟨b, o + k * s + j, none⟩ = some v) → K b o) : ptrE ad K := by
  rcases h with h | ⟨b, o, h1, h2⟩
  · subst h; simp at hl; omega
  · subst h1
    exact hk b o fun j v hv => by rw [Nat.add_assoc]; exact h2 _ _ hv
/-- An iterator over a string goes on: a block of the call's own. -/
theorem Nexted.below {w0 w w1 : World} {r i B : Nat} {s : ByteArray} (h : Nexted w r s i w1) (hb : Below B w0 w) (hr : B ≤ r) : Below B w0 w1 := by
  subst h
  exact ⟨hb.os, hb.tape, hb.output, by simpa using hb.size, fun b hlt => (World.putObj_heap_other (by omega)).trans (hb.block b hlt)⟩
theorem Nexted.heap {w w1 : World} {r i : Nat} {s : ByteArray} {o : Obj} (h : Nexted w r s i w1) (hr : w.heap[r]? = some o) : w1.heap[r]? = some (.stringIter s (i + dcN s i)) := by
  subst h
  have := (Array.getElem?_eq_some_iff.1 hr).1
  simp [World.putObj, this]
theorem Nexted.other {w w1 : World} {r i b : Nat} {s : ByteArray} (h : Nexted w r s i w1) (hb : b ≠ r) : w1.heap[b]? = w.heap[b]? := by
  subst h; exact World.putObj_heap_other hb
theorem Nexted.size {w w1 : World} {r i : Nat} {s : ByteArray} (h : Nexted w r s i w1) : w1.heap.size = w.heap.size := by subst h; simp
theorem Row.nexted {w w1 : World} {e : TypeId} {r i s' n c : Nat} {s : ByteArray} {ad : Option Addr} {vs : List Value} (h : Row w e s' ad n vs c) (hn : Nexted w r s i w1) (hr : ∃ s0 i0, w.heap[r]? = some (.stringIter s0 i0)) : Row w1 e s' ad n vs c := by
  refine ⟨h.1, ?_⟩
  rcases h.2 with h1 | ⟨g, cur, h1, h2, h3⟩
  · exact .inl h1
  · refine .inr ⟨g, cur, h1, ?_, h3⟩
    have : g ≠ r := by rintro rfl; obtain ⟨s0, i0, hr⟩ := hr; rw [hr] at h2; cases h2
    rw [hn.other this]; exact h2
theorem Made.nexted {w0 w w1 : World} {e : TypeId} {r i s' n c : Nat} {s : ByteArray} {ad : Option Addr} {vs : List Value} (h : Made w0 w e s' ad n vs c) (hn : Nexted w r s i w1) (hr : ∃ s0 i0, w.heap[r]? = some (.stringIter s0 i0)) (hB : w0.heap.size ≤ r) : Made w0 w1 e s' ad n vs c :=
  ⟨h.row.nexted hn hr, h.new, hn.below h.ext hB⟩

end Go.Proofs.YthkcphnkllnfcaaDoor.Vc
