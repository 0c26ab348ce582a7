/-
  Texts joined by program: Gi, Gg, WkO, WkI, Cm, WkH.
-/
import Derived.Test.YthpjkgoahneldaaDoorJa09
import Derived.Test.YthpjkgoahneldaaDoorJa06
import Derived.Test.YthpjkgoahneldaaDoorJa10
import Derived.Test.YthpjkgoahneldaaDoorJa08
set_option linter.unusedVariables false
set_option linter.unusedSimpArgs false

section
/-
  Facts on a function's own variables and on rounds of ranges over functions.
-/
namespace Go.Proofs.YthpjkgoahneldaaDoor.Vc
open Go Go.RowKit

theorem Stored.box {w w1 : World} {b : Nat} {u v : Value} {t : TypeId} (hs : Stored w ⟨b, 0, none⟩ v w1) (h : w.heap[b]? = some (.cells #[u] t)) : w1.heap[b]? = some (.cells #[v] t) := by
  have := hs.heap h
  simpa using this
theorem box_cell {w : World} {b : Nat} {v : Value} {t : TypeId} (h : w.heap[b]? = some (.cells #[v] t)) : w.cell? ⟨b, 0, none⟩ = some v := by
  rw [cell_of_heap h]; rfl
theorem box_old {w : World} {b : Nat} {v : Value} {t : TypeId} (h : w.heap[b]? = some (.cells #[v] t)) : ∃ old, w.cell? ⟨b, 0, none⟩ = some old := ⟨v, box_cell h⟩
theorem box_free {w : World} {b : Nat} {v : Value} {t : TypeId} (h : w.heap[b]? = some (.cells #[v] t)) : w.frozen? ⟨b, 0, none⟩ = false := frozen_of_heap h _
theorem heap_lt {w : World} {b : Nat} {o : Obj} (h : w.heap[b]? = some o) : b < w.heap.size := (Array.getElem?_eq_some_iff.1 h).1

theorem Step.stored {D : Nat → Prop} {W W1 : World} {p : Addr} {v : Value} (hs : Stored W p v W1) (hD : D p.block) (hdom : ∀ q, D q → q < W.heap.size) : Step D W W1 D :=
  ⟨(Fr.stored hs).mono (fun x _ hx => by subst hx; exact hD), fun q hq => ⟨by rw [hs.size]; exact hdom q hq, .inl hq⟩⟩
theorem Step.refl {D : Nat → Prop} {W : World} (hdom : ∀ q, D q → q < W.heap.size) : Step D W W D := ⟨Fr.refl _ _, fun q hq => ⟨hdom q hq, .inl hq⟩⟩
theorem Step.trans {D D1 D2 : Nat → Prop} {a b c : World} (h : Step D a b D1) (k : Step D1 b c D2) : Step D a c D2 :=
  ⟨h.fr.trans k.fr (fun x hx hd => ((h.dom x hd).2).elim id (fun h2 => by omega)), fun q hq => ⟨(k.dom q hq).1, (k.dom q hq).2.elim (fun h1 => ((h.dom q h1).2)) (fun h2 => .inr (Nat.le_trans h.fr.size h2))⟩⟩
theorem Step.ext {D : Nat → Prop} {W W1 : World} (hx : Ext W W1) (hdom : ∀ q, D q → q < W.heap.size) : Step D W W1 D := ⟨Fr.of_ext hx, fun q hq => ⟨Nat.lt_of_lt_of_le (hdom q hq) hx.size, .inl hq⟩⟩
theorem Mid.step {w W W1 : World} {D0 D D' : Nat → Prop} (h : Mid w D0 D W) (k : Step D W W1 D') : Mid w D0 D' W1 :=
  ⟨h.fr.trans k.fr (fun x hx hd => ((h.dom x hd).2).elim id (fun h2 => by omega)), fun q hq => ⟨(k.dom q hq).1, (k.dom q hq).2.elim (fun h1 => (h.dom q h1).2) (fun h2 => .inr (Nat.le_trans h.fr.size h2))⟩⟩
theorem Mid.lt {w W : World} {D0 D : Nat → Prop} (h : Mid w D0 D W) : ∀ q, D q → q < W.heap.size := fun q hq => (h.dom q hq).1
theorem Mid.old {w W : World} {D0 D : Nat → Prop} (h : Mid w D0 D W) {b : Nat} (hb : b < w.heap.size) (h0 : ¬ D0 b) : W.heap[b]? = w.heap[b]? := h.fr.block b hb h0
theorem Mid.start {w W : World} {D0 : Nat → Prop} (h : Ext w W) (hd : ∀ q, D0 q → q < w.heap.size) : Mid w D0 D0 W := ⟨Fr.of_ext h, fun q hq => ⟨Nat.lt_of_lt_of_le (hd q hq) h.size, .inl hq⟩⟩
/-- The iterator's own step. -/
theorem Mid.own {w W W1 : World} {D0 D : Nat → Prop} {S : Nat → Prop} (h : Mid w D0 D W) (hf : Fr S W W1) (hS : ∀ q, S q → w.heap.size ≤ q) : Mid w D0 D W1 :=
  ⟨h.fr.trans hf (fun x hx hs => by have := hS x hs; omega), fun q hq => ⟨Nat.lt_of_lt_of_le (h.dom q hq).1 hf.size, (h.dom q hq).2⟩⟩
theorem Nexted.fr {w w1 : World} {r i : Nat} {s : ByteArray} (h : Nexted w r s i w1) : Fr (fun q => q = r) w w1 := by
  subst h; exact Fr.putObj w r _
/-- What only new blocks and these have turned. -/
theorem Mid.ext {w0 w W : World} {D0 D : Nat → Prop} (h : Mid w D0 D W) (hx : Ext w0 w) (h0 : ∀ q, D0 q → w0.heap.size ≤ q) : Ext w0 W :=
  Below.trans hx (h.fr.below hx.size (fun q hq hd => by have := h0 q hd; omega))
theorem Ext.turn {w0 w w2 : World} (h : Ext w0 w) (ht : Turn w0.heap.size w w2) : Ext w0 w2 := Below.trans h ht.ext
theorem Ext.stored {w0 w w1 : World} {p : Addr} {v : Value} (h : Ext w0 w) (hs : Stored w p v w1) (hp : w0.heap.size ≤ p.block) : Ext w0 w1 := hs.below h hp
/-- A slice that was there, behind changes of blocks of one's own. -/
theorem CellsAt.mid {w0 w W : World} {S : Nat → Prop} {ad : Option Addr} {vs : List Value} (h : CellsAt w0 ad vs) (hx : Ext w0 w) (hf : Fr S w W) (hS : ∀ q, q < w0.heap.size → ¬ S q) : CellsAt W ad vs := by
  rcases h with h | ⟨b, o, h1, h2⟩
  · exact .inl h
  · refine .inr ⟨b, o, h1, fun j v hv => ?_⟩
    have hc := h2 j v hv
    have hb : b < w0.heap.size := World.block_lt_of_cell? w0 _ hc
    exact (World.cell?_of_block (w := w) (hf.block b (Nat.lt_of_lt_of_le hb hx.size) (hS b hb))).trans (hx.cell hc)

end Go.Proofs.YthpjkgoahneldaaDoor.Vc
end

section
/-
  A variable that holds a list of one's own, within rounds.
-/
namespace Go.Proofs.YthpjkgoahneldaaDoor.Vc
open Go Go.RowKit

/-- A variable of the function's own, filled at once. -/
theorem new_box {w w1 : World} {u : Value} {t : TypeId} {b : Nat} (h : New w (.cells #[u] t) b w1) :
    (∃ old, w1.cell? ⟨b, 0, none⟩ = some old) ∧ w1.frozen? ⟨b, 0, none⟩ = false ∧ ∀ {v : Value} {w2 : World}, Stored w1 ⟨b, 0, none⟩ v w2 → Ext w w2 ∧ w2.heap[b]? = some (.cells #[v] t) ∧ b = w.heap.size ∧ w2.heap.size = b + 1 := by
  refine ⟨box_old h.heap, box_free h.heap, fun {v w2} hs => ?_⟩
  have := h.size
  refine ⟨h.ext.stored hs (by show _ ≤ b; omega), hs.box h.heap, this.1, by rw [hs.size]; omega⟩

theorem _root_.Go.Proofs.YthpjkgoahneldaaDoor.Grow.keep {W W' : World} {box : Nat} {t e : TypeId} {a : Option Addr} {c : Nat} {vs : List Value} (h : Grow W box t e a c vs) (hk : ∀ q, q = box ∨ blk a = some q → W'.heap[q]? = W.heap[q]?) : Grow W' box t e a c vs :=
  ⟨(hk box (.inl rfl)).trans h.hb, h.row.keep fun g hg => hk g (.inr hg)⟩
/-- The blocks of such a variable hold no records. -/
theorem _root_.Go.Proofs.YthpjkgoahneldaaDoor.Grow.kept {W W' : World} {box q : Nat} {t e : TypeId} {a : Option Addr} {c n : Nat} {vs : List Value} (h : Grow W box t e a c vs) (hq : q = box ∨ blk a = some q) (hk : ∀ o, W.heap[q]? = some o → (isRec o = false ∨ q < n) → W'.heap[q]? = some o) : W'.heap[q]? = W.heap[q]? := by
  rcases hq with rfl | hq
  · rw [h.hb]; exact hk _ h.hb (.inl rfl)
  · rcases h.row.2 with ⟨rfl, _⟩ | ⟨g, cur, rfl, h1, _⟩
    · cases hq
    · cases hq
      rw [h1]; exact hk _ h1 (.inl rfl)
theorem _root_.Go.Proofs.YthpjkgoahneldaaDoor.Grow.fr {S : Nat → Prop} {W W' : World} {box : Nat} {t e : TypeId} {a : Option Addr} {c : Nat} {vs : List Value} (h : Grow W box t e a c vs) (hf : Fr S W W') (hS : ∀ q, q = box ∨ blk a = some q → ¬ S q) : Grow W' box t e a c vs :=
  h.keep fun q hq => hf.block q (hq.elim (fun e => by rw [e]; exact heap_lt h.hb) (fun e => h.row.lt e)) (hS q hq)
theorem _root_.Go.Proofs.YthpjkgoahneldaaDoor.Grow.ext {W W' : World} {box : Nat} {t e : TypeId} {a : Option Addr} {c : Nat} {vs : List Value} (h : Grow W box t e a c vs) (hx : Ext W W') : Grow W' box t e a c vs :=
  h.fr (Fr.of_ext (S := fun _ => False) hx) (fun _ _ h => h)
/-- What is of another type lies elsewhere. -/
theorem Row.off {W : World} {e t : TypeId} {n c q : Nat} {a : Option Addr} {vs : List Value} {cs : Array Value} (h : Row W e 1 a n vs c) (hq : W.heap[q]? = some (.cells cs t)) (hne : t ≠ e) : blk a ≠ some q := by
  intro he
  rcases h.2 with ⟨rfl, _⟩ | ⟨g, cur, rfl, h1, _⟩
  · cases he
  · cases he
    rw [hq] at h1
    simp only [Option.some.injEq, Obj.cells.injEq] at h1
    exact hne h1.2.1
theorem Row.off2 {W : World} {e t : TypeId} {n c n' c' : Nat} {a a' : Option Addr} {vs vs' : List Value} (h : Row W e 1 a n vs c) (h' : Row W t 1 a' n' vs' c') (hne : t ≠ e) {q : Nat} (h1 : blk a = some q) : blk a' ≠ some q := by
  intro he
  rcases h'.2 with ⟨rfl, _⟩ | ⟨g, cur, rfl, h2, _⟩
  · cases he
  · cases he
    exact h.off h2 hne h1

/-- v = append(v, x) -/
theorem _root_.Go.Proofs.YthpjkgoahneldaaDoor.Grow.push {P : Program} {W w1 : World} {box b : Nat} {t tt ty e : TypeId} {bytes c : Nat} {a : Option Addr} {vs : List Value} {v : Value} (hE : ElemOk P tt e 1 bytes) (h : Grow W box t e a c vs) (hne : t ≠ e) (hn : New W (.cells #[v] e) b w1)
    (hv : v.oneCell' = true) (h63 : vs.length + 1 ≤ maxLen) (hb : (vs.length + 1) * bytes ≤ 140737488355328) :
    ∃ a' c' w2, AppRun P #[tt, tt] ty (.slice a vs.length c) (.slice (some ⟨b, 0, none⟩) 1 1) w1 a' (vs.length + 1) c' w2 ∧ KO w1 w2 ∧ (∃ old, w2.cell? ⟨box, 0, none⟩ = some old) ∧ w2.frozen? ⟨box, 0, none⟩ = false ∧
      ∀ {w3 : World}, Stored w2 ⟨box, 0, none⟩ (.slice a' (vs.length + 1) c') w3 → Grow w3 box t e a' c' (vs ++ [v]) ∧ Fr (fun q => q = box ∨ blk a = some q) W w3 ∧ (∀ q, blk a' = some q → blk a = some q ∨ W.heap.size ≤ q) := by
  obtain ⟨a', c', w2, hr, hko, hrow, hg, hor, _⟩ := h.row.pushN (P := P) (ty := ty) hE (by decide) (m := 1) (news := [v]) hn rfl (by simp [hv]) h63 (.inr hb)
  have hb1 := hn.ext.heap h.hb
  have hoff := h.row.off h.hb hne
  have hb2 : w2.heap[box]? = some (.cells #[.slice a vs.length c] t) := (hg.block box (heap_lt hb1) (fun e => hoff e.symm)).trans hb1
  refine ⟨a', c', w2, hr, hko, box_old hb2, box_free hb2, fun {w3} hs => ?_⟩
  have hoff' : ∀ q, blk a' = some q → blk a = some q ∨ W.heap.size ≤ q := by
    intro q hq
    rcases hor with rfl | ⟨rfl, _⟩
    · exact .inl hq
    · simp [blk] at hq; subst hq; exact .inr hn.ext.size
  have hne' : blk a' ≠ some box := fun he => by
    rcases hoff' box he with h1 | h1
    · exact hoff h1
    · have := heap_lt h.hb; omega
  refine ⟨⟨?_, ?_⟩, ?_, hoff'⟩
  · have := hs.box hb2; simpa using this
  · have hl : (vs ++ [v]).length = vs.length + 1 := by simp
    rw [hl]
    exact hrow.keep fun g hg' => hs.other (by show g ≠ box; rintro rfl; exact hne' hg')
  · refine ((Fr.of_ext (S := fun q => q = box ∨ blk a = some q) hn.ext).trans (Fr.grown hg) (fun x _ hx => .inr hx)).trans (Fr.stored hs) (fun x _ hx => .inl hx)

theorem take_snoc {α β : Type} {f : α → β} {xs : List α} {k : Nat} {p : α} (h : xs[k]? = some p) : (xs.take (k + 1)).map f = (xs.take k).map f ++ [f p] := by
  rw [List.take_add_one, h]; simp

end Go.Proofs.YthpjkgoahneldaaDoor.Vc
end

section
/-
  Chapter 3: the document's lists.
-/
namespace Go.Proofs.YthpjkgoahneldaaDoor
open Go Go.RowKit Vc Ut Tb Cl Orb

theorem elemSign : ElemOk Tryd.prog 90 103 3 24 := elemOk_mk (.agg #[.int .i32 0, .int .i64 0, .bool false]) (by kernel_rfl) (by kernel_rfl) rfl
theorem elemPiece : ElemOk Tryd.prog 42 44 2 24 := elemOk_mk (.agg #[.int .i64 0, .string ⟨#[]⟩]) (by kernel_rfl) (by kernel_rfl) rfl

theorem sg_at {s : ByteArray} {k i : Nat} (h : k + i < cnt s) : ((List.range (cnt s)).drop k)[i]? = some (k + i) := by
  rw [List.getElem?_drop, List.getElem?_range h]
theorem sgn_at {s : ByteArray} {k i j : Nat} (h : k + i < cnt s) (hj : j < 3) : (((List.range (cnt s)).drop k).flatMap (sgnV s))[i * 3 + j]? = (sgnV s (k + i))[j]? := flat_at (f := sgnV s) (s := 3) (fun _ => rfl) (sg_at h) hj
theorem sgn_one (s : ByteArray) (n : Nat) : ∀ u ∈ sgnV s n, u.oneCell' = true := by
  intro u hu
  simp only [sgnV, List.mem_cons, List.not_mem_nil, or_false] at hu
  rcases hu with rfl | rfl | rfl <;> rfl
theorem pcV_one (s : ByteArray) (n : Nat) : ∀ u ∈ pcV s n, u.oneCell' = true := by
  intro u hu
  simp only [pcV, List.mem_cons, List.not_mem_nil, or_false] at hu
  rcases hu with rfl | rfl <;> rfl
theorem pc_at {s : ByteArray} {i j : Nat} (h : i < ncl s) (hj : j < 2) : ((List.range (ncl s)).flatMap (pcV s))[i * 2 + j]? = (pcV s i)[j]? := flat_at (f := pcV s) (s := 2) (fun _ => rfl) (List.getElem?_range h) hj
theorem flat_drop {α : Type} {f : α → List Value} {s : Nat} (hf : ∀ x, (f x).length = s) : ∀ (l : List α) (n : Nat), (l.flatMap f).drop (n * s) = (l.drop n).flatMap f
  | l, 0 => by simp
  | [], n + 1 => by simp
  | x :: l, n + 1 => by
    rw [List.flatMap_cons, List.drop_succ_cons, ← flat_drop hf l n, show (n + 1) * s = (f x).length + n * s from by rw [hf x, Nat.succ_mul]; omega, ← List.drop_drop, List.drop_left]

set_option maxRecDepth 10000 in
theorem signs_ok : sSigns.Ok Tryd.prog 80 := by
  refine signs_vc ⟨rnext_ok, trivial⟩ ?_
  rintro (s : ByteArray) w ⟨hU, hsm⟩
  have hcs := cnt_le s
  refine ⟨⟨(0, none, 0), rfl, rfl, Nat.zero_le _, Made.nil _ _ _⟩, ?_⟩
  rintro _ ⟨n, a, c⟩ w1 ⟨hn, hm⟩
  dsimp only at hn hm ⊢
  refine bcase_mk (fun h => ?_) (fun h => ?_)
  · have hp : pos s n < s.size := by simpa using h
    have hlt := cnt_lt.2 hp
    obtain ⟨e1, e2⟩ := nx_drop hp
    refine ⟨pos s n, rfl, by omega, Nat.le_refl _, _, rfl, ⟨hU.ext hm.ext, ext_size hsm⟩, ?_⟩
    rintro ⟨r, k⟩ w2 ⟨hr, hk, hw2⟩
    dsimp only at hr hk ⊢
    rw [e1] at hr; rw [e2] at hk
    subst hr hk
    have key : ∀ (b : Nat) (w3 : World) (v : Bool), v = isBad s n → New w2 (.cells #[.int .i32 (dcR s (pos s n)), .int .i64 (pos s n), .bool v] 103) b w3 →
        ∃ a' c' w4, AppRun Tryd.prog #[90, 90] 90 (.slice a n c) (.slice (some ⟨b, 0, none⟩) 1 1) w3 a' (n + 1) c' w4 ∧ KO w3 w4 ∧ InR IntKind.i64 ((pos s n : Int) + (dcN s (pos s n) : Int)) ∧
        ∃ y : Nat × Option Addr × Nat, Value.int IntKind.i64 ((pos s n : Int) + (dcN s (pos s n) : Int)) = Value.int IntKind.i64 (pos s y.1 : Int) ∧ Value.slice a' (n + 1) c' = Value.slice y.2.1 y.1 y.2.2 ∧
        (y.1 ≤ cnt s ∧ Made w w4 103 3 y.2.1 y.1 ((List.range y.1).flatMap (sgnV s)) y.2.2) ∧ cnt s - y.1 < cnt s - n := by
      intro b w3 v hv hnw
      obtain ⟨a', c', w4, hrun, hko, hm4, _⟩ := (hm.later hw2).pushN (P := Tryd.prog) (ty := 90) elemSign (by decide) (m := 1) (news := sgnV s n) (by unfold sgnV sg; rw [← hv]; exact hnw) rfl (sgn_one s n) (by unfold maxLen; omega) (.inr (by omega))
      have hle := dcN_le hp
      refine ⟨a', c', w4, hrun, hko, inr_i64 (by omega) (by omega), (n + 1, a', c'), ?_, rfl, ⟨by dsimp only; omega, ?_⟩, by dsimp only; omega⟩
      · dsimp only; rw [pos_succ hp]; simp
      · dsimp only; rw [List.range_succ, List.flatMap_append]; simpa using hm4
    refine bcase_mk (fun h => ?_) (fun h => ?_)
    · intro b w3 hnw
      refine key b w3 _ ?_ hnw
      have h5 : dcR s (pos s n) = 65533 := by simpa using h
      unfold isBad
      rw [Bool.eq_iff_iff, beq_iff_eq, decide_eq_true_eq]
      omega
    · intro b w3 hnw
      refine key b w3 _ ?_ hnw
      have h5 : dcR s (pos s n) ≠ 65533 := by simpa using h
      unfold isBad
      simp [h5]
  · have hn2 := cnt_end (s := s) (by simpa using h) hn
    subst hn2
    exact ⟨(a, cnt s, c), rfl, rfl, hm⟩

set_option maxRecDepth 10000 in
theorem first_ok : sFirst.Ok Tryd.prog 85 := by
  refine first_vc ⟨ralone_ok, takes_ok, trivial⟩ ?_
  rintro ⟨s, k, a, c⟩ w ⟨hk, hsm, hc⟩
  dsimp only at hk hsm hc ⊢
  have hcs := cnt_le s
  have rd : ∀ {w' : World} {i j : Nat} {v : Value} {K : Nat → Nat → Prop}, Ext w w' → k + i < cnt s → j < 3 → (sgnV s (k + i))[j]? = some v → (∀ b o, w'.cell? ⟨b, o + i * 3 + j, none⟩ = some v → K b o) → ptrE a K := fun e hi hj hv hK =>
    (hc.ext e).fld (by rw [sgn_at hi hj]; exact hv) hK
  have E0 := Ext.refl w
  refine ⟨0, rfl, by omega, rd E0 (i := 0) (j := 2) hk (by decide) rfl fun b o hb => ⟨_, hb, ?_⟩⟩
  change bcase (isBad s k) _ _
  refine bcase_mk (fun hbad => ⟨1, rfl, by unfold firstN; rw [if_pos hbad], E0⟩) (fun hbad => ?_)
  have hcr : ∀ n1 : Int, n1 = sg s (k + 1) → 1 < cnt s - k → (sg s k == 13) = true → (n1 == 10) = crB s k := by
    rintro n1 rfl h1 h2
    unfold crB
    rw [h2, decide_eq_true (show k + 1 < cnt s by omega)]; rfl
  refine ⟨?_, ?_⟩
  · refine ⟨0, rfl, by omega, rd E0 (i := 0) (j := 0) hk (by decide) rfl fun b o hb => ⟨_, hb, ?_⟩⟩
    change bcase (sg s k == 13) _ _
    refine bcase_mk (fun h1 => ?_) (fun h1 => ⟨(), ?_, E0⟩)
    · refine bcase_mk (fun h2 => ?_) (fun h2 => ⟨(), ?_, E0⟩)
      · have h2 : 1 < cnt s - k := by have := of_decide_eq_true h2; omega
        refine ⟨1, rfl, h2, rd E0 (i := 1) (j := 0) (by omega) (by decide) rfl fun b o hb => ⟨_, hb, (), ?_, E0⟩⟩
        rw [hcr _ rfl h2 h1]
      · have h2 : ¬ 1 < cnt s - k := by have := of_decide_eq_false h2; omega
        congr 1
        unfold crB
        rw [decide_eq_false (show ¬ k + 1 < cnt s by omega)]; simp
    · congr 1
      have h1 : (sg s k == 13) = false := h1
      unfold crB; rw [h1]; rfl
  rintro _ _ w1 e1
  refine bcase_mk (fun hC => ⟨2, rfl, by unfold firstN; rw [if_neg (by rw [hbad]; decide), if_pos hC], e1⟩) (fun hC => ?_)
  refine ⟨0, rfl, by omega, rd e1 (i := 0) (j := 0) hk (by decide) rfl fun b o hb => ⟨_, hb, sg s k, rfl, trivial, ?_⟩⟩
  rintro _ w2 ⟨rfl, e2⟩
  have E2 := e1.trans e2
  refine bcase_mk (fun hA => ⟨1, rfl, by unfold firstN; rw [if_neg (by rw [hbad]; decide), if_neg (by rw [hC]; decide), if_pos hA], E2⟩) (fun hA => ?_)
  have hF : firstN s k = goN s k 32 1 := by unfold firstN; rw [if_neg (by rw [hbad]; decide), if_neg (by rw [hC]; decide), if_neg (by rw [hA]; decide)]
  refine ⟨⟨1, rfl, Nat.le_refl _, by omega, by decide, by rw [hF], Ext.refl _⟩, ?_⟩
  rintro _ n w3 ⟨n1, n2, n3, n4, e3⟩ w4 hd
  have E3 := E2.trans e3
  have E4 := E3.trans hd.ext
  have stop : goB s k n = false → n = firstN s k := fun h => by rw [← n4, goN_stop h]
  refine bcase_mk (fun h1 => ?_) (fun h1 => ⟨n, rfl, stop ?_, E4⟩)
  · have h1 : k + n < cnt s := by have := of_decide_eq_true h1; omega
    refine bcase_mk (fun h2 => ?_) (fun h2 => ⟨n, rfl, stop ?_, E4⟩)
    · have h2 : n < 32 := by have := of_decide_eq_true h2; omega
      have hg : ∀ {b : Bool}, isBad s (k + n) = b → goB s k n = (!b && takesB (sg s k) (sg s (k + n - 1)) (sg s (k + n)) n) := fun hb => by
        unfold goB; rw [decide_eq_true h1, decide_eq_true h2, hb]; simp
      refine ⟨n, rfl, by omega, rd E3 (j := 2) h1 (by decide) rfl fun b o hb => ⟨_, hb, ?_⟩⟩
      refine bcase_mk (fun h3 => ?_) (fun h3 => ⟨n, rfl, stop ?_, E4⟩)
      · have h3 : isBad s (k + n) = false := by simpa using h3
        refine ⟨0, rfl, by omega, rd E3 (i := 0) (j := 0) hk (by decide) rfl fun b o hb => ⟨_, hb, inr_i64 (by omega) (by omega), n - 1, by omega, by omega, rd E3 (i := n - 1) (j := 0) (by omega) (by decide) rfl fun b o hb => ⟨_, hb, n, rfl, by omega, rd E3 (i := n) (j := 0) h1 (by decide) rfl fun b o hb => ⟨_, hb, ?_⟩⟩⟩⟩
        refine ⟨⟨sg s k, sg s (k + (n - 1)), sg s (k + n), n⟩, rfl, trivial, ?_⟩
        rintro _ w5 ⟨rfl, e5⟩
        dsimp only
        rw [show k + (n - 1) = k + n - 1 from by omega]
        have hg := hg h3
        refine bcase_mk (fun h4 => ?_) (fun h4 => ⟨n, rfl, stop (by rw [hg, h4]; rfl), E4.trans e5⟩)
        have hG : goB s k n = true := by rw [hg, h4]; rfl
        refine ⟨inr_i64 (by omega) (by omega), n + 1, by simp, ⟨by omega, by omega, by omega, ?_, (e3.trans hd.ext).trans e5⟩, by omega⟩
        rw [← (goN_step hG).2, n4]
      · have h3 : isBad s (k + n) = true := by simpa using h3
        rw [hg h3]; rfl
    · have h2 : ¬ n < 32 := by have := of_decide_eq_false h2; omega
      unfold goB; rw [decide_eq_false h2]; simp
  · have h1 : ¬ k + n < cnt s := by have := of_decide_eq_false h1; omega
    unfold goB; rw [decide_eq_false h1]; rfl

set_option maxRecDepth 10000 in
theorem rallP_ok : sRAllP.Ok Tryd.prog 56 := by
  refine rallP_vc ⟨signs_ok, first_ok, trivial⟩ ?_
  rintro (s : ByteArray) w ⟨hU, hsm⟩
  have hcs := cnt_le s
  have hncl := ncl_le s
  refine ⟨s, rfl, ⟨hU, hsm⟩, ?_⟩
  rintro ⟨a, n, c⟩ w1 ⟨hn, hm0⟩
  dsimp only at hn hm0 ⊢
  subst hn
  have hle := hm0.row.le
  have hb0 : bk s 0 = 0 := rfl
  refine ⟨⟨⟨0, a, c, none, 0⟩, by rw [hb0, Nat.sub_zero], rfl, Nat.zero_le _, by dsimp only; rw [hb0]; omega, by dsimp only; rw [hb0, List.drop_zero]; exact hm0.row.cells, Made.nil _ _ _⟩, ?_⟩
  rintro _ ⟨i, la, lc, oa, oc⟩ w2 ⟨hi, hlc, hcl, hm⟩
  dsimp only at hi hlc hcl hm ⊢
  refine bcase_mk (fun h => ?_) (fun h => ?_)
  · have hbk : bk s i < cnt s := by have := of_decide_eq_true h; omega
    have hlt := bk_lt.2 hbk
    have hsu := bk_succ hlt
    have hle1 := bk_le s (i + 1)
    have hc2 := hcl.ext hm.ext
    have hfit := first_fit s _ hbk
    refine ⟨⟨s, bk s i, la, lc⟩, rfl, ⟨hbk, hsm, hc2⟩, ?_⟩
    rintro _ w3 ⟨rfl, e3⟩
    dsimp only
    have hc3 := hc2.ext e3
    have rd : ∀ {j : Nat} {K : Nat → Nat → Prop}, bk s i + j < cnt s → (∀ b o, w3.cell? ⟨b, o + j * 3 + 1, none⟩ = some (.int .i64 (pos s (bk s i + j))) → K b o) → ptrE la K := fun hj hK =>
      hc3.fld (s := 3) (j := 1) (by rw [sgn_at hj (by decide)]; rfl) hK
    have e01 : ∀ {w4 : World}, Ext w3 w4 → Ext w1 w4 := fun e => (hm.ext.trans e3).trans e
    -- the piece is put behind
    have fin : ∀ {w4 w5 : World} {b q : Nat}, Drew w3 w4 → q = bp s (i + 1) → New w4 (.cells #[.int .i64 (pos s (bk s i) : Int), .string (s.extract (pos s (bk s i)) q)] 44) b w5 → Below w4.heap.size w4 w5 ∧ ∃ a' c' w6, AppRun Tryd.prog #[42, 42] 42 (.slice oa i oc) (.slice (some ⟨b, 0, none⟩) 1 1) w5 a' (i + 1) c' w6 ∧ KO w5 w6 ∧
        ∃ ln : Nat, ((firstN s (bk s i) : Nat) : Int) = (ln : Int) ∧ ln ≤ cnt s - bk s i ∧ ∀ ad' : Option Addr, SlAt la ad' lc ln 3 → ∃ y : GAl, Value.slice ad' (cnt s - bk s i - ln) (lc - ln) = .slice y.la (cnt s - bk s y.i) y.lc ∧ Value.slice a' (i + 1) c' = .slice y.oa y.i y.oc ∧
          (y.i ≤ ncl s ∧ cnt s - bk s y.i ≤ y.lc ∧ CellsAt w1 y.la (((List.range (cnt s)).drop (bk s y.i)).flatMap (sgnV s)) ∧ Made w1 w6 44 2 y.oa y.i ((List.range y.i).flatMap (pcV s)) y.oc) ∧ ncl s - y.i < ncl s - i := by
      rintro w4 w5 b q hd rfl hnw
      obtain ⟨a', c', w6, hrun, hko, hm6, _⟩ := (hm.later (e3.trans hd.ext)).pushN (P := Tryd.prog) (ty := 42) elemPiece (by decide) (m := 1) (news := pcV s i) hnw rfl (pcV_one s i) (by unfold maxLen; omega) (.inr (by omega))
      refine ⟨hnw.ext, a', c', w6, hrun, hko, firstN s (bk s i), rfl, by omega, fun ad' hsl => ?_⟩
      refine ⟨⟨i + 1, ad', lc - firstN s (bk s i), a', c'⟩, ?_, rfl, ⟨hlt, by dsimp only; omega, ?_, ?_⟩, by dsimp only; omega⟩
      · dsimp only; rw [hsu]; congr 1; omega
      · dsimp only
        have := hcl.drop hsl (by omega) (by rw [flat_len' (s := 3) (fun _ => rfl), List.length_drop, List.length_range]; exact Nat.mul_le_mul_right _ hlc)
        rw [flat_drop (f := sgnV s) (s := 3) (fun _ => rfl), List.drop_drop, ← hsu] at this
        exact this
      · dsimp only; rw [List.range_succ, List.flatMap_append]; simpa using hm6
    refine bcase_mk (fun h1 => ?_) (fun h1 => ?_)
    · have h1 : bk s i + firstN s (bk s i) < cnt s := by have := of_decide_eq_true h1; omega
      refine ⟨_, rfl, by omega, rd h1 fun b o hb => ⟨_, hb, fun w4 hd => ⟨0, rfl, by omega, rd (j := 0) (by omega) fun b1 o1 hb1 => ⟨_, hb1, 0, rfl, by omega, rd (j := 0) (by omega) fun b2 o2 hb2 => ⟨_, hb2, pos s (bk s i), rfl, pos s (bk s i + firstN s (bk s i)), rfl, ?_, pos_le s _, fun b3 w5 hnw => ?_⟩⟩⟩⟩⟩
      · exact pos_mono s (by omega)
      · exact fin hd (by unfold bp; rw [hsu]) hnw
    · have h1 : bk s i + firstN s (bk s i) = cnt s := by have := of_decide_eq_false h1; omega
      intro w4 hd
      refine ⟨0, rfl, by omega, rd (j := 0) (by omega) fun b1 o1 hb1 => ⟨_, hb1, 0, rfl, by omega, rd (j := 0) (by omega) fun b2 o2 hb2 => ⟨_, hb2, pos s (bk s i), rfl, s.size, rfl, pos_le s _, Nat.le_refl _, fun b3 w5 hnw => ?_⟩⟩⟩
      exact fin hd (by unfold bp; rw [hsu, h1, pos_cnt]) hnw
  · have hbk : ¬ bk s i < cnt s := by have := of_decide_eq_false h; omega
    have hie : i = ncl s := by
      by_cases hc : i < ncl s
      · exact absurd (bk_lt.1 hc) hbk
      · omega
    subst hie
    exact ⟨(oa, ncl s, oc), rfl, rfl, hm.earlier hm0.ext⟩

set_option maxRecDepth 10000 in
theorem rnextC_ok : (sSN nextL).Ok Tryd.prog 78 := by
  refine rnextC_vc ⟨signs_ok, first_ok, trivial⟩ ?_
  rintro (s : ByteArray) w ⟨hU, hsm⟩
  refine ⟨s, rfl, ⟨hU, hsm⟩, ?_⟩
  rintro ⟨a, n, c⟩ w1 ⟨hn, hm⟩
  dsimp only at hn hm ⊢
  subst hn
  refine bcase_mk (fun h => ⟨0, rfl, ?_, hm.ext⟩) (fun h => ?_)
  · have h : cnt s = 0 := by simp only [beq_iff_eq] at h; omega
    rw [next_zero (cnt_zero.1 h)]
  have h0 : 0 < cnt s := by simp only [beq_eq_false_iff_ne, ne_eq] at h; omega
  have hz : 0 < s.size := Nat.pos_of_ne_zero (fun e => by have := cnt_zero.2 e; omega)
  refine ⟨⟨s, 0, a, c⟩, by dsimp only; rw [Nat.sub_zero], ⟨h0, hsm, by dsimp only; rw [List.drop_zero]; exact hm.row.cells⟩, ?_⟩
  rintro _ w2 ⟨rfl, e2⟩
  dsimp only
  have hfit := first_fit s 0 h0
  refine bcase_mk (fun h1 => ⟨s.size, rfl, ?_, hm.ext.trans e2⟩) (fun h1 => ?_)
  · have h1 : firstN s 0 = cnt s := by simp only [beq_iff_eq] at h1; omega
    rw [next_first hz, h1, pos_cnt]
  · have h1 : firstN s 0 < cnt s := by simp only [beq_eq_false_iff_ne, ne_eq] at h1; omega
    refine ⟨firstN s 0, rfl, h1, (hm.row.cells.ext e2).fld (s := 3) (j := 1) (v := .int .i64 (pos s (firstN s 0))) ?_ fun b o hb => ⟨_, hb, _, rfl, (next_first hz).symm, hm.ext.trans e2⟩⟩
    rw [flat_at (f := sgnV s) (s := 3) (fun _ => rfl) (List.getElem?_range h1) (by decide)]; rfl

theorem ext_sz {s : ByteArray} {a b : Nat} (h : b ≤ s.size) (h2 : a ≤ b) : ((s.extract a b).size : Int) = (b : Int) - a := by rw [size_ext h]; omega

theorem bord_len (s : ByteArray) : (bordI s).length = ncl s + 1 := by simp [bordI]
theorem bord_at {s : ByteArray} {i : Nat} (h : i ≤ ncl s) : (bordI s)[i]? = some (bp s i : Int) := by
  unfold bordI
  rw [List.getElem?_map, List.getElem?_range (by omega)]; rfl

theorem isB_iff {s : ByteArray} {p : Int} : isB s p = true ↔ ∃ i, i ≤ ncl s ∧ (bp s i : Int) = p := by
  unfold isB
  rw [List.any_eq_true]
  constructor
  · rintro ⟨i, hi, h⟩; exact ⟨i, by have := List.mem_range.1 hi; omega, of_decide_eq_true h⟩
  · rintro ⟨i, hi, h⟩; exact ⟨i, List.mem_range.2 (by omega), decide_eq_true h⟩

set_option maxRecDepth 10000 in
theorem into_ok : sInto.Ok Tryd.prog 70 := by
  refine into_vc trivial ?_
  rintro ⟨n, lo, hi⟩ w _
  dsimp only
  refine bcase_mk (fun h => ⟨_, rfl, by rw [if_pos (of_decide_eq_true h)], rfl⟩) (fun h => ?_)
  have h := of_decide_eq_false h
  refine bcase_mk (fun h1 => ⟨_, rfl, by rw [if_neg h, if_pos (of_decide_eq_true h1)], rfl⟩) (fun h1 => ⟨_, rfl, by rw [if_neg h, if_neg (of_decide_eq_false h1)], rfl⟩)

theorem ix_of {s : ByteArray} {p i : Nat} (hi : i ≤ ncl s) (h1 : ∀ j, j < i → bp s (j + 1) ≤ p) (h2 : i = ncl s ∨ p < bp s (i + 1)) : ixP s p = i := by
  unfold ixP
  rcases Nat.lt_or_eq_of_le hi with hlt | he
  · have : (List.range (ncl s)).find? (fun i => decide (p < bp s (i + 1))) = some i := by
      rw [List.find?_range_eq_some]
      refine ⟨decide_eq_true (h2.resolve_left (by omega)), List.mem_range.2 hlt, fun j hj => ?_⟩
      have := h1 j hj
      simp; omega
    rw [this]; rfl
  · have : (List.range (ncl s)).find? (fun i => decide (p < bp s (i + 1))) = none := by
      rw [List.find?_range_eq_none]
      intro j hj
      have := h1 j (by omega)
      simp; omega
    rw [this, he]; rfl
theorem bp_out {s : ByteArray} {i : Nat} (h : ncl s ≤ i) : bp s i = s.size := by
  unfold bp bk; rw [orb_out (first_fit s) h, pos_cnt]
theorem clamp_eq (s : ByteArray) (p : Int) : (if p < 0 then (0 : Int) else if p > (s.size : Int) then (s.size : Int) else p) = (clampN s p : Int) := by
  unfold clampN
  split
  · rfl
  · split
    · rfl
    · omega

end Go.Proofs.YthpjkgoahneldaaDoor
end

section
/-
  Chapter 3: the program's iterators, and what is told by them.
-/
namespace Go.Proofs.YthpjkgoahneldaaDoor
open Go Go.RowKit Vc Ut Tb Cl Orb

theorem pc_get {s : ByteArray} {k : Nat} (h : k < ncl s) : (pcL s)[k]? = some (pcP s k) := by
  unfold pcL; rw [List.getElem?_map, List.getElem?_range h]; rfl
theorem pc_len (s : ByteArray) : (pcL s).length = ncl s := by simp [pcL]
theorem pcr_get {s : ByteArray} {k : Nat} (h : k < ncl s) : (pcR s)[k]? = some (pcP s (ncl s - 1 - k)) := by
  unfold pcR; rw [List.getElem?_map, List.getElem?_range h]; rfl
theorem pcr_len (s : ByteArray) : (pcR s).length = ncl s := by simp [pcR]
theorem xs_of {l : List (Nat × ByteArray)} {k : Nat} {p : Nat × ByteArray} (h : l[k]? = some p) : (l.map encPc).getD k [] = encPc p := by
  simp only [List.getD_eq_getElem?_getD, List.getElem?_map, h]; rfl
theorem next_drop {s : ByteArray} {i : Nat} (hi : i ≤ ncl s) : nextL (s.extract (bp s i) s.size) + bp s i = bp s (i + 1) := bp_drop hi 1

theorem itPc_ok : itPc.Ok Tryd.prog 101 := by
  refine itPc_vc ⟨cnext_ok, trivial⟩ ?_
  rintro ⟨s, bx⟩ i W ⟨hb, hU, hsm⟩ hi
  dsimp only at hb hU hsm hi ⊢
  have hlen : ((pcL s).map encPc).length = ncl s := by rw [List.length_map, pc_len]
  refine ⟨⟨(0, i.D0), rfl, Nat.zero_le _, hi.j0, Mid.start (Ext.refl _) hi.d0⟩, ?_⟩
  rintro _ ⟨k, D⟩ w1 ⟨hk, hJ, hM⟩
  dsimp only at hk hJ hM ⊢
  have hUw : U8 w1 := hU.fr hM.fr (hi.cd _ (.inr (.inl rfl))) (hi.cd _ (.inr (.inr rfl)))
  have hbw : w1.heap[bx]? = some (.cells #[.string s] 9) := (hM.old (heap_lt hb) (hi.cd bx (.inl rfl))).trans hb
  have hle := bp_le s k
  refine ⟨s, box_cell hbw, ?_⟩
  refine bcase_mk (fun h => ?_) (fun h => ?_)
  · have hlt : k < ncl s := bp_lt.2 (by have := of_decide_eq_true h; omega)
    refine ⟨s, box_cell hbw, bp s k, rfl, hle, Nat.le_refl _, _, rfl, ⟨hUw, ext_size (n := bk s k) hsm⟩, ?_⟩
    rintro _ w2 ⟨rfl, hw2⟩
    have hnd := next_drop hk
    have hle1 := bp_le s (k + 1)
    have hbw2 := hw2.heap hbw
    have e3 : (bp s k : Int) + (nextL (s.extract (bp s k) s.size) : Int) = (bp s (k + 1) : Int) := by omega
    rw [e3]
    have hJ2 := hi.stab.use hJ hw2.size (fun q hq => hw2.block q (hq.elim (fun h => Nat.lt_of_lt_of_le h hM.fr.size) (hM.lt q)))
    have hM2 := hM.own (Fr.of_ext (S := fun _ => False) hw2) (fun q hq => hq.elim)
    refine ⟨s, box_cell hbw2, inr_i64 (by omega) (by omega), bp s k, rfl, bp s (k + 1), rfl, by omega, hle1, rfl, (k, D), ?_, ⟨by dsimp only; rw [hlen]; exact hlt, hJ2, hM2⟩, ?_⟩
    · rw [xs_of (pc_get hlt)]; rfl
    rintro b1 w3 ⟨D', hst, h1, h2⟩
    dsimp only at hst h1 h2
    have hM3 := hM2.step hst
    refine bcase_mk (fun hb1 => ?_) (fun hb1 => ?_)
    · exact ⟨D', hM3, .inr (h2 (by simpa using hb1))⟩
    · exact ⟨inr_i64 (by omega) (by omega), (k + 1, D'), rfl, ⟨hlt, h1 (by simpa using hb1), hM3⟩, by dsimp only; omega⟩
  · have hk2 : k = ncl s := by
      by_cases hc : k < ncl s
      · have := bp_lt.1 hc; have := of_decide_eq_false h; omega
      · omega
    subst hk2
    exact ⟨D, hM, .inl (by rw [hlen]; exact hJ)⟩


theorem cpieces_ok : (sIter 101).Ok Tryd.prog 65 := by
  refine cpieces_vc trivial ?_
  rintro s w _ b w1 hn
  exact ⟨b, rfl, by have := hn.1; omega, hn.heap, hn.ext⟩
theorem call_ok : (sIter 101).Ok Tryd.prog 55 := by
  refine call_vc ⟨cpieces_ok, trivial⟩ ?_
  rintro s w _
  refine ⟨s, rfl, trivial, ?_⟩
  rintro x w1 ⟨h1, h2, h3⟩
  exact ⟨x, rfl, h1, h2, h3⟩

/-- The blocks that a text's iterator looks into. -/
def cC (x : Nat) : Nat → Prop := fun q => q = x ∨ q = 0 ∨ q = 1
theorem cC_lt {x : Nat} {w : World} (hx : x < w.heap.size) (hU : U8 w) : ∀ q, cC x q → q < w.heap.size := by
  rintro q (rfl | rfl | rfl)
  · exact hx
  · exact hU.lt.1
  · exact hU.lt.2
theorem pc_iter {s : ByteArray} {b : Nat} {w : World} (h : w.heap[b]? = some (.cells #[.string s] 9)) (hU : U8 w) (hs : s.size ≤ 67108864) : IterAt Tryd.prog (itV 101 b) ((pcL s).map encPc) (cC b) w := by
  refine itPc_ok (s, b) w ⟨h, hU, hs⟩ (cC_lt (heap_lt h) hU) (fun W hW hq => ⟨(hq b (.inl rfl)).trans h, ?_, hs⟩)
  have k : ∀ (g o : Nat) (v : Value), itPc.C (s, b) g → w.cell? ⟨g, o, none⟩ = some v → W.cell? ⟨g, o, none⟩ = some v := fun g o v hg hc =>
    (World.cell?_of_block (w := w) (hq g hg)).trans hc
  exact ⟨fun c hc => k _ _ _ (.inr (.inl rfl)) (hU.1 c hc), fun i hi => ⟨k _ _ _ (.inr (.inr rfl)) (hU.2 i hi).1, k _ _ _ (.inr (.inr rfl)) (hU.2 i hi).2⟩⟩
def cB (g : GBk) : Nat → Prop := fun q => q = g.bl ∨ q = g.bs ∨ blk g.a = some q
theorem cB_lt {g : GBk} {w : World} (h : BkAt g w) : ∀ q, cB g q → q < w.heap.size := by
  rintro q (rfl | rfl | hq)
  · exact heap_lt h.1
  · exact heap_lt h.2.2
  · exact h.2.1.lt hq

theorem ends_len (s : ByteArray) : (endsI s).length = ncl s := by simp [endsI]
theorem ends_at {s : ByteArray} {i : Nat} (h : i < ncl s) : (endsI s)[i]? = some (bp s (i + 1) : Int) := by
  unfold endsI
  rw [List.getElem?_map, List.getElem?_range h]; rfl


theorem ones_one {a q : Nat} : ones [a] q ↔ q = a := by simp [ones]
theorem ones_two {a b q : Nat} : ones [a, b] q ↔ q = a ∨ q = b := by simp [ones]


theorem cis_ok : sIsB.Ok Tryd.prog 28 := by
  refine cis_vc ⟨cpieces_ok, trivial⟩ ?_
  rintro ⟨s, p⟩ w ⟨hU, hsm⟩ b w1 hn1 b1 w2 hn2
  dsimp only at hU hsm ⊢
  have hut := hU.lt
  have hs1 := hn1.size; have hs2 := hn2.size
  refine ⟨s, rfl, trivial, ?_⟩
  rintro x w3 ⟨hx, hxs, e23⟩
  have e02 := hn1.ext.trans hn2.ext
  have e03 := e02.trans e23
  have hU3 := hU.ext e03
  have hp3 := (hn2.ext.trans e23).heap hn1.heap
  have hb3 := e23.heap hn2.heap
  dsimp only [ptrB]
  have nd : ∀ q, q ≠ b1 → ¬ ones [b1] q := fun q hq h => hq (ones_one.1 h)
  refine ⟨pcL s, cC x, ones [b1], pc_iter hxs hU3 hsm, ⟨?_, ?_⟩, ⟨rfl, fun j hj => by omega, _, hb3⟩, ?_, ?_, ?_, ?_, ?_⟩
  · intro q hq; rw [ones_one] at hq; subst hq; exact heap_lt hb3
  · intro q hq
    refine ⟨cC_lt (heap_lt hxs) hU3 q hq, nd q ?_⟩
    rcases hq with h' | h' | h' <;> omega
  · rintro k D W W' ⟨rfl, hj, v, ha⟩ hsz hq
    exact ⟨rfl, hj, v, hq b1 _ (.inr (ones_one.2 rfl)) ha (.inl rfl)⟩
  · rintro _ k D W W' ⟨rfl, ha⟩ hsz hq
    exact ⟨rfl, hq b1 _ (.inr (ones_one.2 rfl)) ha (.inl rfl)⟩
  · rintro k pp D W hp ⟨rfl, hj, v, ha⟩ hM
    have hkl : k < ncl s := by have := (List.getElem?_eq_some_iff.1 hp).1; rwa [pc_len] at this
    rw [pc_get hkl] at hp
    cases hp
    have hpW := (hM.old (heap_lt hp3) (nd b (by omega))).trans hp3
    refine ⟨p, box_cell hpW, ?_⟩
    refine bcase_mk (fun h => ?_) (fun h => ?_)
    · have h : p ≤ (bp s k : Int) := by have := of_decide_eq_true h; exact this
      refine ⟨p, box_cell hpW, rfl, box_old ha, box_free ha, fun w6 hs6 => ⟨_, Step.stored hs6 (ones_one.2 rfl) hM.lt, rfl, ?_⟩⟩
      have hh := hs6.box ha
      have hv : ((pcP s k).1 : Int) == p ↔ isB s p = true := by
        show ((bp s k : Int) == p) = true ↔ _
        rw [beq_iff_eq, isB_iff]
        constructor
        · intro e; exact ⟨k, by omega, e⟩
        · rintro ⟨i, hi, e⟩
          by_cases hik : i < k
          · have := hj i hik; omega
          · have := bp_mono s (show k ≤ i by omega); omega
      rw [show (((pcP s k).1 : Int) == p) = isB s p from Bool.eq_iff_iff.2 hv] at hh
      exact hh
    · have h : (bp s k : Int) < p := by have := of_decide_eq_false h; exact Int.not_le.1 this
      refine ⟨_, Step.refl hM.lt, rfl, fun j hj' => ?_, v, ha⟩
      by_cases hjk : j = k
      · subst hjk; exact h
      · exact hj j (by omega)
  · rintro D W ⟨rfl, hj, v, ha⟩ hM
    rw [lenX_eq, pc_len] at hj
    have hpW := (hM.old (heap_lt hp3) (nd b (by omega))).trans hp3
    have eW : Ext w W := hM.ext e03 (fun q hq => by rw [ones_one] at hq; omega)
    refine ⟨p, box_cell hpW, rfl, box_old ha, box_free ha, fun w6 hs6 => ⟨_, box_cell (hs6.box ha), fun w7 ht => ⟨_, rfl, ?_, Ext.turn (eW.stored hs6 (by show _ ≤ b1; omega)) ht⟩⟩⟩
    have hv : (p == (s.size : Int)) = true ↔ isB s p = true := by
      rw [beq_iff_eq, isB_iff]
      constructor
      · intro e; exact ⟨ncl s, Nat.le_refl _, by rw [bp_end]; exact e.symm⟩
      · rintro ⟨i, hi, e⟩
        by_cases hik : i < ncl s
        · have := hj i hik; omega
        · have : i = ncl s := by omega
          subst this; rw [bp_end] at e; exact e.symm
    exact Bool.eq_iff_iff.2 hv
  · rintro D W ⟨rfl, ha⟩ hM
    have eW : Ext w W := hM.ext e03 (fun q hq => by rw [ones_one] at hq; omega)
    exact ⟨_, box_cell ha, fun w7 ht => ⟨_, rfl, rfl, Ext.turn eW ht⟩⟩

theorem clamp_min (s : ByteArray) (p : Int) : (if (s.size : Int) < (if (0 : Int) > p then (0 : Int) else p) then (s.size : Int) else if (0 : Int) > p then (0 : Int) else p) = (clampN s p : Int) := by
  unfold clampN
  split <;> split <;> (try split) <;> (try split) <;> omega

theorem bord_cons (s : ByteArray) : bordI s = 0 :: endsI s := by
  unfold bordI endsI
  rw [List.range_succ_eq_map, List.map_cons, List.map_map]
  rfl

end Go.Proofs.YthpjkgoahneldaaDoor
end

section
/-
  Clusters in plain words, second part: a text cut at a border; a bad byte stands alone; a cluster by itself.
-/
namespace Go.Proofs.YthpjkgoahneldaaDoor
open Go Go.RowKit Vc Ut Tb Cl Orb

theorem ee {s : ByteArray} {a b c d : Nat} (h : a + d ≤ b) : (s.extract a b).extract c d = s.extract (a + c) (a + d) := by
  rw [ByteArray.extract_extract, Nat.min_eq_left h]
theorem pcl_at (s : ByteArray) (k : Nat) : (pcL s)[k]? = if k < ncl s then some (pcP s k) else none := by
  unfold pcL
  rw [List.getElem?_map]
  split
  · rename_i h; rw [List.getElem?_range h]; rfl
  · rename_i h; rw [List.getElem?_eq_none (by simp; omega)]; rfl
theorem pcL_take {s : ByteArray} {n : Nat} (hn : n ≤ ncl s) : (pcL s).take n = pcL (s.extract 0 (bp s n)) := by
  apply List.ext_getElem?
  intro k
  rw [pcl_at, ncl_take hn, List.getElem?_take]
  split
  · rename_i h
    rw [pcl_at, if_pos (by omega)]
    unfold pcP
    rw [bp_take hn (by omega), bp_take hn (by omega), ee (by have := bp_mono s (show k + 1 ≤ n by omega); omega), Nat.zero_add, Nat.zero_add]
  · rfl
def upBy (k : Nat) (p : Nat × ByteArray) : Nat × ByteArray := (p.1 + k, p.2)
theorem pcL_drop {s : ByteArray} {n : Nat} (hn : n ≤ ncl s) : (pcL s).drop n = (pcL (s.extract (bp s n) s.size)).map (upBy (bp s n)) := by
  apply List.ext_getElem?
  intro k
  have h1 := ncl_drop hn
  rw [List.getElem?_drop, List.getElem?_map, pcl_at, pcl_at]
  by_cases h : n + k < ncl s
  · rw [if_pos h, if_pos (by omega)]
    have h2 := bp_drop hn k
    have h3 := bp_drop hn (k + 1)
    have h4 := bp_le s (n + (k + 1))
    unfold pcP upBy
    simp only [Option.map_some]
    rw [ee (by omega), h2, show bp s n + bp (s.extract (bp s n) s.size) k = bp s (n + k) from by omega, show bp s n + bp (s.extract (bp s n) s.size) (k + 1) = bp s (n + k + 1) from by rw [Nat.add_assoc]; omega]
  · rw [if_neg h, if_neg (by omega)]; rfl
theorem pcR_rev (s : ByteArray) : pcR s = (pcL s).reverse := by
  apply List.ext_getElem?
  intro k
  by_cases h : k < ncl s
  · rw [List.getElem?_reverse (by simp [pcL]; omega)]
    rw [pcl_at, if_pos (by simp [pcL]; omega)]
    unfold pcR
    rw [List.getElem?_map, List.getElem?_range h]
    simp [pcL]
  · rw [List.getElem?_eq_none (by simp [pcR]; omega), List.getElem?_eq_none (by simp [pcL]; omega)]
theorem pcV_flat (s : ByteArray) : (List.range (ncl s)).flatMap (pcV s) = (pcL s).flatMap encPc := by
  unfold pcL
  rw [List.flatMap_map]
  rfl

/-! ### Bad bytes -/

theorem goN_mem {s : ByteArray} {k : Nat} : ∀ {f n m : Nat}, n ≤ m → m < goN s k f n → goB s k m = true
  | 0, n, m, h1, h2 => by simp only [goN] at h2; omega
  | f + 1, n, m, h1, h2 => by
    simp only [goN] at h2
    split at h2
    · rename_i hg
      by_cases he : m = n
      · subst he; exact hg
      · exact goN_mem (by omega) h2
    · omega
/-- A bad byte is a cluster by itself. -/
theorem bad_alone {s : ByteArray} {k m : Nat} (h : m < firstN s k) (hb : isBad s (k + m) = true) : m = 0 ∧ firstN s k = 1 := by
  by_cases h0 : isBad s k = true
  · have : firstN s k = 1 := by unfold firstN; rw [if_pos h0]
    omega
  · have hm : m ≠ 0 := by rintro rfl; exact h0 hb
    exfalso
    unfold firstN at h
    rw [if_neg h0] at h
    split at h
    · rename_i hc
      have hm1 : m = 1 := by omega
      subst hm1
      simp only [crB, Bool.and_eq_true, beq_iff_eq] at hc
      have h10 := hc.2.2
      unfold sg at h10
      simp only [isBad, decide_eq_true_eq] at hb
      omega
    · split at h
      · omega
      · have := goN_mem (show 1 ≤ m by omega) h
        simp only [goB, Bool.and_eq_true] at this
        rw [hb] at this
        simp at this
theorem decodeN_high (n b0 b1 b2 b3 : Nat) (h : 245 ≤ b0) (hn : 1 ≤ n) : Lib.decodeN n b0 b1 b2 b3 = (65533, 1) := by
  unfold Lib.decodeN
  repeat' split
  all_goals first | rfl | omega
/-- A byte that belongs to no character. -/
theorem high_bad {s : ByteArray} {q : Nat} (h : q < s.size) (hb : 245 ≤ bt s q) : ∃ n, n < cnt s ∧ pos s n = q ∧ isBad s n = true := by
  obtain ⟨n, h1, h2⟩ := pos_lead h (by unfold cont; have := bt_lt s q; omega)
  refine ⟨n, h1, h2, ?_⟩
  unfold isBad dcN dcR
  rw [h2, dc_eq, decodeN_high _ _ _ _ _ hb (by omega)]
  rfl
theorem high_border {s : ByteArray} {q : Nat} (h : q < s.size) (hb : 245 ≤ bt s q) : ∃ i, i < ncl s ∧ bp s i = q ∧ bp s (i + 1) = q + 1 := by
  obtain ⟨k, h1, h2, h3⟩ := high_bad h hb
  obtain ⟨i, g1, g2, g3⟩ := orb_cover (first_fit s) h1
  have g1' : i < ncl s := g1
  have g2' : bk s i ≤ k := g2
  have g3' : k < bk s (i + 1) := g3
  rw [bk_succ g1'] at g3'
  obtain ⟨e1, e2⟩ := bad_alone (s := s) (k := bk s i) (m := k - bk s i) (by omega) (by rw [show bk s i + (k - bk s i) = k from by omega]; exact h3)
  have hk : bk s i = k := by omega
  refine ⟨i, g1', by unfold bp; rw [hk, h2], ?_⟩
  unfold bp
  rw [bk_succ g1', e2, hk, pos_succ (by rw [h2]; exact h), h2]
  simp only [isBad, decide_eq_true_eq] at h3
  rw [h2] at h3
  rw [h3.1]

/-! ### A cluster by itself -/

theorem pc_own {s : ByteArray} {i : Nat} (hi : i < ncl s) : ∃ t, (pcP s i).2 = t.extract 0 (bp t 1) ∧ 1 ≤ ncl t ∧ 0 < cnt t := by
  have h1 := ncl_drop (s := s) (k := i) (by omega)
  have h2 := bp_drop (s := s) (k := i) (by omega) 1
  have h3 := bp_le s (i + 1)
  refine ⟨s.extract (bp s i) s.size, ?_, by omega, ?_⟩
  · unfold pcP
    rw [ee (by omega), show bp s i + bp (s.extract (bp s i) s.size) 1 = bp s (i + 1) from by omega]
    rfl
  · have := (bk_lt (s := s.extract (bp s i) s.size) (i := 0)).1 (by omega)
    omega
theorem own_laws {t : ByteArray} (h1 : 1 ≤ ncl t) (h0 : 0 < cnt t) : ncl (t.extract 0 (bp t 1)) = 1 ∧ bp (t.extract 0 (bp t 1)) 1 = (t.extract 0 (bp t 1)).size ∧
    1 ≤ cnt (t.extract 0 (bp t 1)) ∧ cnt (t.extract 0 (bp t 1)) ≤ 32 ∧ (badL (t.extract 0 (bp t 1)) ≠ [] → (t.extract 0 (bp t 1)).size = 1) := by
  have hf := first_fit t 0 h0
  have hk : bk t 1 = firstN t 0 := by
    have := bk_succ (s := t) (i := 0) (by omega)
    rw [show bk t 0 = 0 from rfl] at this
    simpa using this
  refine ⟨ncl_take h1, ?_, ?_, ?_, ?_⟩
  · rw [bp_take h1 (by omega), size_ext (bp_le t 1)]; omega
  · rw [cnt_cut, hk]; omega
  · rw [cnt_cut, hk]; exact first_le t h0
  · intro hb
    have hc := cnt_cut (s := t) 1
    obtain ⟨p, hp⟩ := List.exists_mem_of_ne_nil _ hb
    unfold badL at hp
    obtain ⟨n, hn, _⟩ := List.mem_map.1 hp
    obtain ⟨hn1, hn2⟩ := List.mem_filter.1 hn
    rw [List.mem_range, hc] at hn1
    have hb2 : isBad t n = true := by
      have := bad_take (s := t) hn1 (bk_le t 1)
      rw [← this]; exact hn2
    have := bad_alone (s := t) (k := 0) (m := n) (by omega) (by simpa using hb2)
    have hn0 : n = 0 := this.1
    subst hn0
    rw [size_ext (bp_le t 1)]
    unfold bp
    rw [hk, this.2, pos_succ (n := 0) (cnt_lt.1 h0)]
    simp only [isBad, decide_eq_true_eq] at hb2
    rw [hb2.1]; rfl

/-! ### Places -/

theorem at_in {s : ByteArray} {i q : Nat} (hi : i < ncl s) (h1 : bp s i ≤ q) (h2 : q < bp s (i + 1)) : ixP s (clampN s (q : Int)) = i := by
  have hc : clampN s (q : Int) = q := by
    have := bp_le s (i + 1)
    unfold clampN
    rw [if_neg (by omega), if_neg (by omega)]; rfl
  rw [hc]
  unfold ixP
  rw [List.find?_range_eq_some.2 ⟨by simpa using h2, by simpa using hi, fun j hj => by have := bp_mono s (show j + 1 ≤ i by omega); simp; omega⟩]
  rfl
theorem at_end {s : ByteArray} {p : Int} (h : (s.size : Int) ≤ p) : ixP s (clampN s p) = ncl s := by
  have hc : clampN s p = s.size := by
    unfold clampN
    rw [if_neg (by omega)]
    split
    · rfl
    · omega
  rw [hc]
  unfold ixP
  rw [List.find?_eq_none.2 (fun j hj => by have := bp_le s (j + 1); simp; omega)]
  rfl

end Go.Proofs.YthpjkgoahneldaaDoor
end

section
/-
  Chapter 3: facts that the laws' walks share.
-/
namespace Go.Proofs.YthpjkgoahneldaaDoor
open Go Go.RowKit Vc Ut Tb Cl Orb

theorem Row.offS {W : World} {e t : TypeId} {n c q s : Nat} {a : Option Addr} {vs : List Value} {cs : Array Value} (h : Row W e s a n vs c) (hq : W.heap[q]? = some (.cells cs t)) (hne : t ≠ e) : blk a ≠ some q := by
  intro he
  rcases h.2 with ⟨rfl, _⟩ | ⟨g, cur, rfl, h1, _⟩
  · cases he
  · cases he
    rw [hq] at h1
    simp only [Option.some.injEq, Obj.cells.injEq] at h1
    exact hne h1.2.1
theorem GrowS.keep {W W' : World} {box s n : Nat} {t e : TypeId} {a : Option Addr} {c : Nat} {vs : List Value} (h : GrowS W box t e s n a c vs) (hk : ∀ q, q = box ∨ blk a = some q → W'.heap[q]? = W.heap[q]?) : GrowS W' box t e s n a c vs :=
  ⟨(hk box (.inl rfl)).trans h.hb, h.row.keep fun g hg => hk g (.inr hg)⟩
theorem GrowS.push {P : Program} {W w1 : World} {box b s n : Nat} {t tt ty e : TypeId} {bytes c : Nat} {a : Option Addr} {vs news : List Value} (hE : ElemOk P tt e s bytes) (hs0 : 0 < s) (h : GrowS W box t e s n a c vs) (hne : t ≠ e) (hn : New W (.cells news.toArray e) b w1) (hl : news.length = 1 * s)
    (hv : ∀ u ∈ news, u.oneCell' = true) (h63 : n + 1 ≤ maxLen) (hb : (n + 1) * bytes ≤ 140737488355328) :
    ∃ a' c' w2, AppRun P #[tt, tt] ty (.slice a n c) (.slice (some ⟨b, 0, none⟩) 1 1) w1 a' (n + 1) c' w2 ∧ KO w1 w2 ∧ (∃ old, w2.cell? ⟨box, 0, none⟩ = some old) ∧ w2.frozen? ⟨box, 0, none⟩ = false ∧
      ∀ {w3 : World}, Stored w2 ⟨box, 0, none⟩ (.slice a' (n + 1) c') w3 → GrowS w3 box t e s (n + 1) a' c' (vs ++ news) ∧ Fr (fun q => q = box ∨ blk a = some q) W w3 ∧ (∀ q, blk a' = some q → blk a = some q ∨ W.heap.size ≤ q) := by
  obtain ⟨a', c', w2, hr, hko, hrow, hg, hor, _⟩ := h.row.pushN (P := P) (ty := ty) hE hs0 (m := 1) (news := news) hn hl hv h63 (.inr hb)
  have hb1 := hn.ext.heap h.hb
  have hoff := Row.offS h.row h.hb hne
  have hb2 : w2.heap[box]? = some (.cells #[.slice a n c] t) := (hg.block box (heap_lt hb1) (fun e => hoff e.symm)).trans hb1
  refine ⟨a', c', w2, hr, hko, box_old hb2, box_free hb2, fun {w3} hs => ?_⟩
  have hoff' : ∀ q, blk a' = some q → blk a = some q ∨ W.heap.size ≤ q := by
    intro q hq
    rcases hor with rfl | ⟨rfl, _⟩
    · exact .inl hq
    · simp [blk] at hq; subst hq; exact .inr hn.ext.size
  have hne' : blk a' ≠ some box := fun he => by
    rcases hoff' box he with h1 | h1
    · exact hoff h1
    · have := heap_lt h.hb; omega
  refine ⟨⟨hs.box hb2, hrow.keep fun g hg' => hs.other (by show g ≠ box; rintro rfl; exact hne' hg')⟩, ?_, hoff'⟩
  refine ((Fr.of_ext (S := fun q => q = box ∨ blk a = some q) hn.ext).trans (Fr.grown hg) (fun x _ hx => .inr hx)).trans (Fr.stored hs) (fun x _ hx => .inl hx)

theorem enc_one (p : Nat × ByteArray) : ∀ u ∈ encPc p, u.oneCell' = true := by
  intro u hu
  simp only [encPc, List.mem_cons, List.not_mem_nil, or_false] at hu
  rcases hu with rfl | rfl <;> rfl
theorem enc_at {l : List (Nat × ByteArray)} {i j : Nat} {p : Nat × ByteArray} (h : l[i]? = some p) (hj : j < 2) : (l.flatMap encPc)[i * 2 + j]? = (encPc p)[j]? := flat_at (f := encPc) (s := 2) (fun _ => rfl) h hj
theorem take_flat {l : List (Nat × ByteArray)} {k : Nat} {p : Nat × ByteArray} (h : l[k]? = some p) : (l.take (k + 1)).flatMap encPc = (l.take k).flatMap encPc ++ encPc p := by
  rw [List.take_add_one, h, List.flatMap_append]; simp

theorem yes_ext {w w' : World} (h : Ext w w') : ∃ (_ : Unit), Value.bool true = Value.bool true ∧ Ext w w' := ⟨(), rfl, h⟩

theorem mod_nat {a : Int} {n : Nat} : a.tmod ((n : Int) + 1) < (n : Int) + 1 ∧ -((n : Int) + 1) < a.tmod ((n : Int) + 1) := by
  have h1 := Int.tmod_lt_of_pos a (b := (n : Int) + 1) (by omega)
  have h2 := Int.lt_tmod_of_pos a (b := (n : Int) + 1) (by omega)
  omega

theorem pc_cell {w : World} {s : ByteArray} {a : Option Addr} {k : Nat} {j : Nat} {v : Value} {K : Nat → Nat → Prop} (h : CellsAt w a ((pcL s).flatMap encPc)) (hk : k < ncl s) (hj : j < 2) (hv : (encPc (pcP s k))[j]? = some v)
    (hK : ∀ b o, w.cell? ⟨b, o + k * 2 + j, none⟩ = some v → K b o) : ptrE a K := h.fld (s := 2) (by rw [enc_at (pc_get hk) hj]; exact hv) hK
theorem upP_zero (l : List (Nat × ByteArray)) : l.map (upP 0) = l := by
  rw [List.map_congr_left (g := id) (fun p _ => by cases p; rfl), List.map_id]
theorem pc_le {s : ByteArray} (hs : s.size ≤ 67108864) : ∀ p ∈ pcL s, p.1 ≤ 67108864 := by
  intro p hp
  obtain ⟨i, _, rfl⟩ := List.mem_map.1 hp
  have := bp_le s i
  show bp s i ≤ _
  omega
theorem pc_sz {s : ByteArray} {i : Nat} : ((pcP s i).2.size : Int) = (bp s (i + 1) : Int) - bp s i := ext_sz (bp_le s _) (bp_mono s (by omega))

theorem flat_take {α : Type} {f : α → List Value} {s : Nat} (hf : ∀ x, (f x).length = s) : ∀ (l : List α) (n : Nat), (l.flatMap f).take (n * s) = (l.take n).flatMap f
  | [], n => by simp
  | x :: l, 0 => by simp
  | x :: l, n + 1 => by
    rw [List.flatMap_cons, List.take_succ_cons, List.flatMap_cons, List.take_append, hf, List.take_of_length_le (by rw [hf, Nat.add_mul]; omega), show (n + 1) * s - s = n * s from by rw [Nat.add_mul]; omega, flat_take hf l n]


end Go.Proofs.YthpjkgoahneldaaDoor
end
