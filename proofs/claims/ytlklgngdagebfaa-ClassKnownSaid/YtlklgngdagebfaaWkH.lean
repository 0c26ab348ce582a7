/-
  Chapter 2: the stretches of a value rise, do not touch, and hold just what the functions say.
-/
import Derived.Test.YtlklgngdagebfaaWkG
set_option linter.unusedVariables false
set_option linter.unusedSimpArgs false
namespace Go.Proofs.Ytlklgngdagebfaa
open Go Go.RowKit Vc Tb

theorem isF_not {t r : Int} (h : ¬ chr r) (h0 : 0 ≤ t) (h5 : t ≤ 5) : isF t r = isF t 65533 := by
  obtain ⟨T, _, _, _, _, _, hl⟩ := tab_of h0 h5
  rw [hl, hl, known_not h]; rfl

/-- Each stretch by itself. -/
theorem span_each {t v : Int} (h0 : 0 ≤ t) (h5 : t ≤ 5) {i : Nat} {p : Int × Int} (hp : (spansT t v)[i]? = some p) : 0 ≤ p.1 ∧ p.1 ≤ p.2 ∧ p.2 ≤ 1114111 ∧ (p.1 < 57344 → p.2 ≤ 55295) ∧ ∀ q, p.1 ≤ q → q ≤ p.2 → isF t q = v := by
  obtain ⟨T, hT, ha, _, _, hs, hl⟩ := tab_of h0 h5
  rw [hs] at hp
  have hm := pick_mem (List.mem_of_getElem? hp)
  obtain ⟨g1, ⟨g2, g3, g4⟩, g5, g6, g7, g8⟩ := segs_each hT 300 0 (.inl (by unfold chr; omega)) _ hm
  dsimp only at g1 g2 g3 g4 g5 g6 g7 g8
  refine ⟨g2, g5, g6, by omega, fun q h1 h2 => ?_⟩
  rw [hl, known_chr (show chr q by unfold chr; omega)]
  exact g8 q h1 h2
theorem span_apart {t v : Int} (h0 : 0 ≤ t) (h5 : t ≤ 5) {i : Nat} {p q : Int × Int} (hp : (spansT t v)[i]? = some p) (hq : (spansT t v)[i + 1]? = some q) : p.2 + 1 < q.1 := by
  obtain ⟨T, hT, ha, _, _, hs, hl⟩ := tab_of h0 h5
  rw [hs] at hp hq
  have h := pick_apart v ha (fun p hp => (segs_each hT 300 0 (.inl (by unfold chr; omega)) p hp).2.2.1)
  obtain ⟨h1, e1⟩ := List.getElem?_eq_some_iff.1 hp
  obtain ⟨h2, e2⟩ := List.getElem?_eq_some_iff.1 hq
  have := List.pairwise_iff_getElem.1 h i (i + 1) h1 h2 (by omega)
  rw [e1, e2] at this
  exact this
theorem span_count {t v r : Int} (h0 : 0 ≤ t) (h5 : t ≤ 5) (hr : chr r) : (spansT t v).countP (inS r) = if isF t r = v then 1 else 0 := by
  obtain ⟨T, hT, ha, _, _, hs, hl⟩ := tab_of h0 h5
  rw [hs, segs_count hT v r hr 300 0 (.inl (by unfold chr; omega)) hT.done, hl, known_chr hr]
  by_cases h : (findF T r).1 = v
  · rw [if_pos ⟨hr.1, h⟩, if_pos h]
  · rw [if_neg (fun h' => h h'.2), if_neg h]

theorem lawHold_ok : sHold.Ok Try.prog 7 := by
  refine lawHold_vc ⟨spans_ok, is_ok, works_ok, trivial⟩ ?_
  rintro ⟨t, v, r⟩ w _
  dsimp only
  refine ⟨(), rfl, trivial, ?_⟩
  rintro _ w1 e1
  refine ⟨(t, v), rfl, trivial, ?_⟩
  rintro ⟨a, n, c⟩ w2 ⟨hn, hm⟩
  dsimp only at hn hm ⊢
  have e2 := e1.trans hm.ext
  refine bcase_mk (fun h => ?_) (fun h => ?_)
  · have h : t < 0 ∨ 5 < t := by simpa using h
    refine ⟨(), ?_, e2⟩
    rw [hn, tab_none h]; rfl
  have h : ¬ t < 0 ∧ ¬ 5 < t := by simpa using h
  have h0 : 0 ≤ t := by omega
  have h5 : t ≤ 5 := by omega
  have hlen := spansT_len t v
  have hE := @span_each t v h0 h5
  have hA := @span_apart t v h0 h5
  have hC := @span_count t v r h0 h5
  subst hn
  generalize hl : spansT t v = l at hm hlen hE hA hC ⊢
  have hc := hm.row.cells
  refine ⟨⟨0, rfl, Nat.zero_le _, Ext.refl _⟩, ?_⟩
  rintro _ i w3 ⟨hi, e3⟩
  have hc3 := hc.ext e3
  refine bcase_mk (fun h => ?_) (fun h => ?_)
  · have hlt : i < l.length := by simp only [decide_eq_true_eq] at h; omega
    obtain ⟨p, hp⟩ : ∃ p, l[i]? = some p := ⟨l[i], List.getElem?_eq_getElem hlt⟩
    obtain ⟨p1, p2, p3, p4, p5⟩ := hE hp
    refine ⟨i, rfl, hlt, hc3.elem (k := i) (s := 2) (by decide) (by rw [spV_len]; omega) fun b o hb => ⟨p.1, ?_, p.2, ?_, ?_⟩⟩
    · exact hb 0 _ (by rw [flat_at (f := spV) (s := 2) (fun _ => rfl) hp (by omega)]; rfl)
    · exact hb 1 _ (by rw [flat_at (f := spV) (s := 2) (fun _ => rfl) hp (by omega)]; rfl)
    intro b1 w4 hn4
    have k0 : w4.cell? ⟨b1, 0, none⟩ = some (.int .i32 p.1) := by rw [hn4.cell]; rfl
    have k1 : w4.cell? ⟨b1, 1, none⟩ = some (.int .i32 p.2) := by rw [hn4.cell]; rfl
    have e4 := e3.trans hn4.ext
    have tail : ∀ w5 : World, Ext w4 w5 → i > 0 → CellsAt w4 a (l.flatMap spV) → ∃ n8 : Int, w4.cell? ⟨b1, 0, none⟩ = some (.int .i32 n8) ∧ InR .i64 ((i : Int) - 1) ∧ ∃ k1 : Nat, (i : Int) - 1 = (k1 : Int) ∧ k1 < l.length ∧ ptrE a fun b2 o1 => ∃ n9 : Int, w4.cell? ⟨b2, o1 + k1 * 2 + 1, none⟩ = some (.int .i32 n9) ∧ InR .i32 (n9 + 1) ∧
        ∃ _ : Unit, Value.bool (decide (n8 ≤ n9 + 1)) = .bool false ∧ Ext w4 w5 := by
      intro w5 h45 hpos hc4
      obtain ⟨q, hq⟩ : ∃ q, l[i - 1]? = some q := ⟨l[i - 1]'(by omega), List.getElem?_eq_getElem (by omega)⟩
      obtain ⟨q1, q2, q3, q4, q5⟩ := hE hq
      have hap := hA hq (by rw [Nat.sub_add_cancel hpos]; exact hp)
      refine ⟨_, k0, inr_i64 (by omega) (by omega), i - 1, by omega, by omega, hc4.fld (k := i - 1) (s := 2) (j := 1) (v := .int .i32 q.2) (by rw [flat_at (f := spV) (s := 2) (fun _ => rfl) hq (by omega)]; rfl) fun b2 o2 hb2 => ⟨_, hb2, inr_i32 (by omega) (by omega), (), ?_, h45⟩⟩
      rw [decide_eq_false (by omega)]
    refine ⟨?_, ?_⟩
    · intro w5 h45
      have h45 := h45.ext
      have no : ∀ {P : Prop} [Decidable P], ¬ P → bcase (decide P) = fun _ B => B := by
        intro P _ hP; rw [decide_eq_false hP]; rfl
      refine ⟨_, k0, _, k1, bcase_mk (fun h => absurd (of_decide_eq_true h) (by omega)) fun _ => ⟨_, k0, bcase_mk (fun h => absurd (of_decide_eq_true h) (by omega)) fun _ => ⟨_, k1, bcase_mk (fun h => absurd (of_decide_eq_true h) (by omega)) fun _ => ⟨_, k0, bcase_mk (fun h => ?_) fun h => ?_⟩⟩⟩⟩
      · have h := of_decide_eq_true h
        refine ⟨_, k1, bcase_mk (fun h => absurd (of_decide_eq_true h) (by omega)) fun _ => bcase_mk (fun h => ?_) fun _ => ⟨(), rfl, h45⟩⟩
        have h := of_decide_eq_true h
        exact tail w5 h45 (by omega) (hc3.ext hn4.ext)
      · refine bcase_mk (fun h => ?_) fun _ => ⟨(), rfl, h45⟩
        have h := of_decide_eq_true h
        exact tail w5 h45 (by omega) (hc3.ext hn4.ext)
    rintro _ _ w5 e5
    have k0' := e5.cell k0
    have k1' := e5.cell k1
    refine ⟨?_, ?_⟩
    · refine ⟨_, k0', (t, p.1), rfl, trivial, ?_⟩
      rintro _ w6 ⟨rfl, e6⟩
      dsimp only
      refine bcase_mk (fun h => ?_) (fun _ => ?_)
      · rw [p5 p.1 (by omega) p2] at h; simp at h
      refine ⟨_, e6.cell k1', (t, p.2), rfl, trivial, ?_⟩
      rintro _ w7 ⟨rfl, e7⟩
      dsimp only
      refine bcase_mk (fun h => ?_) (fun _ => ?_)
      · rw [p5 p.2 p2 (by omega)] at h; simp at h
      refine ⟨_, e7.cell (e6.cell k0'), _, e7.cell (e6.cell k1'), _, e7.cell (e6.cell k0'), inr_i32 (by omega) (by omega), by omega, by omega, inr_i32 (by omega) (by omega), inr_i32 (by omega) (by omega), (t, _), rfl, trivial, ?_⟩
      rintro _ w8 ⟨rfl, e8⟩
      refine ⟨(), ?_, (e6.trans e7).trans e8⟩
      dsimp only
      rw [p5 _ (by omega) (by omega)]
      simp
    rintro _ _ w6 e6
    exact ⟨inr_i64 (by omega) (by omega), i + 1, by simp, ⟨hlt, (e4.trans e5).trans e6⟩, by omega⟩
  clear h
  refine bcase_mk (fun h => ?_) (fun h => ?_)
  · refine ⟨(t, r), rfl, trivial, ?_⟩
    rintro _ w4 ⟨rfl, e4⟩
    refine ⟨(t, 65533), rfl, trivial, ?_⟩
    rintro _ w5 ⟨rfl, e5⟩
    refine ⟨(), ?_, ((e2.trans e3).trans e4).trans e5⟩
    dsimp only
    rw [isF_not (t := t) (r := r) (by simp only [Bool.or_eq_true, Bool.and_eq_true, decide_eq_true_eq] at h; unfold chr; omega) h0 h5]
    simp
  · have hr : chr r := by
      simp only [Bool.or_eq_false_iff, Bool.and_eq_false_iff, decide_eq_false_iff_not] at h
      unfold chr; omega
    refine ⟨⟨0, rfl, rfl, Nat.zero_le _, Ext.refl _⟩, ?_⟩
    rintro _ i w4 ⟨hi, e4⟩
    have hc4 := hc3.ext e4
    have hcb : ∀ k, (l.take k).countP (inS r) ≤ 300 := fun k => Nat.le_trans List.countP_le_length (Nat.le_trans (by rw [List.length_take]; omega) hlen)
    have hci := hcb i
    refine bcase_mk (fun h => ?_) (fun h => ?_)
    · have hlt : i < l.length := by simp only [decide_eq_true_eq] at h; omega
      obtain ⟨p, hp⟩ : ∃ p, l[i]? = some p := ⟨l[i], List.getElem?_eq_getElem hlt⟩
      have hs : (l.take (i + 1)).countP (inS r) = (l.take i).countP (inS r) + if inS r p = true then 1 else 0 := by
        rw [List.take_add_one, hp, List.countP_append]
        simp only [Option.toList, List.countP_singleton]
      refine ⟨i, rfl, hlt, hc4.fld (k := i) (s := 2) (j := 0) (v := .int .i32 p.1) (by rw [flat_at (f := spV) (s := 2) (fun _ => rfl) hp (by omega)]; rfl) fun b o hb => ⟨_, hb, bcase_mk (fun h1 => ?_) (fun h1 => ?_)⟩⟩
      · have h1 := of_decide_eq_true h1
        refine ⟨i, rfl, hlt, hc4.fld (k := i) (s := 2) (j := 1) (v := .int .i32 p.2) (by rw [flat_at (f := spV) (s := 2) (fun _ => rfl) hp (by omega)]; rfl) fun b o hb => ⟨_, hb, bcase_mk (fun h2 => ?_) (fun h2 => ?_)⟩⟩
        · have h2 := of_decide_eq_true h2
          refine ⟨inr_i64 (by omega) (by omega), inr_i64 (by omega) (by omega), i + 1, by simp, ?_, ⟨hlt, e4⟩, by omega⟩
          rw [hs, if_pos (by unfold inS; simp; omega)]
          simp
        · have h2 := of_decide_eq_false h2
          refine ⟨inr_i64 (by omega) (by omega), i + 1, by simp, ?_, ⟨hlt, e4⟩, by omega⟩
          rw [hs, if_neg (by unfold inS; simp; omega)]
          rfl
      · have h1 := of_decide_eq_false h1
        refine ⟨inr_i64 (by omega) (by omega), i + 1, by simp, ?_, ⟨hlt, e4⟩, by omega⟩
        rw [hs, if_neg (by unfold inS; simp; omega)]
        rfl
    · have hlt : i = l.length := by simp only [decide_eq_false_iff_not] at h; omega
      subst hlt
      rw [List.take_length]
      have hcr := hC hr
      have h1 : l.countP (inS r) ≤ 1 := by rw [hcr]; split <;> omega
      refine bcase_mk (fun _ => ?_) (fun h => absurd (of_decide_eq_false h) (by omega))
      refine ⟨(t, r), rfl, trivial, ?_⟩
      rintro _ w5 ⟨rfl, e5⟩
      refine ⟨(), ?_, ((e2.trans e3).trans e4).trans e5⟩
      dsimp only
      rw [hcr]
      by_cases hv : isF t r = v
      · rw [if_pos hv, hv]; simp
      · rw [if_neg hv]
        have : (isF t r == v) = false := beq_eq_false_iff_ne.2 hv
        rw [this]; rfl

end Go.Proofs.Ytlklgngdagebfaa
