/-
  Chapter 2: the stretches of all values tile all characters; what is alike.
-/
import Derived.Test.YtlklgngdagebfaaWkG
set_option linter.unusedVariables false
set_option linter.unusedSimpArgs false
namespace Go.Proofs.Ytlklgngdagebfaa
open Go Go.RowKit Vc Tb

theorem lenF_take {l : List (Int × Int)} {i : Nat} {p : Int × Int} (hp : l[i]? = some p) : lenF (l.take (i + 1)) = lenF (l.take i) + ((p.2 - p.1).toNat + 1) := by
  induction l generalizing i with
  | nil => simp at hp
  | cons q l ih =>
    cases i with
    | zero => simp at hp; subst hp; simp [lenF]
    | succ i =>
      have := ih (i := i) (by simpa using hp)
      simp only [List.take_succ_cons, lenF]
      omega
theorem lenF_le (l : List (Int × Int)) (i : Nat) : lenF (l.take i) ≤ lenF l := by
  induction l generalizing i with
  | nil => simp
  | cons q l ih =>
    cases i with
    | zero => simp [lenF]
    | succ i =>
      have := ih i
      simp only [List.take_succ_cons, lenF]
      omega
theorem til_mono (t : Int) {a b : Nat} (h : a ≤ b) : tilF t a ≤ tilF t b := by
  induction b with
  | zero => have : a = 0 := by omega
            subst this; exact Nat.le_refl _
  | succ b ih =>
    by_cases hb : a = b + 1
    · subst hb; exact Nat.le_refl _
    · have := ih (by omega); simp only [tilF]; omega
theorem til_some {t : Int} (h0 : 0 ≤ t) (h5 : t ≤ 5) : tilF t 262 = 1112064 := by
  obtain ⟨T, hT, ha, hS, hv, hs, hl⟩ := tab_of h0 h5
  have e : ∀ k, tilF t k = tilL (segsF T 300 0) k := by
    intro k
    induction k with
    | zero => rfl
    | succ k ih => simp only [tilF, tilL, ih, hs]
  rw [e, tilL_all, hS]
  rw [List.all_eq_true]
  intro p hp
  have := hv p hp
  simp only [Bool.and_eq_true, decide_eq_true_eq]
  omega
theorem til_none {t : Int} (h : t < 0 ∨ 5 < t) : ∀ k, tilF t k = 0
  | 0 => rfl
  | k + 1 => by simp only [tilF, til_none h k, tab_none h]; rfl
theorem til_le (t : Int) {k : Nat} (hk : k ≤ 262) : tilF t k ≤ 1112064 := by
  by_cases h : 0 ≤ t ∧ t ≤ 5
  · rw [← til_some h.1 h.2]; exact til_mono t hk
  · rw [til_none (by omega)]; omega
theorem span_bd {t v : Int} {i : Nat} {p : Int × Int} (hp : (spansT t v)[i]? = some p) : 0 ≤ p.1 ∧ p.1 ≤ p.2 ∧ p.2 ≤ 1114111 := by
  by_cases h : 0 ≤ t ∧ t ≤ 5
  · obtain ⟨T, hT, ha, _, _, hs, hl⟩ := tab_of h.1 h.2
    rw [hs] at hp
    obtain ⟨g1, ⟨g2, g3, g4⟩, g5, g6, g7⟩ := segs_each hT 300 0 (.inl (by unfold chr; omega)) _ (pick_mem (List.mem_of_getElem? hp))
    exact ⟨g2, g5, g6⟩
  · rw [tab_none (by omega)] at hp; simp at hp

theorem lawTil_ok : sLawT.Ok Try.prog 8 := by
  refine lawTil_vc ⟨spans_ok, works_ok, trivial⟩ ?_
  intro t w _
  refine ⟨(), rfl, trivial, ?_⟩
  rintro _ w1 e1
  refine ⟨⟨0, rfl, rfl, Nat.zero_le _, Ext.refl _⟩, ?_⟩
  rintro _ k w2 ⟨hk, e2⟩
  have hkb := til_le t hk
  refine bcase_mk (fun h => ?_) (fun h => ?_)
  · have hlt : k < 262 := by have := of_decide_eq_true h; omega
    refine ⟨(t, _), rfl, trivial, ?_⟩
    rintro ⟨a, n, c⟩ w3 ⟨hn, hm⟩
    dsimp only at hn hm ⊢
    have hb := @span_bd t ((k : Int) - 1)
    have hlen := spansT_len t ((k : Int) - 1)
    have hk1 : tilF t k + lenF (spansT t ((k : Int) - 1)) ≤ 1112064 := til_le t (k := k + 1) (by omega)
    refine ⟨⟨(k, 0), rfl, by simp [lenF], hlt, rfl, Nat.zero_le _, Ext.refl _⟩, ?_⟩
    rintro _ ⟨k', i⟩ w4 ⟨hk', hkk, hi, e4⟩
    dsimp only at hk' hkk hi ⊢
    obtain rfl : k' = k := by omega
    have hc := hm.row.cells.ext e4
    subst hn
    generalize hl : spansT t ((k' : Int) - 1) = l at hm hb hlen hk1 hi hc ⊢
    refine bcase_mk (fun h => ?_) (fun h => ?_)
    · have hil : i < l.length := by have := of_decide_eq_true h; omega
      obtain ⟨p, hp⟩ : ∃ p, l[i]? = some p := ⟨l[i], List.getElem?_eq_getElem hil⟩
      obtain ⟨p1, p2, p3⟩ := hb hp
      have hs := lenF_take hp
      have hle := lenF_le l (i + 1)
      intro w5 hd
      refine ⟨i, rfl, hil, hc.fld (k := i) (s := 2) (j := 1) (v := .int .i32 p.2) (by rw [flat_at (f := spV) (s := 2) (fun _ => rfl) hp (by omega)]; rfl) fun b o hb => ⟨_, hb, i, rfl, hil, hc.fld (k := i) (s := 2) (j := 0) (v := .int .i32 p.1) (by rw [flat_at (f := spV) (s := 2) (fun _ => rfl) hp (by omega)]; rfl) fun b' o' hb' => ⟨_, hb', ?_⟩⟩⟩
      refine ⟨inr_i32 (by omega) (by omega), inr_i64 (by omega) (by omega), Below.refl _ _, inr_i64 (by omega) (by omega), inr_i64 (by omega) (by omega), inr_i64 (by omega) (by omega), (k', i + 1), by simp, ?_, ⟨hk', rfl, by dsimp only; rw [hl]; omega, e4.trans hd.ext⟩, by dsimp only; rw [hl]; omega⟩
      dsimp only
      rw [hl, hs]
      congr 1
      omega
    · have hil : i = l.length := by have := of_decide_eq_false h; omega
      subst hil
      refine ⟨inr_i64 (by omega) (by omega), k' + 1, by congr 1; omega, ?_, ⟨by omega, (e2.trans hm.ext).trans e4⟩, by omega⟩
      rw [List.take_length, ← hl]; rfl
  · have hk : k = 262 := by have := of_decide_eq_false h; omega
    subst hk
    refine bcase_mk (fun h => ⟨(), ?_, e1.trans e2⟩) (fun h => ⟨(), ?_, e1.trans e2⟩)
    · have h : t < 0 ∨ 5 < t := by simpa using h
      rw [til_none h]; rfl
    · have h : ¬ t < 0 ∧ ¬ 5 < t := by simpa using h
      rw [til_some (by omega) (by omega)]; rfl

/-- What the law says, number by number. -/
theorem alike_is (r : Int) : ((kindR r = 2 ↔ dirR r = 8) ∧ (kindR r = 2 ↔ joinR r = 4) ∧ (kindR r = 2 → wideR r true = 0) ∧ (0 < markR r → kindR r = 2) ∧ (kindR r = 0 ∨ kindR r = 1 → wideR r true = 0)) ∧ wideR r false ≤ wideR r true := by
  have h := alike_all r
  have hw := wid_range r
  simp only [alikeB, Bool.and_eq_true, Bool.or_eq_true, Bool.not_eq_true', beq_iff_eq, decide_eq_decide, decide_eq_true_eq, decide_eq_false_iff_not, Bool.or_eq_false_iff] at h
  obtain ⟨⟨⟨⟨h1, h2⟩, h3⟩, h4⟩, h5⟩ := h
  have hz : widR r = 0 → wideR r true = 0 := fun h => by unfold wideR; rw [if_pos (by omega), h]
  refine ⟨⟨h1, h2, fun h => hz (by omega), fun h => by omega, fun h => hz (by omega)⟩, ?_⟩
  unfold wideR
  split
  · exact Int.le_refl _
  · simp

theorem lawAlike_ok : sLawR.Ok Try.prog 9 := by
  refine lawAlike_vc ⟨pair_ok, ckind_ok, cdir_ok, cwide_ok, cmark_ok, cjoin_ok, mirror_ok, works_ok, trivial⟩ ?_
  intro r w _
  have hM := mir_all r
  obtain ⟨⟨a1, a2, a3, a4, a5⟩, a6⟩ := alike_is r
  simp only [mirB, Bool.and_eq_true, Bool.or_eq_true, Bool.not_eq_true', beq_iff_eq, bne_iff_ne, ne_eq, decide_eq_true_eq] at hM
  obtain ⟨⟨⟨m1, m2⟩, m3⟩, m4⟩ := hM
  -- the classes of one number
  have classes : ∀ {w0 : World} (k : Int), k = kindR r → (∃ g7 : Int, (#[Value.int .i32 r] : Array Value) = #[.int .i32 g7] ∧ True ∧ ∀ (x6 : Int) (w7 : World), x6 = dirR g7 ∧ Ext w0 w7 →
      bcase (!(k == (2 : Int)) == (x6 == (8 : Int))) (∃ (_ : Unit), Value.bool true = Value.bool false ∧ Ext w0 w7)
      (∃ g8 : Int, (#[Value.int .i32 r] : Array Value) = #[.int .i32 g8] ∧ True ∧ ∀ (x7 : Int) (w8 : World), x7 = joinR g8 ∧ Ext w7 w8 →
      bcase (!(k == (2 : Int)) == (x7 == (4 : Int))) (∃ (_ : Unit), Value.bool true = Value.bool false ∧ Ext w0 w8)
      (bcase (k == (2 : Int))
      (∃ g9 : Int × Bool, (#[Value.int .i32 r, Value.bool true] : Array Value) = #[.int .i32 g9.1, .bool g9.2] ∧ True ∧ ∀ (x8 : Int) (w9 : World), x8 = wideR g9.1 g9.2 ∧ Ext w8 w9 →
      bcase (x8 != (0 : Int)) (∃ (_ : Unit), Value.bool true = Value.bool false ∧ Ext w0 w9)
      (∃ g10 : Int, (#[Value.int .i32 r] : Array Value) = #[.int .i32 g10] ∧ True ∧ ∀ (x9 : Int) (w10 : World), x9 = markR g10 ∧ Ext w9 w10 →
      bcase (decide (x9 > (0 : Int))) (∃ (_ : Unit), (Value.bool !k == (2 : Int)) = Value.bool false ∧ Ext w0 w10)
      (∃ (_ : Unit), Value.bool false = Value.bool false ∧ Ext w0 w10)))
      (∃ g9 : Int, (#[Value.int .i32 r] : Array Value) = #[.int .i32 g9] ∧ True ∧ ∀ (x8 : Int) (w9 : World), x8 = markR g9 ∧ Ext w8 w9 →
      bcase (decide (x8 > (0 : Int))) (∃ (_ : Unit), (Value.bool !k == (2 : Int)) = Value.bool false ∧ Ext w0 w9)
      (∃ (_ : Unit), Value.bool false = Value.bool false ∧ Ext w0 w9))))) := by
    rintro w0 _ rfl
    refine ⟨r, rfl, trivial, ?_⟩
    rintro _ w1 ⟨rfl, e1⟩
    refine bcase_mk (fun h => ?_) (fun _ => ?_)
    · exfalso
      by_cases hk : kindR r = 2
      · rw [hk, a1.1 hk] at h; simp at h
      · rw [beq_eq_false_iff_ne.2 hk, beq_eq_false_iff_ne.2 (fun h => hk (a1.2 h))] at h; simp at h
    refine ⟨r, rfl, trivial, ?_⟩
    rintro _ w2 ⟨rfl, e2⟩
    refine bcase_mk (fun h => ?_) (fun _ => ?_)
    · exfalso
      by_cases hk : kindR r = 2
      · rw [hk, a2.1 hk] at h; simp at h
      · rw [beq_eq_false_iff_ne.2 hk, beq_eq_false_iff_ne.2 (fun h => hk (a2.2 h))] at h; simp at h
    refine bcase_mk (fun hk => ?_) (fun hk => ?_)
    · have hk : kindR r = 2 := by simpa using hk
      refine ⟨(r, true), rfl, trivial, ?_⟩
      rintro _ w3 ⟨rfl, e3⟩
      dsimp only
      refine bcase_mk (fun h => ?_) (fun _ => ?_)
      · rw [a3 hk] at h; cases h
      refine ⟨r, rfl, trivial, ?_⟩
      rintro _ w4 ⟨rfl, e4⟩
      have E := ((e1.trans e2).trans e3).trans e4
      refine bcase_mk (fun h => ⟨(), ?_, E⟩) (fun _ => ⟨(), rfl, E⟩)
      rw [hk]; rfl
    · have hk : kindR r ≠ 2 := by simpa using hk
      refine ⟨r, rfl, trivial, ?_⟩
      rintro _ w3 ⟨rfl, e3⟩
      have E := (e1.trans e2).trans e3
      refine bcase_mk (fun h => ?_) (fun _ => ⟨(), rfl, E⟩)
      exact absurd (a4 (of_decide_eq_true h)) hk
  -- what comes last
  have last : ∀ {w0 : World}, Ext w w0 → (∃ g7 : Int, (#[Value.int .i32 r] : Array Value) = #[.int .i32 g7] ∧ True ∧ ∀ (x6 : Int) (w8 : World), x6 = kindR g7 ∧ Ext w0 w8 →
      bcase (x6 != (0 : Int))
      (bcase (x6 != (1 : Int))
      (∃ g8 : Int × Bool, (#[Value.int .i32 r, Value.bool false] : Array Value) = #[.int .i32 g8.1, .bool g8.2] ∧ True ∧ ∀ (x7 : Int) (w9 : World), x7 = wideR g8.1 g8.2 ∧ Ext w8 w9 →
      ∃ g9 : Int × Bool, (#[Value.int .i32 r, Value.bool true] : Array Value) = #[.int .i32 g9.1, .bool g9.2] ∧ True ∧ ∀ (x8 : Int) (w10 : World), x8 = wideR g9.1 g9.2 ∧ Ext w9 w10 → ∃ (_ : Unit), Value.bool (decide (x7 ≤ x8)) = Value.bool true ∧ Ext w w10)
      (∃ g8 : Int × Bool, (#[Value.int .i32 r, Value.bool true] : Array Value) = #[.int .i32 g8.1, .bool g8.2] ∧ True ∧ ∀ (x7 : Int) (w9 : World), x7 = wideR g8.1 g8.2 ∧ Ext w8 w9 →
      bcase (x7 == (0 : Int))
      (∃ g9 : Int × Bool, (#[Value.int .i32 r, Value.bool false] : Array Value) = #[.int .i32 g9.1, .bool g9.2] ∧ True ∧ ∀ (x8 : Int) (w10 : World), x8 = wideR g9.1 g9.2 ∧ Ext w9 w10 →
      ∃ g10 : Int × Bool, (#[Value.int .i32 r, Value.bool true] : Array Value) = #[.int .i32 g10.1, .bool g10.2] ∧ True ∧ ∀ (x9 : Int) (w11 : World), x9 = wideR g10.1 g10.2 ∧ Ext w10 w11 → ∃ (_ : Unit), Value.bool (decide (x8 ≤ x9)) = Value.bool true ∧ Ext w w11)
      (∃ (_ : Unit), Value.bool false = Value.bool true ∧ Ext w w9)))
      (∃ g8 : Int × Bool, (#[Value.int .i32 r, Value.bool true] : Array Value) = #[.int .i32 g8.1, .bool g8.2] ∧ True ∧ ∀ (x7 : Int) (w9 : World), x7 = wideR g8.1 g8.2 ∧ Ext w8 w9 →
      bcase (x7 == (0 : Int))
      (∃ g9 : Int × Bool, (#[Value.int .i32 r, Value.bool false] : Array Value) = #[.int .i32 g9.1, .bool g9.2] ∧ True ∧ ∀ (x8 : Int) (w10 : World), x8 = wideR g9.1 g9.2 ∧ Ext w9 w10 →
      ∃ g10 : Int × Bool, (#[Value.int .i32 r, Value.bool true] : Array Value) = #[.int .i32 g10.1, .bool g10.2] ∧ True ∧ ∀ (x9 : Int) (w11 : World), x9 = wideR g10.1 g10.2 ∧ Ext w10 w11 → ∃ (_ : Unit), Value.bool (decide (x8 ≤ x9)) = Value.bool true ∧ Ext w w11)
      (∃ (_ : Unit), Value.bool false = Value.bool true ∧ Ext w w9))) := by
    intro w0 E
    refine ⟨r, rfl, trivial, ?_⟩
    rintro _ w1 ⟨rfl, e1⟩
    have two : ∀ {w2 : World}, Ext w w2 → ∃ g9 : Int × Bool, (#[Value.int .i32 r, Value.bool false] : Array Value) = #[.int .i32 g9.1, .bool g9.2] ∧ True ∧ ∀ (x8 : Int) (w10 : World), x8 = wideR g9.1 g9.2 ∧ Ext w2 w10 →
        ∃ g10 : Int × Bool, (#[Value.int .i32 r, Value.bool true] : Array Value) = #[.int .i32 g10.1, .bool g10.2] ∧ True ∧ ∀ (x9 : Int) (w11 : World), x9 = wideR g10.1 g10.2 ∧ Ext w10 w11 → ∃ (_ : Unit), Value.bool (decide (x8 ≤ x9)) = Value.bool true ∧ Ext w w11 := by
      intro w2 E2
      refine ⟨(r, false), rfl, trivial, ?_⟩
      rintro _ w3 ⟨rfl, e3⟩
      refine ⟨(r, true), rfl, trivial, ?_⟩
      rintro _ w4 ⟨rfl, e4⟩
      exact ⟨(), congrArg Value.bool (decide_eq_true a6), (E2.trans e3).trans e4⟩
    have E1 := E.trans e1
    have zero : kindR r = 0 ∨ kindR r = 1 → ∃ g8 : Int × Bool, (#[Value.int .i32 r, Value.bool true] : Array Value) = #[.int .i32 g8.1, .bool g8.2] ∧ True ∧ ∀ (x7 : Int) (w9 : World), x7 = wideR g8.1 g8.2 ∧ Ext w1 w9 →
        bcase (x7 == (0 : Int))
        (∃ g9 : Int × Bool, (#[Value.int .i32 r, Value.bool false] : Array Value) = #[.int .i32 g9.1, .bool g9.2] ∧ True ∧ ∀ (x8 : Int) (w10 : World), x8 = wideR g9.1 g9.2 ∧ Ext w9 w10 →
        ∃ g10 : Int × Bool, (#[Value.int .i32 r, Value.bool true] : Array Value) = #[.int .i32 g10.1, .bool g10.2] ∧ True ∧ ∀ (x9 : Int) (w11 : World), x9 = wideR g10.1 g10.2 ∧ Ext w10 w11 → ∃ (_ : Unit), Value.bool (decide (x8 ≤ x9)) = Value.bool true ∧ Ext w w11)
        (∃ (_ : Unit), Value.bool false = Value.bool true ∧ Ext w w9) := by
      intro hk
      refine ⟨(r, true), rfl, trivial, ?_⟩
      rintro _ w3 ⟨rfl, e3⟩
      dsimp only
      refine bcase_mk (fun _ => two (E1.trans e3)) (fun h => ?_)
      rw [a5 hk] at h; cases h
    refine bcase_mk (fun h => ?_) (fun h => zero (.inl (by simpa using h)))
    refine bcase_mk (fun h => two E1) (fun h => zero (.inr (by simpa using h)))
  refine ⟨(), rfl, trivial, ?_⟩
  rintro _ w1 e1
  refine ⟨r, rfl, trivial, ?_⟩
  rintro _ w2 ⟨rfl, e2⟩
  refine ⟨mirF r, rfl, trivial, ?_⟩
  rintro _ w3 ⟨rfl, e3⟩
  have E3 := (e1.trans e2).trans e3
  refine bcase_mk (fun h => ?_) (fun _ => ?_)
  · exfalso
    simp only [Bool.or_eq_true, Bool.and_eq_true, Bool.not_eq_true', Bool.and_eq_false_iff, Bool.or_eq_false_iff, bne_iff_ne, ne_eq, decide_eq_false_iff_not] at h
    rcases h with h | ⟨h, h'⟩
    · exact h m1
    · rcases m4 with m4 | m4
      · omega
      · exact h' m4
  refine ⟨r, rfl, trivial, ?_⟩
  rintro _ w4 ⟨rfl, e4⟩
  have E4 := E3.trans e4
  refine bcase_mk (fun hok => ?_) (fun hok => ?_)
  · rcases m2 with m2 | ⟨⟨⟨⟨n1, n2⟩, n3⟩, n4⟩, n5⟩
    · rw [m2] at hok; cases hok
    refine ⟨(pairF r).1, rfl, trivial, ?_⟩
    rintro _ w5 ⟨rfl, e5⟩
    refine ⟨⟨(), ?_, Ext.refl _⟩, ?_⟩
    · congr 1
      simp only [Bool.or_eq_false_iff, bne_eq_false_iff_eq, Bool.not_eq_false', beq_eq_false_iff_ne, ne_eq]
      exact ⟨n1, n2, n3, n4, n5⟩
    rintro _ _ w6 e6
    refine ⟨r, rfl, trivial, ?_⟩
    rintro _ w7 ⟨hk, e7⟩
    refine ⟨classes _ hk, ?_⟩
    rintro _ _ w8 e8
    exact last ((((E4.trans e5).trans e6).trans e7).trans e8)
  · rcases m3 with m3 | ⟨n1, n2⟩
    · rw [m3] at hok; cases hok
    refine bcase_mk (fun h => ?_) (fun _ => ?_)
    · rw [n1, n2] at h; cases h
    refine ⟨r, rfl, trivial, ?_⟩
    rintro _ w5 ⟨hk, e5⟩
    refine ⟨classes _ hk, ?_⟩
    rintro _ _ w6 e6
    exact last ((E4.trans e5).trans e6)

end Go.Proofs.Ytlklgngdagebfaa
