/-
  Chapter 2: the stretches, the program's and the document's.
-/
import Derived.Test.YtlklgngdagebfaaWkC
set_option linter.unusedVariables false
set_option linter.unusedSimpArgs false
namespace Go.Proofs.Ytlklgngdagebfaa
open Go Go.RowKit Vc Tb

theorem Row.storeS {w w1 : World} {e : TypeId} {g n c i s : Nat} {vs : List Value} {v : Value} (h : Row w e s (some ⟨g, 0, none⟩) n vs c) (hs : Stored w ⟨g, 0 + i, none⟩ v w1) : Row w1 e s (some ⟨g, 0, none⟩) n (vs.set i v) c := by
  refine ⟨by rw [List.length_set]; exact h.1, ?_⟩
  rcases h.2 with ⟨h1, _⟩ | ⟨g', cur, he, h1, h2, h3, h4, h5⟩
  · cases h1
  · cases he
    refine .inr ⟨g, _, rfl, hs.heap h1, h2, h3, by simpa using h4, ?_⟩
    rw [Nat.zero_add, Array.toList_setIfInBounds, List.take_set, h5]
theorem Row.at_storeS {w : World} {e : TypeId} {g n c i s : Nat} {vs : List Value} (h : Row w e s (some ⟨g, 0, none⟩) n vs c) (hi : i < n * s) : (∃ old, w.cell? ⟨g, 0 + i, none⟩ = some old) ∧ w.frozen? ⟨g, 0 + i, none⟩ = false := by
  rcases h.2 with ⟨h1, _⟩ | ⟨g', cur, he, h1, h2, h3, h4, h5⟩
  · cases h1
  · cases he
    refine ⟨?_, frozen_of_heap h1 _⟩
    rw [cell_of_heap h1]
    have : n * s ≤ c * s := Nat.mul_le_mul_right _ h2
    exact ⟨_, Array.getElem?_eq_getElem (by omega)⟩
theorem Made.storeS {w w1 w2 : World} {e : TypeId} {g n c i s : Nat} {vs : List Value} {v : Value} (h : Made w w1 e s (some ⟨g, 0, none⟩) n vs c) (hs : Stored w1 ⟨g, 0 + i, none⟩ v w2) : Made w w2 e s (some ⟨g, 0, none⟩) n (vs.set i v) c :=
  ⟨Row.storeS h.row hs, h.new, hs.below h.ext (h.new g rfl)⟩

theorem spV_len (l : List (Int × Int)) : (l.flatMap spV).length = l.length * 2 := flat_len' (s := 2) (fun _ => rfl) l
theorem knownF_self {r : Int} (h0 : 0 ≤ r) (h1 : r ≤ 1114111) (h2 : r < 55296 ∨ 57344 ≤ r) : knownF r = r := by
  unfold knownF
  have : (decide (r < 0) || (decide (r > 1114111) || decide (r ≥ 55296) && decide (r ≤ 57343))) = false := by
    simp only [Bool.or_eq_false_iff, Bool.and_eq_false_iff, decide_eq_false_iff_not]
    omega
  rw [this]

/-- One stretch more. -/
theorem spans_step {T : List (Int × Int)} {v r u t : Int} {k : Nat} {out : List (Int × Int)} (hr : risingB T = true) (hb : boundsOk T = true) (h0 : 0 ≤ r) (h1 : r ≤ 1114111) (h2 : r < 55296 ∨ 57344 ≤ r) (hk : k ≤ 300)
    (hs : out ++ pick v (segsF T (300 - k) r) = spansF T v) (hd : doneF T (300 - k) r = true) (hf : FindOk T (knownF r) u t) :
    (0 ≤ u ∧ u ≤ 255) ∧ (r ≤ capF r t ∧ capF r t ≤ 1114111 ∧ t ≤ 1114111) ∧ k < 300 ∧ ((if u = v then out ++ [(r, capF r t)] else out) ++ pick v (segsF T (300 - (k + 1)) (nxtF (capF r t))) = spansF T v) ∧ doneF T (300 - (k + 1)) (nxtF (capF r t)) = true ∧
      r < nxtF (capF r t) ∧ nxtF (capF r t) ≤ 1114112 ∧ (nxtF (capF r t) < 55296 ∨ 57344 ≤ nxtF (capF r t)) := by
  rw [knownF_self h0 h1 h2] at hf
  have hF := findF_of hr hf
  have hu : 0 ≤ u ∧ u ≤ 255 := by
    obtain ⟨j, _, _, rfl, _⟩ := hf
    have := bounds_at hb j
    exact ⟨this.2.2.1, this.2.2.2⟩
  have ht : r ≤ t ∧ t ≤ 1114111 := by
    obtain ⟨j, _, _, _, h3 | h3⟩ := hf
    · omega
    · have := bounds_at hb (j + 1)
      omega
  have hcap : r ≤ capF r t ∧ capF r t ≤ 1114111 ∧ (r < 55296 → capF r t ≤ 55295) ∧ (57344 ≤ r → capF r t = t) := by
    unfold capF
    split <;> omega
  have hk3 : k < 300 := by
    rcases Nat.lt_or_ge k 300 with h | h
    · exact h
    · rw [show 300 - k = 0 from by omega] at hd
      simp only [doneF, decide_eq_true_eq] at hd
      omega
  have hf1 : 300 - k = (300 - (k + 1)) + 1 := by omega
  rw [hf1] at hs hd
  simp only [segsF, doneF, if_pos h1, hF] at hs hd
  have hnx : r < nxtF (capF r t) ∧ nxtF (capF r t) ≤ 1114112 ∧ (nxtF (capF r t) < 55296 ∨ 57344 ≤ nxtF (capF r t)) := by
    unfold nxtF
    split <;> omega
  refine ⟨hu, ⟨hcap.1, hcap.2.1, ht.2⟩, hk3, ?_, hd, hnx.1, hnx.2.1, hnx.2.2⟩
  rw [← hs]
  by_cases huv : u = v
  · rw [if_pos huv]
    unfold pick
    rw [List.filterMap_cons_some (b := (r, capF r t)) (by simp [huv])]
    simp
  · rw [if_neg huv]
    unfold pick
    rw [List.filterMap_cons_none (by simp [huv])]

theorem spans_end {T : List (Int × Int)} {v r : Int} {k : Nat} {out : List (Int × Int)} (h1 : ¬ r ≤ 1114111) (hs : out ++ pick v (segsF T k r) = spansF T v) : out = spansF T v := by
  rw [← hs]
  cases k with
  | zero => simp [segsF, pick]
  | succ k => simp only [segsF, if_neg h1]; simp [pick]

theorem spans_ok : sSpans.Ok Try.prog 29 := by
  refine spans_vc ⟨kinds_ok, dirs_ok, wids_ok, marks_ok, joins_ok, brks_ok, trivial⟩ ?_
  rintro ⟨tb, v⟩ w _
  dsimp only
  refine bcase_mk (fun h => ?_) (fun h0 => ?_)
  · have h : tb = 0 := by simpa using h
    subst h
    have hT : tabT 0 = kindT := rfl
    have hS : spansT 0 v = spansF kindT v := rfl
    rw [hT, hS]
    refine ⟨⟨⟨0, 0, [], none, 0⟩, rfl, rfl, Nat.zero_le _, Nat.zero_le _, Int.le_refl _, by dsimp only; omega, .inl (by dsimp only; omega), rfl, kind_done, Made.nil _ _ _⟩, ?_⟩
    rintro _ ⟨k, r, out, a, c⟩ w1 ⟨hk, hol, h0, h1, h2, hs, hd, hm⟩
    dsimp only at hk hol h0 h1 h2 hs hd hm ⊢
    refine bcase_mk (fun hr => ?_) (fun hr => ?_)
    · have hr : r ≤ 1114111 := by simpa using hr
      refine ⟨r, rfl, trivial, ?_⟩
      rintro ⟨u, t⟩ w2 ⟨hf, e12⟩
      dsimp only at hf ⊢
      obtain ⟨hu, hcap, hk3, hs2, hd2, hn1, hn2, hn3⟩ := spans_step kind_rising (by decide +kernel) h0 hr h2 hk hs hd hf
      have fin : ∀ {w3 : World} {rv : Int} {out' : List (Int × Int)} {a' : Option Addr} {n' c' : Nat}, rv = nxtF (capF r t) → out' = (if u = v then out ++ [(r, capF r t)] else out) → n' = out'.length → out'.length ≤ k + 1 → Made w w3 38 2 a' out'.length (out'.flatMap spV) c' →
          ∃ (y : GSp), Value.int .i32 rv = Value.int .i32 y.r ∧ Value.slice a' n' c' = Value.slice y.a y.out.length y.c ∧ (y.k ≤ 300 ∧ y.out.length ≤ y.k ∧ 0 ≤ y.r ∧ y.r ≤ 1114112 ∧ (y.r < 55296 ∨ 57344 ≤ y.r) ∧
            y.out ++ pick v (segsF kindT (300 - y.k) y.r) = spansF kindT v ∧ doneF kindT (300 - y.k) y.r = true ∧ Made w w3 38 2 y.a y.out.length (y.out.flatMap spV) y.c) ∧ ((1114113 : Int) - y.r).toNat < ((1114113 : Int) - r).toNat := by
        rintro w3 rv out' a' n' c' rfl ho rfl hl hm'
        refine ⟨⟨k + 1, nxtF (capF r t), out', a', c'⟩, rfl, rfl, ⟨hk3, hl, by dsimp only; omega, hn2, hn3, ?_, hd2, hm'⟩, by dsimp only; omega⟩
        dsimp only
        rw [ho]; exact hs2
      have push : ∀ {b : Nat} {w3 : World}, New w2 (.cells #[.int .i32 r, .int .i32 (capF r t)] 38) b w3 → ∃ a' c' w4, AppRun Try.prog #[34, 34] 34 (.slice a out.length c) (.slice (some ⟨b, 0, none⟩) 1 1) w3 a' (out.length + 1) c' w4 ∧ KO w3 w4 ∧
          Made w w4 38 2 a' (out ++ [(r, capF r t)]).length ((out ++ [(r, capF r t)]).flatMap spV) c' := by
        intro b w3 hn
        obtain ⟨a', c', w4, hrun, hko, hm4, _⟩ := (hm.later e12).pushN (P := Try.prog) (ty := 34) elemSp (by decide) (m := 1) (news := spV (r, capF r t)) hn rfl (by simp [spV, Value.oneCell']) (by unfold maxLen; omega) (.inr (by omega))
        refine ⟨a', c', w4, hrun, hko, ?_⟩
        rw [List.length_append, List.flatMap_append]
        simpa using hm4
      have keepm := hm.later e12
      have hl1 : (out ++ [(r, capF r t)]).length = out.length + 1 := by simp
      refine bcase_mk (fun hlo => ?_) (fun hlo => ?_)
      · have hlo : r < 55296 := by simpa using hlo
        have hc : (if (55295 : Int) < t then (55295 : Int) else t) = capF r t := by unfold capF; rw [if_pos hlo]; split <;> omega
        rw [hc]
        refine ⟨inr_i64 (by omega) (by omega), bcase_mk (fun huv => ?_) (fun huv => ?_)⟩
        · have huv : u = v := by simpa using huv
          intro b w3 hn
          obtain ⟨a', c', w4, hrun, hko, hm4⟩ := push hn
          refine ⟨a', c', w4, hrun, hko, inr_i32 (by omega) (by omega), bcase_mk (fun hx => ?_) (fun hx => ?_)⟩
          · have hx : capF r t + 1 = 55296 := by simpa using hx
            exact fin (by unfold nxtF; rw [if_pos hx]) (by rw [if_pos huv]) hl1.symm (by omega) hm4
          · have hx : capF r t + 1 ≠ 55296 := by simpa using hx
            exact fin (by unfold nxtF; rw [if_neg hx]) (by rw [if_pos huv]) hl1.symm (by omega) hm4
        · have huv : u ≠ v := by simpa using huv
          refine ⟨inr_i32 (by omega) (by omega), bcase_mk (fun hx => ?_) (fun hx => ?_)⟩
          · have hx : capF r t + 1 = 55296 := by simpa using hx
            exact fin (by unfold nxtF; rw [if_pos hx]) (by rw [if_neg huv]) rfl (by omega) keepm
          · have hx : capF r t + 1 ≠ 55296 := by simpa using hx
            exact fin (by unfold nxtF; rw [if_neg hx]) (by rw [if_neg huv]) rfl (by omega) keepm
      · have hlo : ¬ r < 55296 := by simpa using hlo
        have hc : t = capF r t := by unfold capF; rw [if_neg hlo]
        generalize capF r t = q at hc hcap fin push hl1 hn1 hn2 hn3
        subst hc
        refine ⟨inr_i64 (by omega) (by omega), bcase_mk (fun huv => ?_) (fun huv => ?_)⟩
        · have huv : u = v := by simpa using huv
          intro b w3 hn
          obtain ⟨a', c', w4, hrun, hko, hm4⟩ := push hn
          refine ⟨a', c', w4, hrun, hko, inr_i32 (by omega) (by omega), bcase_mk (fun hx => ?_) (fun hx => ?_)⟩
          · have hx : t + 1 = 55296 := by simpa using hx
            exact fin (by unfold nxtF; rw [if_pos hx]) (by rw [if_pos huv]) hl1.symm (by omega) hm4
          · have hx : t + 1 ≠ 55296 := by simpa using hx
            exact fin (by unfold nxtF; rw [if_neg hx]) (by rw [if_pos huv]) hl1.symm (by omega) hm4
        · have huv : u ≠ v := by simpa using huv
          refine ⟨inr_i32 (by omega) (by omega), bcase_mk (fun hx => ?_) (fun hx => ?_)⟩
          · have hx : t + 1 = 55296 := by simpa using hx
            exact fin (by unfold nxtF; rw [if_pos hx]) (by rw [if_neg huv]) rfl (by omega) keepm
          · have hx : t + 1 ≠ 55296 := by simpa using hx
            exact fin (by unfold nxtF; rw [if_neg hx]) (by rw [if_neg huv]) rfl (by omega) keepm
    · have hr : ¬ r ≤ 1114111 := by simpa using hr
      have he := spans_end hr hs
      subst he
      exact ⟨(a, _, c), rfl, rfl, hm⟩
  refine bcase_mk (fun h => ?_) (fun h1 => ?_)
  · have h : tb = 1 := by simpa using h
    subst h
    have hT : tabT 1 = dirT := rfl
    have hS : spansT 1 v = spansF dirT v := rfl
    rw [hT, hS]
    refine ⟨⟨⟨0, 0, [], none, 0⟩, rfl, rfl, Nat.zero_le _, Nat.zero_le _, Int.le_refl _, by dsimp only; omega, .inl (by dsimp only; omega), rfl, dir_done, Made.nil _ _ _⟩, ?_⟩
    rintro _ ⟨k, r, out, a, c⟩ w1 ⟨hk, hol, h0, h1, h2, hs, hd, hm⟩
    dsimp only at hk hol h0 h1 h2 hs hd hm ⊢
    refine bcase_mk (fun hr => ?_) (fun hr => ?_)
    · have hr : r ≤ 1114111 := by simpa using hr
      refine ⟨r, rfl, trivial, ?_⟩
      rintro ⟨u, t⟩ w2 ⟨hf, e12⟩
      dsimp only at hf ⊢
      obtain ⟨hu, hcap, hk3, hs2, hd2, hn1, hn2, hn3⟩ := spans_step dir_rising (by decide +kernel) h0 hr h2 hk hs hd hf
      have fin : ∀ {w3 : World} {rv : Int} {out' : List (Int × Int)} {a' : Option Addr} {n' c' : Nat}, rv = nxtF (capF r t) → out' = (if u = v then out ++ [(r, capF r t)] else out) → n' = out'.length → out'.length ≤ k + 1 → Made w w3 38 2 a' out'.length (out'.flatMap spV) c' →
          ∃ (y : GSp), Value.int .i32 rv = Value.int .i32 y.r ∧ Value.slice a' n' c' = Value.slice y.a y.out.length y.c ∧ (y.k ≤ 300 ∧ y.out.length ≤ y.k ∧ 0 ≤ y.r ∧ y.r ≤ 1114112 ∧ (y.r < 55296 ∨ 57344 ≤ y.r) ∧
            y.out ++ pick v (segsF dirT (300 - y.k) y.r) = spansF dirT v ∧ doneF dirT (300 - y.k) y.r = true ∧ Made w w3 38 2 y.a y.out.length (y.out.flatMap spV) y.c) ∧ ((1114113 : Int) - y.r).toNat < ((1114113 : Int) - r).toNat := by
        rintro w3 rv out' a' n' c' rfl ho rfl hl hm'
        refine ⟨⟨k + 1, nxtF (capF r t), out', a', c'⟩, rfl, rfl, ⟨hk3, hl, by dsimp only; omega, hn2, hn3, ?_, hd2, hm'⟩, by dsimp only; omega⟩
        dsimp only
        rw [ho]; exact hs2
      have push : ∀ {b : Nat} {w3 : World}, New w2 (.cells #[.int .i32 r, .int .i32 (capF r t)] 38) b w3 → ∃ a' c' w4, AppRun Try.prog #[34, 34] 34 (.slice a out.length c) (.slice (some ⟨b, 0, none⟩) 1 1) w3 a' (out.length + 1) c' w4 ∧ KO w3 w4 ∧
          Made w w4 38 2 a' (out ++ [(r, capF r t)]).length ((out ++ [(r, capF r t)]).flatMap spV) c' := by
        intro b w3 hn
        obtain ⟨a', c', w4, hrun, hko, hm4, _⟩ := (hm.later e12).pushN (P := Try.prog) (ty := 34) elemSp (by decide) (m := 1) (news := spV (r, capF r t)) hn rfl (by simp [spV, Value.oneCell']) (by unfold maxLen; omega) (.inr (by omega))
        refine ⟨a', c', w4, hrun, hko, ?_⟩
        rw [List.length_append, List.flatMap_append]
        simpa using hm4
      have keepm := hm.later e12
      have hl1 : (out ++ [(r, capF r t)]).length = out.length + 1 := by simp
      refine bcase_mk (fun hlo => ?_) (fun hlo => ?_)
      · have hlo : r < 55296 := by simpa using hlo
        have hc : (if (55295 : Int) < t then (55295 : Int) else t) = capF r t := by unfold capF; rw [if_pos hlo]; split <;> omega
        rw [hc]
        refine ⟨inr_i64 (by omega) (by omega), bcase_mk (fun huv => ?_) (fun huv => ?_)⟩
        · have huv : u = v := by simpa using huv
          intro b w3 hn
          obtain ⟨a', c', w4, hrun, hko, hm4⟩ := push hn
          refine ⟨a', c', w4, hrun, hko, inr_i32 (by omega) (by omega), bcase_mk (fun hx => ?_) (fun hx => ?_)⟩
          · have hx : capF r t + 1 = 55296 := by simpa using hx
            exact fin (by unfold nxtF; rw [if_pos hx]) (by rw [if_pos huv]) hl1.symm (by omega) hm4
          · have hx : capF r t + 1 ≠ 55296 := by simpa using hx
            exact fin (by unfold nxtF; rw [if_neg hx]) (by rw [if_pos huv]) hl1.symm (by omega) hm4
        · have huv : u ≠ v := by simpa using huv
          refine ⟨inr_i32 (by omega) (by omega), bcase_mk (fun hx => ?_) (fun hx => ?_)⟩
          · have hx : capF r t + 1 = 55296 := by simpa using hx
            exact fin (by unfold nxtF; rw [if_pos hx]) (by rw [if_neg huv]) rfl (by omega) keepm
          · have hx : capF r t + 1 ≠ 55296 := by simpa using hx
            exact fin (by unfold nxtF; rw [if_neg hx]) (by rw [if_neg huv]) rfl (by omega) keepm
      · have hlo : ¬ r < 55296 := by simpa using hlo
        have hc : t = capF r t := by unfold capF; rw [if_neg hlo]
        generalize capF r t = q at hc hcap fin push hl1 hn1 hn2 hn3
        subst hc
        refine ⟨inr_i64 (by omega) (by omega), bcase_mk (fun huv => ?_) (fun huv => ?_)⟩
        · have huv : u = v := by simpa using huv
          intro b w3 hn
          obtain ⟨a', c', w4, hrun, hko, hm4⟩ := push hn
          refine ⟨a', c', w4, hrun, hko, inr_i32 (by omega) (by omega), bcase_mk (fun hx => ?_) (fun hx => ?_)⟩
          · have hx : t + 1 = 55296 := by simpa using hx
            exact fin (by unfold nxtF; rw [if_pos hx]) (by rw [if_pos huv]) hl1.symm (by omega) hm4
          · have hx : t + 1 ≠ 55296 := by simpa using hx
            exact fin (by unfold nxtF; rw [if_neg hx]) (by rw [if_pos huv]) hl1.symm (by omega) hm4
        · have huv : u ≠ v := by simpa using huv
          refine ⟨inr_i32 (by omega) (by omega), bcase_mk (fun hx => ?_) (fun hx => ?_)⟩
          · have hx : t + 1 = 55296 := by simpa using hx
            exact fin (by unfold nxtF; rw [if_pos hx]) (by rw [if_neg huv]) rfl (by omega) keepm
          · have hx : t + 1 ≠ 55296 := by simpa using hx
            exact fin (by unfold nxtF; rw [if_neg hx]) (by rw [if_neg huv]) rfl (by omega) keepm
    · have hr : ¬ r ≤ 1114111 := by simpa using hr
      have he := spans_end hr hs
      subst he
      exact ⟨(a, _, c), rfl, rfl, hm⟩
  refine bcase_mk (fun h => ?_) (fun h2 => ?_)
  · have h : tb = 2 := by simpa using h
    subst h
    have hT : tabT 2 = widT := rfl
    have hS : spansT 2 v = spansF widT v := rfl
    rw [hT, hS]
    refine ⟨⟨⟨0, 0, [], none, 0⟩, rfl, rfl, Nat.zero_le _, Nat.zero_le _, Int.le_refl _, by dsimp only; omega, .inl (by dsimp only; omega), rfl, wid_done, Made.nil _ _ _⟩, ?_⟩
    rintro _ ⟨k, r, out, a, c⟩ w1 ⟨hk, hol, h0, h1, h2, hs, hd, hm⟩
    dsimp only at hk hol h0 h1 h2 hs hd hm ⊢
    refine bcase_mk (fun hr => ?_) (fun hr => ?_)
    · have hr : r ≤ 1114111 := by simpa using hr
      refine ⟨r, rfl, trivial, ?_⟩
      rintro ⟨u, t⟩ w2 ⟨hf, e12⟩
      dsimp only at hf ⊢
      obtain ⟨hu, hcap, hk3, hs2, hd2, hn1, hn2, hn3⟩ := spans_step wid_rising (by decide +kernel) h0 hr h2 hk hs hd hf
      have fin : ∀ {w3 : World} {rv : Int} {out' : List (Int × Int)} {a' : Option Addr} {n' c' : Nat}, rv = nxtF (capF r t) → out' = (if u = v then out ++ [(r, capF r t)] else out) → n' = out'.length → out'.length ≤ k + 1 → Made w w3 38 2 a' out'.length (out'.flatMap spV) c' →
          ∃ (y : GSp), Value.int .i32 rv = Value.int .i32 y.r ∧ Value.slice a' n' c' = Value.slice y.a y.out.length y.c ∧ (y.k ≤ 300 ∧ y.out.length ≤ y.k ∧ 0 ≤ y.r ∧ y.r ≤ 1114112 ∧ (y.r < 55296 ∨ 57344 ≤ y.r) ∧
            y.out ++ pick v (segsF widT (300 - y.k) y.r) = spansF widT v ∧ doneF widT (300 - y.k) y.r = true ∧ Made w w3 38 2 y.a y.out.length (y.out.flatMap spV) y.c) ∧ ((1114113 : Int) - y.r).toNat < ((1114113 : Int) - r).toNat := by
        rintro w3 rv out' a' n' c' rfl ho rfl hl hm'
        refine ⟨⟨k + 1, nxtF (capF r t), out', a', c'⟩, rfl, rfl, ⟨hk3, hl, by dsimp only; omega, hn2, hn3, ?_, hd2, hm'⟩, by dsimp only; omega⟩
        dsimp only
        rw [ho]; exact hs2
      have push : ∀ {b : Nat} {w3 : World}, New w2 (.cells #[.int .i32 r, .int .i32 (capF r t)] 38) b w3 → ∃ a' c' w4, AppRun Try.prog #[34, 34] 34 (.slice a out.length c) (.slice (some ⟨b, 0, none⟩) 1 1) w3 a' (out.length + 1) c' w4 ∧ KO w3 w4 ∧
          Made w w4 38 2 a' (out ++ [(r, capF r t)]).length ((out ++ [(r, capF r t)]).flatMap spV) c' := by
        intro b w3 hn
        obtain ⟨a', c', w4, hrun, hko, hm4, _⟩ := (hm.later e12).pushN (P := Try.prog) (ty := 34) elemSp (by decide) (m := 1) (news := spV (r, capF r t)) hn rfl (by simp [spV, Value.oneCell']) (by unfold maxLen; omega) (.inr (by omega))
        refine ⟨a', c', w4, hrun, hko, ?_⟩
        rw [List.length_append, List.flatMap_append]
        simpa using hm4
      have keepm := hm.later e12
      have hl1 : (out ++ [(r, capF r t)]).length = out.length + 1 := by simp
      refine bcase_mk (fun hlo => ?_) (fun hlo => ?_)
      · have hlo : r < 55296 := by simpa using hlo
        have hc : (if (55295 : Int) < t then (55295 : Int) else t) = capF r t := by unfold capF; rw [if_pos hlo]; split <;> omega
        rw [hc]
        refine ⟨inr_i64 (by omega) (by omega), bcase_mk (fun huv => ?_) (fun huv => ?_)⟩
        · have huv : u = v := by simpa using huv
          intro b w3 hn
          obtain ⟨a', c', w4, hrun, hko, hm4⟩ := push hn
          refine ⟨a', c', w4, hrun, hko, inr_i32 (by omega) (by omega), bcase_mk (fun hx => ?_) (fun hx => ?_)⟩
          · have hx : capF r t + 1 = 55296 := by simpa using hx
            exact fin (by unfold nxtF; rw [if_pos hx]) (by rw [if_pos huv]) hl1.symm (by omega) hm4
          · have hx : capF r t + 1 ≠ 55296 := by simpa using hx
            exact fin (by unfold nxtF; rw [if_neg hx]) (by rw [if_pos huv]) hl1.symm (by omega) hm4
        · have huv : u ≠ v := by simpa using huv
          refine ⟨inr_i32 (by omega) (by omega), bcase_mk (fun hx => ?_) (fun hx => ?_)⟩
          · have hx : capF r t + 1 = 55296 := by simpa using hx
            exact fin (by unfold nxtF; rw [if_pos hx]) (by rw [if_neg huv]) rfl (by omega) keepm
          · have hx : capF r t + 1 ≠ 55296 := by simpa using hx
            exact fin (by unfold nxtF; rw [if_neg hx]) (by rw [if_neg huv]) rfl (by omega) keepm
      · have hlo : ¬ r < 55296 := by simpa using hlo
        have hc : t = capF r t := by unfold capF; rw [if_neg hlo]
        generalize capF r t = q at hc hcap fin push hl1 hn1 hn2 hn3
        subst hc
        refine ⟨inr_i64 (by omega) (by omega), bcase_mk (fun huv => ?_) (fun huv => ?_)⟩
        · have huv : u = v := by simpa using huv
          intro b w3 hn
          obtain ⟨a', c', w4, hrun, hko, hm4⟩ := push hn
          refine ⟨a', c', w4, hrun, hko, inr_i32 (by omega) (by omega), bcase_mk (fun hx => ?_) (fun hx => ?_)⟩
          · have hx : t + 1 = 55296 := by simpa using hx
            exact fin (by unfold nxtF; rw [if_pos hx]) (by rw [if_pos huv]) hl1.symm (by omega) hm4
          · have hx : t + 1 ≠ 55296 := by simpa using hx
            exact fin (by unfold nxtF; rw [if_neg hx]) (by rw [if_pos huv]) hl1.symm (by omega) hm4
        · have huv : u ≠ v := by simpa using huv
          refine ⟨inr_i32 (by omega) (by omega), bcase_mk (fun hx => ?_) (fun hx => ?_)⟩
          · have hx : t + 1 = 55296 := by simpa using hx
            exact fin (by unfold nxtF; rw [if_pos hx]) (by rw [if_neg huv]) rfl (by omega) keepm
          · have hx : t + 1 ≠ 55296 := by simpa using hx
            exact fin (by unfold nxtF; rw [if_neg hx]) (by rw [if_neg huv]) rfl (by omega) keepm
    · have hr : ¬ r ≤ 1114111 := by simpa using hr
      have he := spans_end hr hs
      subst he
      exact ⟨(a, _, c), rfl, rfl, hm⟩
  refine bcase_mk (fun h => ?_) (fun h3 => ?_)
  · have h : tb = 3 := by simpa using h
    subst h
    have hT : tabT 3 = markT := rfl
    have hS : spansT 3 v = spansF markT v := rfl
    rw [hT, hS]
    refine ⟨⟨⟨0, 0, [], none, 0⟩, rfl, rfl, Nat.zero_le _, Nat.zero_le _, Int.le_refl _, by dsimp only; omega, .inl (by dsimp only; omega), rfl, mark_done, Made.nil _ _ _⟩, ?_⟩
    rintro _ ⟨k, r, out, a, c⟩ w1 ⟨hk, hol, h0, h1, h2, hs, hd, hm⟩
    dsimp only at hk hol h0 h1 h2 hs hd hm ⊢
    refine bcase_mk (fun hr => ?_) (fun hr => ?_)
    · have hr : r ≤ 1114111 := by simpa using hr
      refine ⟨r, rfl, trivial, ?_⟩
      rintro ⟨u, t⟩ w2 ⟨hf, e12⟩
      dsimp only at hf ⊢
      obtain ⟨hu, hcap, hk3, hs2, hd2, hn1, hn2, hn3⟩ := spans_step mark_rising (by decide +kernel) h0 hr h2 hk hs hd hf
      have fin : ∀ {w3 : World} {rv : Int} {out' : List (Int × Int)} {a' : Option Addr} {n' c' : Nat}, rv = nxtF (capF r t) → out' = (if u = v then out ++ [(r, capF r t)] else out) → n' = out'.length → out'.length ≤ k + 1 → Made w w3 38 2 a' out'.length (out'.flatMap spV) c' →
          ∃ (y : GSp), Value.int .i32 rv = Value.int .i32 y.r ∧ Value.slice a' n' c' = Value.slice y.a y.out.length y.c ∧ (y.k ≤ 300 ∧ y.out.length ≤ y.k ∧ 0 ≤ y.r ∧ y.r ≤ 1114112 ∧ (y.r < 55296 ∨ 57344 ≤ y.r) ∧
            y.out ++ pick v (segsF markT (300 - y.k) y.r) = spansF markT v ∧ doneF markT (300 - y.k) y.r = true ∧ Made w w3 38 2 y.a y.out.length (y.out.flatMap spV) y.c) ∧ ((1114113 : Int) - y.r).toNat < ((1114113 : Int) - r).toNat := by
        rintro w3 rv out' a' n' c' rfl ho rfl hl hm'
        refine ⟨⟨k + 1, nxtF (capF r t), out', a', c'⟩, rfl, rfl, ⟨hk3, hl, by dsimp only; omega, hn2, hn3, ?_, hd2, hm'⟩, by dsimp only; omega⟩
        dsimp only
        rw [ho]; exact hs2
      have push : ∀ {b : Nat} {w3 : World}, New w2 (.cells #[.int .i32 r, .int .i32 (capF r t)] 38) b w3 → ∃ a' c' w4, AppRun Try.prog #[34, 34] 34 (.slice a out.length c) (.slice (some ⟨b, 0, none⟩) 1 1) w3 a' (out.length + 1) c' w4 ∧ KO w3 w4 ∧
          Made w w4 38 2 a' (out ++ [(r, capF r t)]).length ((out ++ [(r, capF r t)]).flatMap spV) c' := by
        intro b w3 hn
        obtain ⟨a', c', w4, hrun, hko, hm4, _⟩ := (hm.later e12).pushN (P := Try.prog) (ty := 34) elemSp (by decide) (m := 1) (news := spV (r, capF r t)) hn rfl (by simp [spV, Value.oneCell']) (by unfold maxLen; omega) (.inr (by omega))
        refine ⟨a', c', w4, hrun, hko, ?_⟩
        rw [List.length_append, List.flatMap_append]
        simpa using hm4
      have keepm := hm.later e12
      have hl1 : (out ++ [(r, capF r t)]).length = out.length + 1 := by simp
      refine bcase_mk (fun hlo => ?_) (fun hlo => ?_)
      · have hlo : r < 55296 := by simpa using hlo
        have hc : (if (55295 : Int) < t then (55295 : Int) else t) = capF r t := by unfold capF; rw [if_pos hlo]; split <;> omega
        rw [hc]
        refine ⟨inr_i64 (by omega) (by omega), bcase_mk (fun huv => ?_) (fun huv => ?_)⟩
        · have huv : u = v := by simpa using huv
          intro b w3 hn
          obtain ⟨a', c', w4, hrun, hko, hm4⟩ := push hn
          refine ⟨a', c', w4, hrun, hko, inr_i32 (by omega) (by omega), bcase_mk (fun hx => ?_) (fun hx => ?_)⟩
          · have hx : capF r t + 1 = 55296 := by simpa using hx
            exact fin (by unfold nxtF; rw [if_pos hx]) (by rw [if_pos huv]) hl1.symm (by omega) hm4
          · have hx : capF r t + 1 ≠ 55296 := by simpa using hx
            exact fin (by unfold nxtF; rw [if_neg hx]) (by rw [if_pos huv]) hl1.symm (by omega) hm4
        · have huv : u ≠ v := by simpa using huv
          refine ⟨inr_i32 (by omega) (by omega), bcase_mk (fun hx => ?_) (fun hx => ?_)⟩
          · have hx : capF r t + 1 = 55296 := by simpa using hx
            exact fin (by unfold nxtF; rw [if_pos hx]) (by rw [if_neg huv]) rfl (by omega) keepm
          · have hx : capF r t + 1 ≠ 55296 := by simpa using hx
            exact fin (by unfold nxtF; rw [if_neg hx]) (by rw [if_neg huv]) rfl (by omega) keepm
      · have hlo : ¬ r < 55296 := by simpa using hlo
        have hc : t = capF r t := by unfold capF; rw [if_neg hlo]
        generalize capF r t = q at hc hcap fin push hl1 hn1 hn2 hn3
        subst hc
        refine ⟨inr_i64 (by omega) (by omega), bcase_mk (fun huv => ?_) (fun huv => ?_)⟩
        · have huv : u = v := by simpa using huv
          intro b w3 hn
          obtain ⟨a', c', w4, hrun, hko, hm4⟩ := push hn
          refine ⟨a', c', w4, hrun, hko, inr_i32 (by omega) (by omega), bcase_mk (fun hx => ?_) (fun hx => ?_)⟩
          · have hx : t + 1 = 55296 := by simpa using hx
            exact fin (by unfold nxtF; rw [if_pos hx]) (by rw [if_pos huv]) hl1.symm (by omega) hm4
          · have hx : t + 1 ≠ 55296 := by simpa using hx
            exact fin (by unfold nxtF; rw [if_neg hx]) (by rw [if_pos huv]) hl1.symm (by omega) hm4
        · have huv : u ≠ v := by simpa using huv
          refine ⟨inr_i32 (by omega) (by omega), bcase_mk (fun hx => ?_) (fun hx => ?_)⟩
          · have hx : t + 1 = 55296 := by simpa using hx
            exact fin (by unfold nxtF; rw [if_pos hx]) (by rw [if_neg huv]) rfl (by omega) keepm
          · have hx : t + 1 ≠ 55296 := by simpa using hx
            exact fin (by unfold nxtF; rw [if_neg hx]) (by rw [if_neg huv]) rfl (by omega) keepm
    · have hr : ¬ r ≤ 1114111 := by simpa using hr
      have he := spans_end hr hs
      subst he
      exact ⟨(a, _, c), rfl, rfl, hm⟩
  refine bcase_mk (fun h => ?_) (fun h4 => ?_)
  · have h : tb = 4 := by simpa using h
    subst h
    have hT : tabT 4 = joinT := rfl
    have hS : spansT 4 v = spansF joinT v := rfl
    rw [hT, hS]
    refine ⟨⟨⟨0, 0, [], none, 0⟩, rfl, rfl, Nat.zero_le _, Nat.zero_le _, Int.le_refl _, by dsimp only; omega, .inl (by dsimp only; omega), rfl, join_done, Made.nil _ _ _⟩, ?_⟩
    rintro _ ⟨k, r, out, a, c⟩ w1 ⟨hk, hol, h0, h1, h2, hs, hd, hm⟩
    dsimp only at hk hol h0 h1 h2 hs hd hm ⊢
    refine bcase_mk (fun hr => ?_) (fun hr => ?_)
    · have hr : r ≤ 1114111 := by simpa using hr
      refine ⟨r, rfl, trivial, ?_⟩
      rintro ⟨u, t⟩ w2 ⟨hf, e12⟩
      dsimp only at hf ⊢
      obtain ⟨hu, hcap, hk3, hs2, hd2, hn1, hn2, hn3⟩ := spans_step join_rising (by decide +kernel) h0 hr h2 hk hs hd hf
      have fin : ∀ {w3 : World} {rv : Int} {out' : List (Int × Int)} {a' : Option Addr} {n' c' : Nat}, rv = nxtF (capF r t) → out' = (if u = v then out ++ [(r, capF r t)] else out) → n' = out'.length → out'.length ≤ k + 1 → Made w w3 38 2 a' out'.length (out'.flatMap spV) c' →
          ∃ (y : GSp), Value.int .i32 rv = Value.int .i32 y.r ∧ Value.slice a' n' c' = Value.slice y.a y.out.length y.c ∧ (y.k ≤ 300 ∧ y.out.length ≤ y.k ∧ 0 ≤ y.r ∧ y.r ≤ 1114112 ∧ (y.r < 55296 ∨ 57344 ≤ y.r) ∧
            y.out ++ pick v (segsF joinT (300 - y.k) y.r) = spansF joinT v ∧ doneF joinT (300 - y.k) y.r = true ∧ Made w w3 38 2 y.a y.out.length (y.out.flatMap spV) y.c) ∧ ((1114113 : Int) - y.r).toNat < ((1114113 : Int) - r).toNat := by
        rintro w3 rv out' a' n' c' rfl ho rfl hl hm'
        refine ⟨⟨k + 1, nxtF (capF r t), out', a', c'⟩, rfl, rfl, ⟨hk3, hl, by dsimp only; omega, hn2, hn3, ?_, hd2, hm'⟩, by dsimp only; omega⟩
        dsimp only
        rw [ho]; exact hs2
      have push : ∀ {b : Nat} {w3 : World}, New w2 (.cells #[.int .i32 r, .int .i32 (capF r t)] 38) b w3 → ∃ a' c' w4, AppRun Try.prog #[34, 34] 34 (.slice a out.length c) (.slice (some ⟨b, 0, none⟩) 1 1) w3 a' (out.length + 1) c' w4 ∧ KO w3 w4 ∧
          Made w w4 38 2 a' (out ++ [(r, capF r t)]).length ((out ++ [(r, capF r t)]).flatMap spV) c' := by
        intro b w3 hn
        obtain ⟨a', c', w4, hrun, hko, hm4, _⟩ := (hm.later e12).pushN (P := Try.prog) (ty := 34) elemSp (by decide) (m := 1) (news := spV (r, capF r t)) hn rfl (by simp [spV, Value.oneCell']) (by unfold maxLen; omega) (.inr (by omega))
        refine ⟨a', c', w4, hrun, hko, ?_⟩
        rw [List.length_append, List.flatMap_append]
        simpa using hm4
      have keepm := hm.later e12
      have hl1 : (out ++ [(r, capF r t)]).length = out.length + 1 := by simp
      refine bcase_mk (fun hlo => ?_) (fun hlo => ?_)
      · have hlo : r < 55296 := by simpa using hlo
        have hc : (if (55295 : Int) < t then (55295 : Int) else t) = capF r t := by unfold capF; rw [if_pos hlo]; split <;> omega
        rw [hc]
        refine ⟨inr_i64 (by omega) (by omega), bcase_mk (fun huv => ?_) (fun huv => ?_)⟩
        · have huv : u = v := by simpa using huv
          intro b w3 hn
          obtain ⟨a', c', w4, hrun, hko, hm4⟩ := push hn
          refine ⟨a', c', w4, hrun, hko, inr_i32 (by omega) (by omega), bcase_mk (fun hx => ?_) (fun hx => ?_)⟩
          · have hx : capF r t + 1 = 55296 := by simpa using hx
            exact fin (by unfold nxtF; rw [if_pos hx]) (by rw [if_pos huv]) hl1.symm (by omega) hm4
          · have hx : capF r t + 1 ≠ 55296 := by simpa using hx
            exact fin (by unfold nxtF; rw [if_neg hx]) (by rw [if_pos huv]) hl1.symm (by omega) hm4
        · have huv : u ≠ v := by simpa using huv
          refine ⟨inr_i32 (by omega) (by omega), bcase_mk (fun hx => ?_) (fun hx => ?_)⟩
          · have hx : capF r t + 1 = 55296 := by simpa using hx
            exact fin (by unfold nxtF; rw [if_pos hx]) (by rw [if_neg huv]) rfl (by omega) keepm
          · have hx : capF r t + 1 ≠ 55296 := by simpa using hx
            exact fin (by unfold nxtF; rw [if_neg hx]) (by rw [if_neg huv]) rfl (by omega) keepm
      · have hlo : ¬ r < 55296 := by simpa using hlo
        have hc : t = capF r t := by unfold capF; rw [if_neg hlo]
        generalize capF r t = q at hc hcap fin push hl1 hn1 hn2 hn3
        subst hc
        refine ⟨inr_i64 (by omega) (by omega), bcase_mk (fun huv => ?_) (fun huv => ?_)⟩
        · have huv : u = v := by simpa using huv
          intro b w3 hn
          obtain ⟨a', c', w4, hrun, hko, hm4⟩ := push hn
          refine ⟨a', c', w4, hrun, hko, inr_i32 (by omega) (by omega), bcase_mk (fun hx => ?_) (fun hx => ?_)⟩
          · have hx : t + 1 = 55296 := by simpa using hx
            exact fin (by unfold nxtF; rw [if_pos hx]) (by rw [if_pos huv]) hl1.symm (by omega) hm4
          · have hx : t + 1 ≠ 55296 := by simpa using hx
            exact fin (by unfold nxtF; rw [if_neg hx]) (by rw [if_pos huv]) hl1.symm (by omega) hm4
        · have huv : u ≠ v := by simpa using huv
          refine ⟨inr_i32 (by omega) (by omega), bcase_mk (fun hx => ?_) (fun hx => ?_)⟩
          · have hx : t + 1 = 55296 := by simpa using hx
            exact fin (by unfold nxtF; rw [if_pos hx]) (by rw [if_neg huv]) rfl (by omega) keepm
          · have hx : t + 1 ≠ 55296 := by simpa using hx
            exact fin (by unfold nxtF; rw [if_neg hx]) (by rw [if_neg huv]) rfl (by omega) keepm
    · have hr : ¬ r ≤ 1114111 := by simpa using hr
      have he := spans_end hr hs
      subst he
      exact ⟨(a, _, c), rfl, rfl, hm⟩
  refine bcase_mk (fun h => ?_) (fun h5 => ?_)
  · have h : tb = 5 := by simpa using h
    subst h
    have hT : tabT 5 = brkT := rfl
    have hS : spansT 5 v = spansF brkT v := rfl
    rw [hT, hS]
    refine ⟨⟨⟨0, 0, [], none, 0⟩, rfl, rfl, Nat.zero_le _, Nat.zero_le _, Int.le_refl _, by dsimp only; omega, .inl (by dsimp only; omega), rfl, brk_done, Made.nil _ _ _⟩, ?_⟩
    rintro _ ⟨k, r, out, a, c⟩ w1 ⟨hk, hol, h0, h1, h2, hs, hd, hm⟩
    dsimp only at hk hol h0 h1 h2 hs hd hm ⊢
    refine bcase_mk (fun hr => ?_) (fun hr => ?_)
    · have hr : r ≤ 1114111 := by simpa using hr
      refine ⟨r, rfl, trivial, ?_⟩
      rintro ⟨u, t⟩ w2 ⟨hf, e12⟩
      dsimp only at hf ⊢
      obtain ⟨hu, hcap, hk3, hs2, hd2, hn1, hn2, hn3⟩ := spans_step brk_rising (by decide +kernel) h0 hr h2 hk hs hd hf
      have fin : ∀ {w3 : World} {rv : Int} {out' : List (Int × Int)} {a' : Option Addr} {n' c' : Nat}, rv = nxtF (capF r t) → out' = (if u = v then out ++ [(r, capF r t)] else out) → n' = out'.length → out'.length ≤ k + 1 → Made w w3 38 2 a' out'.length (out'.flatMap spV) c' →
          ∃ (y : GSp), Value.int .i32 rv = Value.int .i32 y.r ∧ Value.slice a' n' c' = Value.slice y.a y.out.length y.c ∧ (y.k ≤ 300 ∧ y.out.length ≤ y.k ∧ 0 ≤ y.r ∧ y.r ≤ 1114112 ∧ (y.r < 55296 ∨ 57344 ≤ y.r) ∧
            y.out ++ pick v (segsF brkT (300 - y.k) y.r) = spansF brkT v ∧ doneF brkT (300 - y.k) y.r = true ∧ Made w w3 38 2 y.a y.out.length (y.out.flatMap spV) y.c) ∧ ((1114113 : Int) - y.r).toNat < ((1114113 : Int) - r).toNat := by
        rintro w3 rv out' a' n' c' rfl ho rfl hl hm'
        refine ⟨⟨k + 1, nxtF (capF r t), out', a', c'⟩, rfl, rfl, ⟨hk3, hl, by dsimp only; omega, hn2, hn3, ?_, hd2, hm'⟩, by dsimp only; omega⟩
        dsimp only
        rw [ho]; exact hs2
      have push : ∀ {b : Nat} {w3 : World}, New w2 (.cells #[.int .i32 r, .int .i32 (capF r t)] 38) b w3 → ∃ a' c' w4, AppRun Try.prog #[34, 34] 34 (.slice a out.length c) (.slice (some ⟨b, 0, none⟩) 1 1) w3 a' (out.length + 1) c' w4 ∧ KO w3 w4 ∧
          Made w w4 38 2 a' (out ++ [(r, capF r t)]).length ((out ++ [(r, capF r t)]).flatMap spV) c' := by
        intro b w3 hn
        obtain ⟨a', c', w4, hrun, hko, hm4, _⟩ := (hm.later e12).pushN (P := Try.prog) (ty := 34) elemSp (by decide) (m := 1) (news := spV (r, capF r t)) hn rfl (by simp [spV, Value.oneCell']) (by unfold maxLen; omega) (.inr (by omega))
        refine ⟨a', c', w4, hrun, hko, ?_⟩
        rw [List.length_append, List.flatMap_append]
        simpa using hm4
      have keepm := hm.later e12
      have hl1 : (out ++ [(r, capF r t)]).length = out.length + 1 := by simp
      refine bcase_mk (fun hlo => ?_) (fun hlo => ?_)
      · have hlo : r < 55296 := by simpa using hlo
        have hc : (if (55295 : Int) < t then (55295 : Int) else t) = capF r t := by unfold capF; rw [if_pos hlo]; split <;> omega
        rw [hc]
        refine ⟨inr_i64 (by omega) (by omega), bcase_mk (fun huv => ?_) (fun huv => ?_)⟩
        · have huv : u = v := by simpa using huv
          intro b w3 hn
          obtain ⟨a', c', w4, hrun, hko, hm4⟩ := push hn
          refine ⟨a', c', w4, hrun, hko, inr_i32 (by omega) (by omega), bcase_mk (fun hx => ?_) (fun hx => ?_)⟩
          · have hx : capF r t + 1 = 55296 := by simpa using hx
            exact fin (by unfold nxtF; rw [if_pos hx]) (by rw [if_pos huv]) hl1.symm (by omega) hm4
          · have hx : capF r t + 1 ≠ 55296 := by simpa using hx
            exact fin (by unfold nxtF; rw [if_neg hx]) (by rw [if_pos huv]) hl1.symm (by omega) hm4
        · have huv : u ≠ v := by simpa using huv
          refine ⟨inr_i32 (by omega) (by omega), bcase_mk (fun hx => ?_) (fun hx => ?_)⟩
          · have hx : capF r t + 1 = 55296 := by simpa using hx
            exact fin (by unfold nxtF; rw [if_pos hx]) (by rw [if_neg huv]) rfl (by omega) keepm
          · have hx : capF r t + 1 ≠ 55296 := by simpa using hx
            exact fin (by unfold nxtF; rw [if_neg hx]) (by rw [if_neg huv]) rfl (by omega) keepm
      · have hlo : ¬ r < 55296 := by simpa using hlo
        have hc : t = capF r t := by unfold capF; rw [if_neg hlo]
        generalize capF r t = q at hc hcap fin push hl1 hn1 hn2 hn3
        subst hc
        refine ⟨inr_i64 (by omega) (by omega), bcase_mk (fun huv => ?_) (fun huv => ?_)⟩
        · have huv : u = v := by simpa using huv
          intro b w3 hn
          obtain ⟨a', c', w4, hrun, hko, hm4⟩ := push hn
          refine ⟨a', c', w4, hrun, hko, inr_i32 (by omega) (by omega), bcase_mk (fun hx => ?_) (fun hx => ?_)⟩
          · have hx : t + 1 = 55296 := by simpa using hx
            exact fin (by unfold nxtF; rw [if_pos hx]) (by rw [if_pos huv]) hl1.symm (by omega) hm4
          · have hx : t + 1 ≠ 55296 := by simpa using hx
            exact fin (by unfold nxtF; rw [if_neg hx]) (by rw [if_pos huv]) hl1.symm (by omega) hm4
        · have huv : u ≠ v := by simpa using huv
          refine ⟨inr_i32 (by omega) (by omega), bcase_mk (fun hx => ?_) (fun hx => ?_)⟩
          · have hx : t + 1 = 55296 := by simpa using hx
            exact fin (by unfold nxtF; rw [if_pos hx]) (by rw [if_neg huv]) rfl (by omega) keepm
          · have hx : t + 1 ≠ 55296 := by simpa using hx
            exact fin (by unfold nxtF; rw [if_neg hx]) (by rw [if_neg huv]) rfl (by omega) keepm
    · have hr : ¬ r ≤ 1114111 := by simpa using hr
      have he := spans_end hr hs
      subst he
      exact ⟨(a, _, c), rfl, rfl, hm⟩
  have g0 : tb ≠ 0 := by simpa using h0
  have g1 : tb ≠ 1 := by simpa using h1
  have g2 : tb ≠ 2 := by simpa using h2
  have g3 : tb ≠ 3 := by simpa using h3
  have g4 : tb ≠ 4 := by simpa using h4
  have g5 : tb ≠ 5 := by simpa using h5
  have hS : spansT tb v = [] := by unfold spansT; rw [if_neg g0, if_neg g1, if_neg g2, if_neg g3, if_neg g4, if_neg g5]
  rw [hS]
  exact ⟨(none, 0, 0), rfl, rfl, Made.nil _ _ _⟩

end Go.Proofs.Ytlklgngdagebfaa
