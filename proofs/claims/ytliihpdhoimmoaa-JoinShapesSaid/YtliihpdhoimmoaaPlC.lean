/-
  Chapter 11 in plain words: the program's way gives the document's forms.
-/
import Derived.Test.YtliihpdhoimmoaaPlB
set_option linter.unusedVariables false
set_option linter.unusedSimpArgs false
namespace Go.Proofs.Ytliihpdhoimmoaa.Tb

def lastR (xs : List Int) : Nat → Int
  | 0 => -1
  | n + 1 => if joinR (xs.getD n 0) = 4 then lastR xs n else n

theorem lastR_bd (xs : List Int) (n : Nat) : -1 ≤ lastR xs n ∧ lastR xs n < n := by
  induction n with
  | zero => simp [lastR]
  | succ n ih => simp only [lastR]; split <;> omega

theorem lastR_le (xs : List Int) (n : Nat) (j : Int) : lastR xs n ≤ j ↔ -1 ≤ j ∧ ∀ i : Nat, j < i → i < n → joinR (xs.getD i 0) = 4 := by
  induction n with
  | zero => simp [lastR]
  | succ n ih =>
    simp only [lastR]
    have hb := lastR_bd xs n
    split
    · rename_i h4
      rw [ih]
      constructor
      · rintro ⟨h1, h2⟩
        refine ⟨h1, fun i hi hn => ?_⟩
        by_cases hin : i = n
        · rw [hin]; exact h4
        · exact h2 i hi (by omega)
      · rintro ⟨h1, h2⟩
        exact ⟨h1, fun i hi hn => h2 i hi (by omega)⟩
    · rename_i h4
      constructor
      · intro h; exact ⟨by omega, fun i hi hn => by omega⟩
      · rintro ⟨h1, h2⟩
        by_cases hj : (n : Int) ≤ j
        · exact hj
        · exact absurd (h2 n (by omega) (by omega)) h4

theorem lastR_no4 (xs : List Int) (n l : Nat) (h : lastR xs n = l) : joinR (xs.getD l 0) ≠ 4 := by
  induction n with
  | zero => simp only [lastR] at h; omega
  | succ n ih =>
    simp only [lastR] at h
    split at h
    · exact ih h
    · rename_i h4
      have : n = l := by omega
      subst this; exact h4

theorem take_rev1 {xs : List Int} {x : Nat} (h : x < xs.length) : (xs.take (x + 1)).reverse = xs.getD x 0 :: (xs.take x).reverse := by
  rw [List.take_add_one, List.getD_eq_getElem?_getD, List.getElem?_eq_getElem h]; simp

theorem prevJ (xs : List Int) (n : Nat) (hn : n ≤ xs.length) : nextJ (xs.take n).reverse = if lastR xs n < 0 then 0 else joinR (xs.getD (lastR xs n).toNat 0) := by
  induction n with
  | zero => simp [nextJ, lastR]
  | succ n ih =>
    rw [take_rev1 (by omega)]
    simp only [nextJ, lastR]
    split
    · exact ih (by omega)
    · rw [if_neg (by omega)]; simp

theorem nextJ_snoc (l : List Int) (x : Int) : nextJ (l ++ [x]) = if (∀ y ∈ l, joinR y = 4) then (if joinR x = 4 then 0 else joinR x) else nextJ l := by
  induction l with
  | nil => simp [nextJ]
  | cons y l ih =>
    simp only [List.cons_append, nextJ]
    by_cases hy : joinR y = 4
    · rw [if_pos hy, if_pos hy, ih]
      simp [hy]
    · rw [if_neg hy, if_neg hy, if_neg (by simp [hy])]

theorem nextJ_all4 {l : List Int} (h : ∀ y ∈ l, joinR y = 4) : nextJ l = 0 := by
  induction l with
  | nil => rfl
  | cons y l ih => simp only [nextJ]; rw [if_pos (h y (by simp))]; exact ih fun z hz => h z (by simp [hz])

def winJ (xs : List Int) (j n : Nat) : Int := nextJ ((xs.take n).drop (j + 1))

theorem win_all (xs : List Int) (j n : Nat) (hn : n ≤ xs.length) : (∀ y ∈ (xs.take n).drop (j + 1), joinR y = 4) ↔ lastR xs n ≤ j := by
  rw [lastR_le]
  constructor
  · intro h
    refine ⟨by omega, fun i h1 h2 => h _ ?_⟩
    rw [List.mem_iff_getElem?]
    refine ⟨i - (j + 1), ?_⟩
    rw [List.getElem?_drop, List.getElem?_take, if_pos (by omega)]
    rw [show j + 1 + (i - (j + 1)) = i from by omega, List.getD_eq_getElem?_getD, List.getElem?_eq_getElem (by omega)]
    rfl
  · rintro ⟨_, h⟩ y hy
    rw [List.mem_iff_getElem?] at hy
    obtain ⟨i, hi⟩ := hy
    rw [List.getElem?_drop, List.getElem?_take] at hi
    split at hi
    · have := h (j + 1 + i) (by omega) (by omega)
      rw [List.getD_eq_getElem?_getD, hi] at this
      exact this
    · cases hi

theorem win_step (xs : List Int) (j n : Nat) (hj : j < n) (hn : n < xs.length) : winJ xs j (n + 1) = if lastR xs n ≤ j then (if joinR (xs.getD n 0) = 4 then 0 else joinR (xs.getD n 0)) else winJ xs j n := by
  unfold winJ
  have e : (xs.take (n + 1)).drop (j + 1) = (xs.take n).drop (j + 1) ++ [xs.getD n 0] := by
    rw [List.take_add_one, List.getD_eq_getElem?_getD, List.getElem?_eq_getElem hn, List.drop_append_of_le_length (by simp; omega)]
    rfl
  rw [e, nextJ_snoc]
  by_cases h : lastR xs n ≤ j
  · rw [if_pos ((win_all xs j n (by omega)).2 h), if_pos h]
  · rw [if_neg (fun hh => h ((win_all xs j n (by omega)).1 hh)), if_neg h]

theorem win_zero (xs : List Int) (j n : Nat) (hn : n ≤ xs.length) (h : lastR xs n ≤ j) : winJ xs j n = 0 := nextJ_all4 ((win_all xs j n hn).2 h)

def formN (xs : List Int) (n j : Nat) : Int := formOf (joinR (xs.getD j 0)) (nextJ (xs.take j).reverse) (winJ xs j n)

theorem runF_len' (xs : List Int) (n : Nat) : (runF xs n).2.length = xs.length := by
  induction n with
  | zero => simp [runF]
  | succ n ih =>
    simp only [runF, stepF]
    repeat' split
    all_goals simp [ih]

theorem getD_set' {l : List Int} {i j : Nat} {v : Int} (hi : i < l.length) : (l.set i v).getD j 0 = if i = j then v else l.getD j 0 := by
  rw [List.getD_eq_getElem?_getD, List.getElem?_set]
  split
  · simp
  · rw [List.getD_eq_getElem?_getD]

theorem formOf_same {k a b c : Int} (h1 : ¬ (k = 2 ∧ (b = 1 ∨ b = 2 ∨ b = 3))) (h2 : ¬ (k = 2 ∧ (c = 1 ∨ c = 2 ∨ c = 3))) : formOf k a b = formOf k a c := by
  unfold formOf; rw [if_neg h1, if_neg h1, if_neg h2, if_neg h2]

theorem formOf_3 {k a : Int} (h1 : k = 1 ∨ k = 2) (h2 : a = 2 ∨ a = 3) : formOf k a 0 = 3 := by
  unfold formOf; rw [if_pos ⟨h1, h2⟩, if_neg (by omega)]

theorem formOf_no {k a : Int} (h : ¬ ((k = 1 ∨ k = 2) ∧ (a = 2 ∨ a = 3))) : formOf k a 0 = 0 := by
  unfold formOf; rw [if_neg h, if_neg (by omega)]

theorem formOf_up {k a : Int} (h : k = 1 ∨ k = 2 ∨ k = 3) : formOf 2 a k = if formOf 2 a 0 = 3 then 2 else 1 := by
  by_cases ha : a = 2 ∨ a = 3
  · rw [formOf_3 (.inr rfl) ha, if_pos rfl]
    unfold formOf; rw [if_pos ⟨.inr rfl, ha⟩, if_pos ⟨rfl, h⟩]
  · rw [formOf_no (fun hh => ha hh.2), if_neg (by omega)]
    unfold formOf; rw [if_neg (fun hh => ha hh.2), if_pos ⟨rfl, h⟩]

theorem formOf_0 {k a b : Int} (h1 : k ≠ 1) (h2 : k ≠ 2) : formOf k a b = 0 := by
  unfold formOf; rw [if_neg (by omega), if_neg (by omega)]

theorem runF_inv (xs : List Int) (n : Nat) (hn : n ≤ xs.length) : (runF xs n).1 = lastR xs n ∧ ∀ j, j < xs.length → (runF xs n).2.getD j 0 = if j < n then formN xs n j else 0 := by
  induction n with
  | zero =>
    refine ⟨rfl, fun j hj => ?_⟩
    rw [if_neg (by omega)]
    simp [runF, List.getD_eq_getElem?_getD, hj]
  | succ n ih =>
    obtain ⟨h1, h2⟩ := ih (by omega)
    have hlen := runF_len' xs n
    have hlb := lastR_bd xs n
    have hn4 := lastR_no4 xs n
    have hpj := prevJ xs n (by omega)
    -- the forms of those before, by what the window says
    have old : ∀ j, j < n → ¬ lastR xs n ≤ j → formN xs (n + 1) j = formN xs n j := by
      intro j hj hl
      unfold formN; rw [win_step xs j n hj (by omega), if_neg hl]
    have thr : ∀ j, j < n → lastR xs n < j → formN xs (n + 1) j = formN xs n j := by
      intro j hj hl
      have h4 := ((lastR_le xs n (j - 1)).1 (by omega)).2 j (by omega) hj
      unfold formN
      rw [h4, formOf_0 (by omega) (by omega), formOf_0 (by omega) (by omega)]
    have own : formN xs (n + 1) n = formOf (joinR (xs.getD n 0)) (nextJ (xs.take n).reverse) 0 := by
      unfold formN winJ
      rw [List.drop_of_length_le (by simp; omega)]
      rfl
    have at_l : ∀ l : Nat, lastR xs n = l → formN xs n l = formOf (joinR (xs.getD l 0)) (nextJ (xs.take l).reverse) 0 ∧
        formN xs (n + 1) l = formOf (joinR (xs.getD l 0)) (nextJ (xs.take l).reverse) (if joinR (xs.getD n 0) = 4 then 0 else joinR (xs.getD n 0)) := by
      intro l hl
      unfold formN
      rw [win_step xs l n (by omega) (by omega), if_pos (by omega), win_zero xs l n (by omega) (by omega)]
      exact ⟨rfl, rfl⟩
    simp only [runF, stepF, lastR]
    generalize runF xs n = s at h1 h2 hlen ⊢
    obtain ⟨la, fs⟩ := s
    dsimp only at h1 h2 hlen ⊢
    subst h1
    generalize hk : joinR (xs.getD n 0) = k at at_l own ⊢
    by_cases h4 : k = 4
    · simp only [if_pos h4]
      refine ⟨trivial, fun j hj => ?_⟩
      rw [h2 j hj]
      by_cases hjn : j < n
      · rw [if_pos hjn, if_pos (by omega)]
        by_cases hl : lastR xs n ≤ j
        · by_cases hl2 : lastR xs n = j
          · have := at_l j hl2
            rw [this.1, this.2, if_pos h4]
          · exact (thr j hjn (by omega)).symm
        · exact (old j hjn hl).symm
      · rw [if_neg hjn]
        split
        · have : j = n := by omega
          subst this
          rw [own, formOf_0 (by omega) (by omega)]
        · rfl
    · simp only [if_neg h4]
      -- what the new last one says of all
      have goal : ∀ g : List Int, g.length = xs.length → (∀ j, j < n → (lastR xs n ≠ j) → g.getD j 0 = fs.getD j 0) → (∀ j, n < j → j < xs.length → g.getD j 0 = fs.getD j 0) →
          (∀ l : Nat, lastR xs n = l → g.getD l 0 = formN xs (n + 1) l) → g.getD n 0 = formN xs (n + 1) n → ∀ j, j < xs.length → g.getD j 0 = if j < n + 1 then formN xs (n + 1) j else 0 := by
        intro g hg g1 g2 g3 g4 j hj
        by_cases hjn : j < n
        · rw [if_pos (by omega)]
          by_cases hl : lastR xs n = j
          · exact g3 j hl
          · rw [g1 j hjn hl, h2 j hj, if_pos hjn]
            by_cases hl2 : lastR xs n ≤ j
            · exact (thr j hjn (by omega)).symm
            · exact (old j hjn hl2).symm
        · by_cases hjn2 : j = n
          · subst hjn2; rw [if_pos (by omega)]; exact g4
          · rw [if_neg (by omega), g2 j (by omega) hj, h2 j hj, if_neg hjn]
      by_cases hc : (k = 1 ∨ k = 2 ∨ k = 3) ∧ 0 ≤ lastR xs n
      · simp only [if_pos hc]
        obtain ⟨l, hl⟩ : ∃ l : Nat, lastR xs n = l := ⟨(lastR xs n).toNat, by omega⟩
        have hll : l < n := by omega
        obtain ⟨a1, a2⟩ := at_l l hl
        rw [if_neg h4] at a2
        rw [if_neg (by omega), hl] at hpj
        simp only [Int.toNat_natCast] at hpj
        have hf : fs.getD l 0 = formN xs n l := by rw [h2 l (by omega), if_pos hll]
        have hfn : fs.getD n 0 = 0 := by rw [h2 n (by omega), if_neg (by omega)]
        rw [hl] at goal ⊢
        simp only [Int.toNat_natCast]
        generalize hb : joinR (xs.getD l 0) = b at *
        rw [hpj] at own
        have k1 : k = 1 ∨ k = 2 ∨ k = 3 := hc.1
        by_cases hb23 : b ≠ 2 ∧ b ≠ 3
        · simp only [if_pos hb23]
          refine ⟨trivial, goal fs hlen (fun _ _ _ => rfl) (fun _ _ _ => rfl) (fun l' hl' => ?_) ?_⟩
          · have : l' = l := by omega
            subst this
            rw [hf, a1, a2]
            exact formOf_same (by omega) (by omega)
          · rw [hfn, own, formOf_no (by omega)]
        · simp only [if_neg hb23]
          have len1 : (if k ≠ 3 then fs.set n 3 else fs).length = xs.length := by split <;> simp [hlen]
          have g1' : ∀ j, (if k ≠ 3 then fs.set n 3 else fs).getD j 0 = if k ≠ 3 ∧ n = j then 3 else fs.getD j 0 := by
            intro j
            by_cases hk3 : k ≠ 3
            · rw [if_pos hk3, getD_set' (by omega)]
              by_cases hnj : n = j
              · rw [if_pos hnj, if_pos ⟨hk3, hnj⟩]
              · rw [if_neg hnj, if_neg (by omega)]
            · rw [if_neg hk3, if_neg (by omega)]
          have gn : (if k ≠ 3 ∧ n = n then (3 : Int) else fs.getD n 0) = formN xs (n + 1) n := by
            rw [own, hfn]
            by_cases hk3 : k ≠ 3
            · rw [if_pos ⟨hk3, rfl⟩, formOf_3 (by omega) (by omega)]
            · rw [if_neg (by omega), formOf_no (by omega)]
          generalize (if k ≠ 3 then fs.set n 3 else fs) = gs at len1 g1' ⊢
          by_cases hb2 : b = 2
          · simp only [if_pos hb2]
            refine ⟨trivial, goal _ (by simp [len1]) (fun j hj hjl => ?_) (fun j hj hj2 => ?_) (fun l' hl' => ?_) ?_⟩
            · rw [getD_set' (by omega), if_neg (by omega), g1', if_neg (by omega)]
            · rw [getD_set' (by omega), if_neg (by omega), g1', if_neg (by omega)]
            · have : l' = l := by omega
              subst this
              have e0 : gs.getD l' 0 = formOf 2 (nextJ (xs.take l').reverse) 0 := by rw [g1', if_neg (by omega), hf, a1, hb2]
              rw [getD_set' (by omega), if_pos rfl, a2, hb2, formOf_up k1, ← e0]
            · rw [getD_set' (by omega), if_neg (by omega), g1']; exact gn
          · simp only [if_neg hb2]
            refine ⟨trivial, goal _ len1 (fun j hj hjl => ?_) (fun j hj hj2 => ?_) (fun l' hl' => ?_) ?_⟩
            · rw [g1', if_neg (by omega)]
            · rw [g1', if_neg (by omega)]
            · have : l' = l := by omega
              subst this
              rw [g1', if_neg (by omega), hf, a1, a2]
              exact formOf_same (by omega) (by omega)
            · rw [g1']; exact gn
      · simp only [if_neg hc]
        refine ⟨trivial, goal fs hlen (fun _ _ _ => rfl) (fun _ _ _ => rfl) (fun l' hl' => ?_) ?_⟩
        · obtain ⟨a1, a2⟩ := at_l l' hl'
          rw [if_neg h4] at a2
          rw [h2 l' (by omega), if_pos (by omega), a1, a2]
          have hk0 : ¬ (k = 1 ∨ k = 2 ∨ k = 3) := by omega
          exact formOf_same (by omega) (by omega)
        · rw [h2 n (by omega), if_neg (by omega), own]
          by_cases hl0 : 0 ≤ lastR xs n
          · rw [formOf_no (by omega)]
          · rw [if_pos (by omega)] at hpj
            rw [hpj, formOf_no (by omega)]

theorem formsA_eq (xs : List Int) : formsA xs = formsR xs := by
  have hlen := runF_len' xs xs.length
  apply List.ext_getElem?
  intro j
  by_cases hj : j < xs.length
  · have h := (runF_inv xs xs.length (Nat.le_refl _)).2 j hj
    rw [if_pos hj] at h
    have e1 : (formsA xs)[j]? = some ((formsA xs).getD j 0) := by
      rw [List.getD_eq_getElem?_getD, List.getElem?_eq_getElem (by unfold formsA; omega)]; rfl
    rw [e1]
    unfold formsA
    rw [h]
    simp only [formsR, List.getElem?_map, List.getElem?_range hj, Option.map_some]
    unfold formN formR winJ
    rw [List.take_length]
  · rw [List.getElem?_eq_none (by unfold formsA; omega), List.getElem?_eq_none (by simp [formsR]; omega)]

end Go.Proofs.Ytliihpdhoimmoaa.Tb
