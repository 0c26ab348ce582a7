/-
  What a reader tells of pieces is what the whole is.
-/
import Derived.Test.YthkcphnkllnfcaaDoorUs
set_option linter.unusedVariables false
set_option linter.unusedSimpArgs false
namespace Go.Proofs.YthkcphnkllnfcaaDoor.Ut
open Go Vc

theorem bt_app {s u : ByteArray} {i : Nat} (h : i < s.size) : bt (s ++ u) i = bt s i := by
  have hl := size_list s
  unfold bt
  rw [ByteArray.toList_data_append, List.getD_eq_getElem?_getD, List.getD_eq_getElem?_getD, List.getElem?_append_left (by omega)]
theorem okB_app {s u : ByteArray} {n : Nat} (h0 : 0 < s.size) (h : n < s.size) : okB (s ++ u) n ↔ okB s n := by
  have e1 : loB (s ++ u) n = loB s n := by unfold loB; rw [bt_app h0]
  have e2 : hiB (s ++ u) n = hiB s n := by unfold hiB; rw [bt_app h0]
  have hs : (s ++ u).size = s.size + u.size := ByteArray.size_append
  unfold okB
  rw [e1, e2, bt_app h]
  constructor
  · exact fun hh => ⟨h, hh.2⟩
  · exact fun hh => ⟨by omega, hh.2⟩
theorem runB_app {s u : ByteArray} (h0 : 0 < s.size) : ∀ (f n : Nat), n ≤ s.size → (runB s f n ≠ s.size ∨ runB s f n = n + f) → runB (s ++ u) f n = runB s f n
  | 0, n, _, _ => rfl
  | f + 1, n, hn, h => by
    unfold runB at h ⊢
    by_cases k : okB s n
    · rw [if_pos k] at h ⊢
      rw [if_pos ((okB_app h0 k.1).2 k)]
      exact runB_app h0 f (n + 1) k.1 (h.imp id (fun h => by omega))
    · rw [if_neg k] at h ⊢
      have hlt : n < s.size := by omega
      rw [if_neg (fun hh => k ((okB_app h0 hlt).1 hh))]
theorem numP_app {s u : ByteArray} (k : Nat) : ∀ (n : Nat), n < s.size → numP (s ++ u) k n = numP s k n
  | 0, h => by unfold numP; rw [bt_app h]
  | n + 1, h => by simp only [numP]; rw [numP_app k n (by omega), bt_app h]

/-- A step over what is no beginning hangs on nothing behind. -/
theorem next_app {s u : ByteArray} (h : wholeB s = true) : nextR (s ++ u) = nextR s := by
  unfold wholeB at h
  simp only [decide_eq_true_eq] at h
  obtain ⟨h0, h1⟩ := h
  have hp : 0 < s.size := by omega
  have hs : (s ++ u).size = s.size + u.size := ByteArray.size_append
  have hle := begN_le s
  have hS : begS (s ++ u) = begS s := by unfold begS; rw [if_neg (by omega), if_neg h0, bt_app hp]
  have hN : begN (s ++ u) = begN s := by
    unfold begN at h1 ⊢
    unfold begS at h1
    rw [if_neg h0] at h1 ⊢
    rw [if_neg (by omega), bt_app hp]
    rw [if_neg h0] at h1
    by_cases h2 : bt s 0 < 128
    · rw [if_pos h2, if_pos h2]
    · rw [if_neg h2] at h1 ⊢
      rw [if_neg h2] at h1 ⊢
      by_cases h3 : (secN (bt s 0)).2.2 = 0
      · rw [if_pos h3, if_pos h3]
      · rw [if_neg h3] at h1 ⊢
        rw [if_neg h3]
        exact runB_app hp _ 1 (by omega) (h1.imp id (fun h => by omega))
  unfold nextR
  rw [if_neg (by omega), if_neg h0, hS, hN]
  by_cases h4 : begN s = 0 ∨ begN s < begS s
  · rw [if_pos h4, if_pos h4]
  · rw [if_neg h4, if_neg h4]
    have : numR (s ++ u) (begS s) = numR s (begS s) := numP_app _ _ (by omega)
    rw [this]
theorem nx_app {s u : ByteArray} (h : wholeB s = true) : nxN (s ++ u) = nxN s ∧ nxR (s ++ u) = nxR s := by
  have h1 := nextR_nx (s ++ u)
  have h2 := nextR_nx s
  rw [next_app h] at h1
  exact ⟨h1.2.symm.trans h2.2, h1.1.symm.trans h2.1⟩

theorem runes_cons {s : ByteArray} (h : s.size ≠ 0) : runes s = nxR s :: runes (s.extract (nxN s) s.size) := by
  have hc : 0 < cnt s := cnt_lt.2 (by simp only [pos]; omega)
  have hp : pos s 1 = nxN s := by
    rw [pos_succ (n := 0) (by simp only [pos]; omega)]
    unfold nxN; rw [if_neg h]; simp [pos]
  have h1 := cnt_drop (s := s) (k := 1) (by omega)
  rw [← hp]
  refine runes_ext (by rw [List.length_cons, runes_len, runes_len]; omega) fun i hi => ?_
  rw [runes_len] at hi
  rw [runes_at hi]
  cases i with
  | zero => rw [List.getD_cons_zero]; unfold nxR; rw [if_neg h]; simp [pos]
  | succ i =>
    rw [List.getD_cons_succ, runes_at (by omega)]
    unfold dcR; rw [dc_drop, Nat.add_comm 1 i]

theorem extract_ext (t : ByteArray) (p k : Nat) (hp : p ≤ t.size) : (t.extract p t.size).extract k (t.extract p t.size).size = t.extract (p + k) t.size := by
  rw [ByteArray.extract_extract, size_ext (Nat.le_refl _)]
  congr 1
  omega
theorem drop_app (s u : ByteArray) (k : Nat) (h : k ≤ s.size) : (s ++ u).extract k (s ++ u).size = s.extract k s.size ++ u := by
  have hs : (s ++ u).size = s.size + u.size := ByteArray.size_append
  rw [ByteArray.extract_append, hs, show k - s.size = 0 from by omega, show s.size + u.size - s.size = u.size from by omega, ByteArray.extract_zero_size]
  congr 1
  refine ByteArray.ext (Array.ext' ?_)
  have hl := size_list s
  rw [ByteArray.data_extract, ByteArray.data_extract, Array.toList_extract, Array.toList_extract]
  show (s.data.toList.drop k).take _ = (s.data.toList.drop k).take _
  rw [List.take_of_length_le (by rw [List.length_drop]; omega), List.take_of_length_le (by rw [List.length_drop]; omega)]

theorem tell_step {t u : ByteArray} : ∀ (n : Nat), n ≤ cnt t → (∀ j, j < n → wholeB (t.extract (pos t j) t.size) = true) → runes (t ++ u) = (runes t).take n ++ runes (t.extract (pos t n) t.size ++ u)
  | 0, _, _ => by simp [pos, ByteArray.extract_zero_size]
  | n + 1, hn, h => by
    rw [tell_step n (by omega) (fun j hj => h j (by omega))]
    have hw := h n (by omega)
    have hp := cnt_lt.1 (show n < cnt t by omega)
    have hz : (t.extract (pos t n) t.size).size = t.size - pos t n := size_ext (Nat.le_refl _)
    obtain ⟨d1, d2⟩ := drop_next (s := t) (k := n) (by omega)
    have hd := dcN_le hp
    have hr := runes_len t
    have e1 : runes (t.extract (pos t n) t.size ++ u) = dcR t (pos t n) :: runes (t.extract (pos t (n + 1)) t.size ++ u) := by
      have hs : (t.extract (pos t n) t.size ++ u).size = (t.extract (pos t n) t.size).size + u.size := ByteArray.size_append
      rw [runes_cons (by omega), (nx_app hw).1, (nx_app hw).2, d1, d2, drop_app _ _ _ (by omega), extract_ext t _ _ (by omega), pos_succ hp]
    rw [e1, List.take_add_one, List.getElem?_eq_getElem (by omega)]
    have e2 : (runes t)[n]'(by omega) = dcR t (pos t n) := by
      have := runes_at (s := t) (n := n) (by omega)
      rw [List.getD_eq_getElem?_getD, List.getElem?_eq_getElem (by omega)] at this
      exact this
    rw [e2]; simp

theorem runB_all {s : ByteArray} : ∀ (f n i : Nat), n ≤ i → i < runB s f n → okB s i
  | 0, n, i, h1, h2 => by simp only [runB] at h2; omega
  | f + 1, n, i, h1, h2 => by
    unfold runB at h2
    split at h2
    · rename_i k
      by_cases e : i = n
      · subst e; exact k
      · exact runB_all f (n + 1) i (by omega) h2
    · omega

/-- Bytes that begin nothing are bad, each by itself. -/
theorem runes_cont : ∀ (n : Nat) (s : ByteArray), s.size = n → (∀ i, i < s.size → 128 ≤ bt s i ∧ bt s i < 192) → runes s = List.replicate n 65533
  | 0, s, h, _ => List.eq_nil_of_length_eq_zero (by rw [runes_len]; have := cnt_le s; omega)
  | n + 1, s, h, hb => by
    have h0 : s.size ≠ 0 := by omega
    have hb0 := hb 0 (by omega)
    have hsec : (secN (bt s 0)).2.2 = 0 := by
      unfold secN
      rw [if_neg (by omega), if_neg (by omega), if_neg (by omega), if_neg (by omega), if_neg (by omega), if_neg (by omega), if_neg (by omega)]
    have hN : begN s = 0 := by unfold begN; rw [if_neg h0, if_neg (by omega), if_pos hsec]
    have hx : nextR s = (65533, 1) := by unfold nextR; rw [if_neg h0, if_pos (.inl hN)]
    have h1 := nextR_nx s
    rw [hx] at h1
    have hz : (s.extract 1 s.size).size = s.size - 1 := size_ext (Nat.le_refl _)
    rw [runes_cons h0, ← h1.1, ← h1.2, runes_cont n (s.extract 1 s.size) (by omega) (fun i hi => by rw [bt_ext (by omega)]; exact hb (1 + i) (by omega)), List.replicate_succ]
    rfl

/-- A beginning: its bytes, each by itself. -/
theorem runes_held {s : ByteArray} (h : wholeB s = false) : s.size ≤ 3 ∧ runes s = List.replicate s.size 65533 := by
  by_cases h0 : s.size = 0
  · exact ⟨by omega, List.eq_nil_of_length_eq_zero (by rw [runes_len, cnt_zero.2 h0]) |>.trans (by rw [h0]; rfl)⟩
  unfold wholeB at h
  simp only [decide_eq_false_iff_not, not_and, not_or] at h
  obtain ⟨h1, h2⟩ := h h0
  have h1 : begN s = s.size := by omega
  have hle := begN_le s
  have hb : ¬ bt s 0 < 128 := fun hh => h2 (by unfold begN begS; rw [if_neg h0, if_neg h0, if_pos hh, if_pos hh])
  have hS : begS s = (secN (bt s 0)).2.2 := by unfold begS; rw [if_neg h0, if_neg hb]
  have h3 : ¬ (secN (bt s 0)).2.2 = 0 := fun hh => by omega
  have hN : begN s = runB s ((secN (bt s 0)).2.2 - 1) 1 := by unfold begN; rw [if_neg h0, if_neg hb, if_neg h3]
  have hx : nextR s = (65533, 1) := by unfold nextR; rw [if_neg h0, if_pos (.inr (by omega))]
  have h4 := nextR_nx s
  rw [hx] at h4
  have hz : (s.extract 1 s.size).size = s.size - 1 := size_ext (Nat.le_refl _)
  have hsec : 128 ≤ (secN (bt s 0)).1 ∧ (secN (bt s 0)).2.1 ≤ 191 := by
    revert h3
    unfold secN
    repeat' split
    all_goals simp
  refine ⟨by omega, ?_⟩
  rw [runes_cons h0, ← h4.1, ← h4.2, runes_cont (s.size - 1) (s.extract 1 s.size) (by omega) (fun i hi => ?_)]
  · obtain ⟨n, hn⟩ : ∃ n, s.size = n + 1 := ⟨s.size - 1, by omega⟩
    rw [hn, List.replicate_succ]; rfl
  · rw [bt_ext (by omega)]
    have hk := runB_all (s := s) _ 1 (1 + i) (by omega) (by rw [← hN]; omega)
    obtain ⟨_, k1, k2⟩ := hk
    unfold loB at k1; unfold hiB at k2
    split at k1 <;> simp_all <;> omega

end Go.Proofs.YthkcphnkllnfcaaDoor.Ut
