/-
  Runes as a text and back: what is laid is decoded again; a valid text is laid again as it was.
-/
import Derived.Test.YthkcphnkllnfcaaDoorUp
set_option linter.unusedVariables false
set_option linter.unusedSimpArgs false
namespace Go.Proofs.YthkcphnkllnfcaaDoor.Ut
open Go Vc

def okC (c : Nat) : Prop := c < 55296 ∨ 57344 ≤ c ∧ c ≤ 1114111
theorem encC_ok (r : Int) : okC (encC r) := by unfold okC encC; split <;> omega
theorem encC_same {r : Int} (h : 0 ≤ r) (hr : okC r.toNat) : (encC r : Int) = r := by
  unfold okC at hr; unfold encC; rw [if_pos (by omega)]; omega

theorem dec_enc {s : ByteArray} {i c : Nat} (hc : okC c) (hb : ∀ j, j < (encN c).length → bt s (i + j) = (encN c).getD j 0) (hl : i + (encN c).length ≤ s.size) : Utf8.decode s i = (c, (encN c).length) := by
  unfold okC at hc
  rw [dc_eq]
  have hb0 := hb 0; have hb1 := hb 1; have hb2 := hb 2; have hb3 := hb 3
  rw [Nat.add_zero] at hb0
  clear hb
  unfold Lib.decodeN
  by_cases h1 : c < 128
  · have e : encN c = [c] := by unfold encN; rw [if_pos h1]
    rw [e] at hb0 ⊢
    have b0 := hb0 (by simp)
    simp only [List.getD_cons_zero] at b0
    rw [b0, if_pos h1]; rfl
  by_cases h2 : c < 2048
  · have e : encN c = [192 + c / 64, 128 + c % 64] := by unfold encN; rw [if_neg h1, if_pos h2]
    rw [e] at hb0 hb1 hl ⊢
    have b0 := hb0 (by simp); have b1 := hb1 (by simp)
    simp only [List.getD_cons_zero, List.getD_cons_succ, List.length_cons, List.length_nil] at b0 b1 hl
    rw [b0, b1, if_neg (by omega), if_pos ⟨by omega, by omega, by omega⟩, if_pos (by omega)]
    refine Prod.ext ?_ rfl
    dsimp only
    clear hb0 hb1 hb2 hb3 hl e
    omega
  by_cases h3 : c < 65536
  · have e : encN c = [224 + c / 4096, 128 + c / 64 % 64, 128 + c % 64] := by unfold encN; rw [if_neg h1, if_neg h2, if_pos h3]
    rw [e] at hb0 hb1 hb2 hl ⊢
    have b0 := hb0 (by simp); have b1 := hb1 (by simp); have b2 := hb2 (by simp)
    simp only [List.getD_cons_zero, List.getD_cons_succ, List.length_cons, List.length_nil] at b0 b1 b2 hl
    rw [b0, b1, b2, if_neg (by omega), if_neg (by omega), if_pos ⟨by omega, ⟨by omega, by omega⟩, by omega, by omega⟩, if_pos (by omega)]
    refine Prod.ext ?_ rfl
    dsimp only
    clear hb0 hb1 hb2 hb3 hl e
    omega
  · have e : encN c = [240 + c / 262144, 128 + c / 4096 % 64, 128 + c / 64 % 64, 128 + c % 64] := by unfold encN; rw [if_neg h1, if_neg h2, if_neg h3]
    rw [e] at hb0 hb1 hb2 hb3 hl ⊢
    have b0 := hb0 (by simp); have b1 := hb1 (by simp); have b2 := hb2 (by simp); have b3 := hb3 (by simp)
    simp only [List.getD_cons_zero, List.getD_cons_succ, List.length_cons, List.length_nil] at b0 b1 b2 b3 hl
    rw [b0, b1, b2, b3, if_neg (by omega), if_neg (by omega), if_neg (by omega), if_pos ⟨by omega, ⟨by omega, by omega⟩, ⟨by omega, by omega⟩, by omega, by omega⟩]
    have k2 : c / 64 / 64 = c / 4096 := by omega
    have k3 : c / 4096 / 64 = c / 262144 := by omega
    clear hb0 hb1 hb2 hb3 hl e b0 b1 b2 b3
    have k : (240 + c / 262144) % 8 * 262144 + (128 + c / 4096 % 64) % 64 * 4096 + (128 + c / 64 % 64) % 64 * 64 + (128 + c % 64) % 64 = c := by omega
    rw [k, if_pos (by omega)]; rfl

/-- A number that was decoded is one that is laid. -/
theorem dcR_ok (s : ByteArray) (i : Nat) : okC (dcR s i).toNat := by
  unfold okC dcR
  rw [dc_eq]
  have h0 := bt_lt s i; have h1 := bt_lt s (i + 1); have h2 := bt_lt s (i + 2)
  unfold Lib.decodeN
  repeat' split
  all_goals simp only [Int.toNat_natCast]
  all_goals omega

def encF (xs : List Int) : List Nat := xs.flatMap fun r => encN (encC r)
theorem encF_bt (xs : List Int) (j : Nat) : bt (runesBytes xs) j = (encF xs).getD j 0 := by
  by_cases h : j < (xs.flatMap encL).length
  · have := runesBytes_bt xs j h
    unfold bt
    rw [this, flat_encL]
    rw [flat_encL, List.length_map] at h
    simp only [encF, List.getD_eq_getElem?_getD, List.getElem?_map, List.getElem?_eq_getElem h, Option.map_some, Option.getD_some, Int.toNat_natCast]
  · rw [bt_out (by rw [runesBytes_size]; omega)]
    rw [flat_encL, List.length_map] at h
    simp only [encF, List.getD_eq_getElem?_getD, List.getElem?_eq_none (Nat.le_of_not_lt h)]; rfl
theorem encF_size (xs : List Int) : (runesBytes xs).size = (encF xs).length := by
  rw [runesBytes_size, flat_encL, List.length_map]; rfl
theorem encF_take {xs : List Int} {n : Nat} (h : n < xs.length) : ∃ r, encF xs = encF (xs.take n) ++ (encN (encC (xs.getD n 0)) ++ r) ∧ encF (xs.take (n + 1)) = encF (xs.take n) ++ encN (encC (xs.getD n 0)) := by
  have e1 : xs.take (n + 1) = xs.take n ++ [xs.getD n 0] := by
    rw [List.take_add_one, List.getD_eq_getElem?_getD, List.getElem?_eq_getElem h]; rfl
  have e2 : encF (xs.take (n + 1)) = encF (xs.take n) ++ encN (encC (xs.getD n 0)) := by rw [e1]; unfold encF; rw [List.flatMap_append]; simp
  refine ⟨encF (xs.drop (n + 1)), ?_, e2⟩
  rw [← List.append_assoc, ← e2]
  unfold encF
  rw [← List.flatMap_append, List.take_append_drop]

theorem text_pos (xs : List Int) : ∀ n, n ≤ xs.length → pos (runesBytes xs) n = (encF (xs.take n)).length ∧ (n < xs.length → Utf8.decode (runesBytes xs) (pos (runesBytes xs) n) = (encC (xs.getD n 0), (encN (encC (xs.getD n 0))).length) ∧ pos (runesBytes xs) n < (runesBytes xs).size) := by
  have step : ∀ n, n < xs.length → pos (runesBytes xs) n = (encF (xs.take n)).length → Utf8.decode (runesBytes xs) (pos (runesBytes xs) n) = (encC (xs.getD n 0), (encN (encC (xs.getD n 0))).length) ∧ pos (runesBytes xs) n < (runesBytes xs).size := by
    intro n hn hp
    obtain ⟨r, hr, _⟩ := encF_take hn
    have hlen := encN_len (encC (xs.getD n 0))
    have hsz : (encF xs).length = (encF (xs.take n)).length + ((encN (encC (xs.getD n 0))).length + r.length) := by rw [hr, List.length_append, List.length_append]
    refine ⟨dec_enc (encC_ok _) (fun j hj => ?_) ?_, ?_⟩
    · rw [encF_bt, hp, hr, List.getD_eq_getElem?_getD, List.getElem?_append_right (by omega), Nat.add_sub_cancel_left, List.getElem?_append_left hj, ← List.getD_eq_getElem?_getD]
    · rw [encF_size, hp]; omega
    · rw [encF_size, hp]; omega
  intro n
  induction n with
  | zero => intro _; exact ⟨by simp [pos, encF], fun h => step 0 h (by simp [pos, encF])⟩
  | succ n ih =>
    intro hn
    obtain ⟨h1, h2⟩ := ih (by omega)
    obtain ⟨h3, h4⟩ := h2 (by omega)
    obtain ⟨r, _, hr⟩ := encF_take (show n < xs.length by omega)
    have h5 : pos (runesBytes xs) (n + 1) = (encF (xs.take (n + 1))).length := by
      rw [pos_succ h4]
      unfold dcN
      rw [h3, h1, hr, List.length_append]
    exact ⟨h5, fun h => step (n + 1) h h5⟩
theorem text_cnt (xs : List Int) : cnt (runesBytes xs) = xs.length := by
  have h1 := (text_pos xs xs.length (Nat.le_refl _)).1
  rw [List.take_length, ← encF_size] at h1
  have h2 : ¬ xs.length < cnt (runesBytes xs) := fun h => by have := cnt_lt.1 h; omega
  by_cases h3 : cnt (runesBytes xs) < xs.length
  · have := ((text_pos xs _ (by omega)).2 h3).2
    rw [pos_cnt] at this; omega
  · omega
theorem text_dc {xs : List Int} {n : Nat} (h : n < xs.length) : dcR (runesBytes xs) (pos (runesBytes xs) n) = (encC (xs.getD n 0) : Int) ∧ dcN (runesBytes xs) (pos (runesBytes xs) n) = (encN (encC (xs.getD n 0))).length := by
  have := ((text_pos xs n (by omega)).2 h).1
  unfold dcR dcN; rw [this]; exact ⟨rfl, rfl⟩
theorem text_runes (xs : List Int) : runes (runesBytes xs) = xs.map fun r => (encC r : Int) := by
  apply List.ext_getElem?
  intro n
  by_cases h : n < xs.length
  · have := text_dc h
    simp only [runes, List.getElem?_map, List.getElem?_range (show n < cnt (runesBytes xs) by rw [text_cnt]; exact h), List.getElem?_eq_getElem h, Option.map_some]
    rw [this.1, List.getD_eq_getElem?_getD, List.getElem?_eq_getElem h]; rfl
  · rw [List.getElem?_eq_none (by rw [runes_len, text_cnt]; omega), List.getElem?_eq_none (by rw [List.length_map]; omega)]
theorem encN_one {c : Nat} (h : (encN c).length = 1) : c < 128 := by
  unfold encN at h
  by_cases h1 : c < 128
  · exact h1
  · rw [if_neg h1] at h
    repeat' split at h
    all_goals simp at h
theorem text_valid (xs : List Int) : validB (runesBytes xs) = true := by
  unfold validB
  rw [List.all_eq_true]
  intro n hn
  rw [List.mem_range, text_cnt] at hn
  have := text_dc hn
  unfold isBad
  rw [this.1, this.2]
  simp only [Bool.not_eq_true', decide_eq_false_iff_not]
  rintro ⟨h1, h2⟩
  have := encN_one h1; omega

/-- The bytes of a number that is no bad byte. -/
theorem enc_dec {s : ByteArray} {i : Nat} (hi : i < s.size) (hb : ¬ (dcN s i = 1 ∧ dcR s i = 65533)) : (encN (dcR s i).toNat).length = dcN s i ∧ ∀ j, j < dcN s i → bt s (i + j) = (encN (dcR s i).toNat).getD j 0 := by
  unfold dcR dcN at *
  rw [dc_eq] at *
  have h0 := bt_lt s i; have h1 := bt_lt s (i + 1); have h2 := bt_lt s (i + 2); have h3 := bt_lt s (i + 3)
  generalize e0 : bt s i = b0 at *
  generalize e1 : bt s (i + 1) = b1 at *
  generalize e2 : bt s (i + 2) = b2 at *
  generalize e3 : bt s (i + 3) = b3 at *
  generalize s.size - i = n at *
  unfold Lib.decodeN at *
  by_cases k1 : b0 < 128
  · rw [if_pos k1] at *
    simp only [Int.toNat_natCast]
    have e : encN b0 = [b0] := by unfold encN; rw [if_pos k1]
    rw [e]
    refine ⟨rfl, fun j hj => ?_⟩
    obtain rfl : j = 0 := by omega
    rw [Nat.add_zero]; exact e0
  rw [if_neg k1] at *
  by_cases k2 : b0 / 32 = 6 ∧ (1 < n ∧ b1 / 64 = 2)
  · rw [if_pos k2] at *
    by_cases k3 : b0 % 32 * 64 + b1 % 64 ≥ 128
    · rw [if_pos k3] at *
      simp only [Int.toNat_natCast]
      have e : encN (b0 % 32 * 64 + b1 % 64) = [b0, b1] := by
        unfold encN; rw [if_neg (by omega), if_pos (by omega)]
        congr 1
        · omega
        · congr 1; omega
      rw [e]
      refine ⟨rfl, fun j hj => ?_⟩
      have : j = 0 ∨ j = 1 := by omega
      rcases this with rfl | rfl
      · rw [Nat.add_zero]; exact e0
      · exact e1
    · rw [if_neg k3] at hb; exact absurd ⟨rfl, rfl⟩ hb
  rw [if_neg k2] at *
  by_cases k4 : b0 / 16 = 14 ∧ (1 < n ∧ b1 / 64 = 2) ∧ (2 < n ∧ b2 / 64 = 2)
  · rw [if_pos k4] at *
    by_cases k5 : b0 % 16 * 4096 + b1 % 64 * 64 + b2 % 64 ≥ 2048 ∧ (b0 % 16 * 4096 + b1 % 64 * 64 + b2 % 64 < 55296 ∨ (57344 ≤ b0 % 16 * 4096 + b1 % 64 * 64 + b2 % 64 ∧ b0 % 16 * 4096 + b1 % 64 * 64 + b2 % 64 ≤ 1114111))
    · rw [if_pos k5] at *
      simp only [Int.toNat_natCast]
      have e : encN (b0 % 16 * 4096 + b1 % 64 * 64 + b2 % 64) = [b0, b1, b2] := by
        unfold encN; rw [if_neg (by omega), if_neg (by omega), if_pos (by omega)]
        congr 1
        · omega
        · congr 1
          · omega
          · congr 1; omega
      rw [e]
      refine ⟨rfl, fun j hj => ?_⟩
      have : j = 0 ∨ j = 1 ∨ j = 2 := by omega
      rcases this with rfl | rfl | rfl
      · rw [Nat.add_zero]; exact e0
      · exact e1
      · exact e2
    · rw [if_neg k5] at hb; exact absurd ⟨rfl, rfl⟩ hb
  rw [if_neg k4] at *
  by_cases k6 : b0 / 8 = 30 ∧ (1 < n ∧ b1 / 64 = 2) ∧ (2 < n ∧ b2 / 64 = 2) ∧ (3 < n ∧ b3 / 64 = 2)
  · rw [if_pos k6] at *
    by_cases k7 : b0 % 8 * 262144 + b1 % 64 * 4096 + b2 % 64 * 64 + b3 % 64 ≥ 65536 ∧ (b0 % 8 * 262144 + b1 % 64 * 4096 + b2 % 64 * 64 + b3 % 64 < 55296 ∨ (57344 ≤ b0 % 8 * 262144 + b1 % 64 * 4096 + b2 % 64 * 64 + b3 % 64 ∧ b0 % 8 * 262144 + b1 % 64 * 4096 + b2 % 64 * 64 + b3 % 64 ≤ 1114111))
    · rw [if_pos k7] at *
      simp only [Int.toNat_natCast]
      have e : encN (b0 % 8 * 262144 + b1 % 64 * 4096 + b2 % 64 * 64 + b3 % 64) = [b0, b1, b2, b3] := by
        unfold encN; rw [if_neg (by omega), if_neg (by omega), if_neg (by omega)]
        congr 1
        · omega
        · congr 1
          · omega
          · congr 1
            · omega
            · congr 1; omega
      rw [e]
      refine ⟨rfl, fun j hj => ?_⟩
      have : j = 0 ∨ j = 1 ∨ j = 2 ∨ j = 3 := by omega
      rcases this with rfl | rfl | rfl | rfl
      · rw [Nat.add_zero]; exact e0
      · exact e1
      · exact e2
      · exact e3
    · rw [if_neg k7] at hb; exact absurd ⟨rfl, rfl⟩ hb
  · rw [if_neg k6] at hb; exact absurd ⟨rfl, rfl⟩ hb

/-- A valid text is laid again as it was. -/
theorem valid_text {s : ByteArray} (h : validB s = true) : runesBytes (runes s) = s := by
  have hv : ∀ n, n < cnt s → isBad s n = false := by
    unfold validB at h
    rw [List.all_eq_true] at h
    intro n hn
    simpa using h n (by simpa using hn)
  have key : ∀ n, n ≤ cnt s → (encF ((runes s).take n)).length = pos s n ∧ ∀ j, j < pos s n → bt s j = (encF ((runes s).take n)).getD j 0 := by
    intro n
    induction n with
    | zero => intro _; exact ⟨by simp [encF, pos], fun j hj => by simp [pos] at hj⟩
    | succ n ih =>
      intro hn
      obtain ⟨h1, h2⟩ := ih (by omega)
      have hp := cnt_lt.1 (show n < cnt s by omega)
      have hnb := hv n (by omega)
      unfold isBad at hnb
      simp only [decide_eq_false_iff_not] at hnb
      obtain ⟨h3, h4⟩ := enc_dec hp hnb
      obtain ⟨r, _, hr⟩ := encF_take (xs := runes s) (show n < (runes s).length by rw [runes_len]; omega)
      have hc : encC ((runes s).getD n 0) = (dcR s (pos s n)).toNat := by
        rw [runes_at (by omega)]
        have := encC_same (dcR_nonneg s (pos s n)) (dcR_ok s (pos s n))
        omega
      rw [hc] at hr
      have h5 : (encF ((runes s).take (n + 1))).length = pos s (n + 1) := by rw [hr, List.length_append, h1, h3, pos_succ hp]
      refine ⟨h5, fun j hj => ?_⟩
      rw [hr, List.getD_eq_getElem?_getD]
      by_cases hjp : j < pos s n
      · rw [List.getElem?_append_left (by omega), ← List.getD_eq_getElem?_getD]; exact h2 j hjp
      · rw [List.getElem?_append_right (by omega), h1, ← List.getD_eq_getElem?_getD]
        rw [pos_succ hp] at hj
        have := h4 (j - pos s n) (by omega)
        rwa [show pos s n + (j - pos s n) = j from by omega] at this
  obtain ⟨h1, h2⟩ := key (cnt s) (Nat.le_refl _)
  rw [pos_cnt, List.take_of_length_le (by rw [runes_len]; exact Nat.le_refl _)] at h1 h2
  apply ByteArray.ext
  apply Array.ext'
  apply List.ext_getElem?
  intro j
  have hs1 := size_list s
  have hs2 := size_list (runesBytes (runes s))
  rw [encF_size] at hs2
  by_cases hj : j < s.size
  · have := (h2 j hj).trans (encF_bt (runes s) j).symm
    unfold bt at this
    rw [List.getD_eq_getElem?_getD, List.getD_eq_getElem?_getD, List.getElem?_eq_getElem (by omega), List.getElem?_eq_getElem (by omega)] at this
    simp only [Option.getD_some] at this
    rw [List.getElem?_eq_getElem (by omega), List.getElem?_eq_getElem (by omega)]
    congr 1
    exact (UInt8.toNat_inj.1 this).symm
  · rw [List.getElem?_eq_none (by omega), List.getElem?_eq_none (by omega)]

end Go.Proofs.YthkcphnkllnfcaaDoor.Ut
