/-
  Chapter 2: brackets and mirrors, the document's; what a table says.
-/
import Derived.Test.YtlklgngdagebfaaWkB
set_option linter.unusedVariables false
set_option linter.unusedSimpArgs false
namespace Go.Proofs.Ytlklgngdagebfaa
open Go Go.RowKit Vc Tb

theorem xor_lt {k n : Nat} (hk : k < n) (hn : n ≤ 30) (he : n % 2 = 0) : k ^^^ 1 < n := by
  have h := xor_one ⟨k, by omega⟩
  dsimp only at h
  rcases Nat.mod_two_eq_zero_or_one k with h0 | h0
  · have := h.2.1 h0; omega
  · have := h.2.2 h0; omega

theorem other_ok : sOther.Ok Try.prog 41 := by
  refine other_vc trivial ?_
  rintro ⟨⟨ad, c, xs⟩, r⟩ w ⟨⟨hc, hl⟩, hn, he⟩
  dsimp only at hc hl hn he ⊢
  refine ⟨⟨0, rfl, rfl, Nat.zero_le _, fun j hj => by omega⟩, ?_⟩
  rintro _ k w1 ⟨hw, hk, hne⟩
  replace hw := hw.symm
  subst hw
  refine bcase_mk (fun h => ?_) (fun h => ?_)
  · have hk : k < xs.length := by simp only [decide_eq_true_eq] at h; omega
    have hx := xor_lt hk hn he
    have hx1 := (xor_one ⟨k, by omega⟩).1
    dsimp only at hx1
    refine ⟨k, rfl, hk, hc.int hk fun b o hb => ⟨_, hb, ?_⟩⟩
    refine bcase_mk (fun h1 => ?_) (fun h1 => ?_)
    · have h1 : xs.getD k 0 = r := by simpa using h1
      refine ⟨k ^^^ 1, hx1, hx, hc.int hx fun b2 o2 hb2 => ⟨_, hb2, (xs.getD (k ^^^ 1) 0, true), rfl, ?_, rfl⟩⟩
      unfold otherF; rw [idxOf_some hk h1 hne]
    · have h1 : xs.getD k 0 ≠ r := by simpa using h1
      refine ⟨inr_i64 (by omega) (by omega), k + 1, by simp, ⟨rfl, hk, fun j hj => ?_⟩, by omega⟩
      by_cases hjk : j = k
      · subst hjk; exact h1
      · exact hne j (by omega)
  · have hk : k = xs.length := by simp only [decide_eq_false_iff_not] at h; omega
    subst hk
    refine ⟨(0, false), rfl, ?_, rfl⟩
    unfold otherF; rw [idxOf_none hne]

theorem rpair_ok : sPair.Ok Try.prog 25 := by
  refine rpair_vc ⟨bras_ok, trivial⟩ ?_
  rintro (r : Int) w _
  refine ⟨(), rfl, trivial, ?_⟩
  rintro ⟨a, c⟩ w1 hm
  dsimp only at hm ⊢
  have hc := hm.row.cells
  have hB : braL.length = 30 := rfl
  refine ⟨⟨0, rfl, rfl, Nat.zero_le _, fun j hj => by omega⟩, ?_⟩
  rintro _ k w2 ⟨hw, hk, hne⟩
  replace hw := hw.symm
  subst hw
  refine bcase_mk (fun h => ?_) (fun h => ?_)
  · have hk : k < 30 := by simp only [decide_eq_true_eq] at h; omega
    have hx := xor_lt hk (Nat.le_refl _) rfl
    have hx1 := (xor_one ⟨k, hk⟩).1
    dsimp only at hx1
    refine ⟨k, rfl, by omega, hc.int (by omega) fun b o hb => ⟨_, hb, ?_⟩⟩
    refine bcase_mk (fun h1 => ?_) (fun h1 => ?_)
    · have h1 : braL.getD k 0 = r := by simpa using h1
      refine ⟨k ^^^ 1, hx1, by omega, hc.int (by omega) fun b2 o2 hb2 => ⟨_, hb2, by omega, by omega, (braL.getD (k ^^^ 1) 0, (k : Int) % 2 == 0, true), rfl, by rw [pairF_some hk h1 hne, mod_beq], hm.ext⟩⟩
    · have h1 : braL.getD k 0 ≠ r := by simpa using h1
      refine ⟨inr_i64 (by omega) (by omega), k + 1, by simp, ⟨rfl, hk, fun j hj => ?_⟩, by omega⟩
      by_cases hjk : j = k
      · subst hjk; exact h1
      · exact hne j (by omega)
  · have hk : k = 30 := by simp only [decide_eq_false_iff_not] at h; omega
    subst hk
    exact ⟨_, rfl, (pairF_none hne).symm, hm.ext⟩

theorem mirror_ok : (sRuneX .i32 mirF).Ok Try.prog 26 := by
  refine mirror_vc ⟨pair_ok, trivial⟩ ?_
  rintro (r : Int) w _
  refine ⟨r, rfl, trivial, ?_⟩
  rintro x w' ⟨rfl, hx⟩
  have hp := pair_other r
  have hm : mirF r = if (pairF r).2.2 then (pairF r).1 else if (otherF mirL r).2 then (otherF mirL r).1 else r := by unfold mirF; rw [hp]
  refine bcase_mk (fun h => ⟨_, rfl, by rw [hm, if_pos h], hx⟩) (fun h => ?_)
  rw [if_neg (by rw [h]; decide)] at hm
  have at_ : ∀ {q : Int}, r = q → otherF mirL q = otherF mirL r := fun h => by rw [h]
  have hit : ∀ {v : Int}, otherF mirL r = (v, true) → v = mirF r := fun h1 => by rw [hm, h1]; rfl
  refine bcase_mk (fun h1 => ?_) (fun h1 => ?_)
  · simp only [Bool.or_eq_true, beq_iff_eq] at h1
    rcases h1 with rfl | rfl
    · exact ⟨inr_i32 (by omega) (by omega), _, rfl, hit (by decide), hx⟩
    · exact ⟨inr_i32 (by omega) (by omega), _, rfl, hit (by decide), hx⟩
  refine bcase_mk (fun h2 => ?_) (fun h2 => ?_)
  · simp only [Bool.or_eq_true, beq_iff_eq] at h2
    rcases h2 with rfl | rfl
    · exact ⟨inr_i32 (by omega) (by omega), _, rfl, hit (by decide), hx⟩
    · exact ⟨inr_i32 (by omega) (by omega), _, rfl, hit (by decide), hx⟩
  refine bcase_mk (fun h3 => ?_) (fun h3 => ?_)
  · simp only [beq_iff_eq] at h3
    subst h3
    exact ⟨_, rfl, hit (by decide), hx⟩
  refine bcase_mk (fun h4 => ?_) (fun h4 => ?_)
  · simp only [beq_iff_eq] at h4
    subst h4
    exact ⟨_, rfl, hit (by decide), hx⟩
  refine bcase_mk (fun h5 => ?_) (fun h5 => ?_)
  · simp only [Bool.or_eq_true, beq_iff_eq] at h5
    rcases h5 with rfl | rfl
    · exact ⟨inr_i32 (by omega) (by omega), _, rfl, hit (by decide), hx⟩
    · exact ⟨inr_i32 (by omega) (by omega), _, rfl, hit (by decide), hx⟩
  refine bcase_mk (fun h6 => ?_) (fun h6 => ?_)
  · simp only [Bool.or_eq_true, beq_iff_eq] at h6
    rcases h6 with rfl | rfl
    · exact ⟨inr_i32 (by omega) (by omega), _, rfl, hit (by decide), hx⟩
    · exact ⟨inr_i32 (by omega) (by omega), _, rfl, hit (by decide), hx⟩
  refine ⟨_, rfl, ?_, hx⟩
  simp only [Bool.or_eq_false_iff, beq_eq_false_iff_ne, ne_eq] at h1 h2 h3 h4 h5 h6
  have hno : otherF mirL r = (0, false) := by
    unfold otherF
    rw [idxOf_none (l := mirL) (fun j hj => ?_)]
    have hj : j < 10 := hj
    match j, hj with
    | 0, _ => exact fun e => h1.1 e.symm
    | 1, _ => exact fun e => h2.1 e.symm
    | 2, _ => exact fun e => h3 e.symm
    | 3, _ => exact fun e => h4 e.symm
    | 4, _ => exact fun e => h5.1 e.symm
    | 5, _ => exact fun e => h5.2 e.symm
    | 6, _ => exact fun e => h6.1 e.symm
    | 7, _ => exact fun e => h6.2 e.symm
    | 8, _ => exact fun e => h1.2 e.symm
    | 9, _ => exact fun e => h2.2 e.symm
  rw [hm, hno]; rfl

theorem rmirror_ok : (sRuneX .i32 mirF).Ok Try.prog 27 := by
  refine rmirror_vc ⟨bras_ok, mirs_ok, other_ok, trivial⟩ ?_
  rintro (r : Int) w _
  refine ⟨(), rfl, trivial, ?_⟩
  rintro ⟨a, c⟩ w1 hm
  dsimp only at hm ⊢
  refine ⟨⟨⟨a, c, braL⟩, r⟩, rfl, ⟨⟨hm.row.cells, by show braL.length ≤ _; decide⟩, by show braL.length ≤ _; decide, by show braL.length % 2 = 0; decide⟩, ?_⟩
  rintro x w2 ⟨rfl, hw⟩
  replace hw := hw.symm
  subst hw
  dsimp only
  refine bcase_mk (fun h => ⟨_, rfl, by unfold mirF; rw [if_pos h], hm.ext⟩) (fun h => ?_)
  refine ⟨(), rfl, trivial, ?_⟩
  rintro ⟨a2, c2⟩ w3 hm3
  dsimp only at hm3 ⊢
  have e3 := hm.ext.trans hm3.ext
  refine ⟨⟨⟨a2, c2, mirL⟩, r⟩, rfl, ⟨⟨hm3.row.cells, by show mirL.length ≤ _; decide⟩, by show mirL.length ≤ _; decide, by show mirL.length % 2 = 0; decide⟩, ?_⟩
  rintro x w4 ⟨rfl, hw⟩
  replace hw := hw.symm
  subst hw
  dsimp only
  refine bcase_mk (fun h2 => ⟨_, rfl, ?_, e3⟩) (fun h2 => ⟨_, rfl, ?_, e3⟩)
  · unfold mirF; rw [if_neg (by rw [h]; decide), if_pos h2]
  · unfold mirF; rw [if_neg (by rw [h]; decide), if_neg (by rw [h2]; decide)]

theorem lookC_bd {d : Int} (hd : 0 ≤ d ∧ d ≤ 255) (q : Int) : ∀ (l : List (List RC × Int)), l.all (fun p => decide (0 ≤ p.2) && decide (p.2 ≤ 255)) = true → 0 ≤ lookC l d q ∧ lookC l d q ≤ 255
  | [], _ => hd
  | (c, v) :: l, h => by
    simp only [List.all_cons, Bool.and_eq_true, decide_eq_true_eq] at h
    simp only [lookC]
    split
    · exact h.1
    · exact lookC_bd hd q l h.2
theorem kindR_bd (r : Int) : 0 ≤ kindR r ∧ kindR r ≤ 255 := lookC_bd (by decide) _ kindL (by decide +kernel)
theorem dirR_bd (r : Int) : 0 ≤ dirR r ∧ dirR r ≤ 255 := lookC_bd (by decide) _ dirL (by decide +kernel)
theorem joinR_bd (r : Int) : 0 ≤ joinR r ∧ joinR r ≤ 255 := lookC_bd (by decide) _ joinL (by decide +kernel)
theorem brkR_bd (r : Int) : 0 ≤ brkR r ∧ brkR r ≤ 255 := lookC_bd (by decide) _ brkL (by decide +kernel)
theorem markR_bd (r : Int) : 0 ≤ markR r ∧ markR r ≤ 255 := lookC_bd (by decide) _ markL (by decide +kernel)
theorem widR_bd (r : Int) : 0 ≤ widR r ∧ widR r ≤ 255 := lookC_bd (by decide) _ widL (by decide +kernel)

theorem value_ok : sValue.Ok Try.prog 44 := by
  refine value_vc ⟨rkind_ok, rdir_ok, rwid_ok, rmark_ok, rjoin_ok, rbrk_ok, trivial⟩ ?_
  rintro ⟨t, r⟩ w _
  dsimp only
  unfold valueF
  refine bcase_mk (fun h0 => ?_) (fun h0 => ?_)
  · have h0 : t = 0 := by simpa using h0
    subst h0
    refine ⟨r, rfl, trivial, ?_⟩
    rintro x w' ⟨rfl, rfl⟩
    have := kindR_bd r
    exact ⟨inr_i64 (by omega) (by omega), (_, _), rfl, rfl, rfl⟩
  have h0 : t ≠ 0 := by simpa using h0
  rw [if_neg h0]
  refine bcase_mk (fun h1 => ?_) (fun h1 => ?_)
  · have h1 : t = 1 := by simpa using h1
    subst h1
    refine ⟨r, rfl, trivial, ?_⟩
    rintro x w' ⟨rfl, rfl⟩
    have := dirR_bd r
    exact ⟨inr_i64 (by omega) (by omega), (_, _), rfl, rfl, rfl⟩
  have h1 : t ≠ 1 := by simpa using h1
  rw [if_neg h1]
  refine bcase_mk (fun h2 => ?_) (fun h2 => ?_)
  · have h2 : t = 2 := by simpa using h2
    subst h2
    refine ⟨r, rfl, trivial, ?_⟩
    rintro x w' ⟨rfl, rfl⟩
    exact ⟨(_, _), rfl, rfl, rfl⟩
  have h2 : t ≠ 2 := by simpa using h2
  rw [if_neg h2]
  refine bcase_mk (fun h3 => ?_) (fun h3 => ?_)
  · have h3 : t = 3 := by simpa using h3
    subst h3
    refine ⟨r, rfl, trivial, ?_⟩
    rintro x w' ⟨rfl, rfl⟩
    have := markR_bd r
    exact ⟨inr_i64 (by omega) (by omega), (_, _), rfl, rfl, rfl⟩
  have h3 : t ≠ 3 := by simpa using h3
  rw [if_neg h3]
  refine bcase_mk (fun h4 => ?_) (fun h4 => ?_)
  · have h4 : t = 4 := by simpa using h4
    subst h4
    refine ⟨r, rfl, trivial, ?_⟩
    rintro x w' ⟨rfl, rfl⟩
    have := joinR_bd r
    exact ⟨inr_i64 (by omega) (by omega), (_, _), rfl, rfl, rfl⟩
  have h4 : t ≠ 4 := by simpa using h4
  rw [if_neg h4]
  refine bcase_mk (fun h5 => ?_) (fun h5 => ?_)
  · have h5 : t = 5 := by simpa using h5
    subst h5
    refine ⟨r, rfl, trivial, ?_⟩
    rintro x w' ⟨rfl, rfl⟩
    have := brkR_bd r
    exact ⟨inr_i64 (by omega) (by omega), (_, _), rfl, rfl, rfl⟩
  have h5 : t ≠ 5 := by simpa using h5
  rw [if_neg h5]
  exact ⟨(_, _), rfl, rfl, rfl⟩

end Go.Proofs.Ytlklgngdagebfaa
