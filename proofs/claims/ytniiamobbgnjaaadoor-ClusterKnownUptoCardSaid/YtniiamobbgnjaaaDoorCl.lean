/-
  Clusters in plain words: how many signs the one has that begins at a sign ('firstN'), where they lie in a text.
-/
import Derived.Test.YtniiamobbgnjaaaDoorUr
import Derived.Test.YtniiamobbgnjaaaDoorTbKind
import Derived.Test.YtniiamobbgnjaaaDoorTbWid
import Derived.Test.YtniiamobbgnjaaaDoorOrb
set_option linter.unusedVariables false
set_option linter.unusedSimpArgs false
namespace Go.Proofs.YtniiamobbgnjaaaDoor.Cl
open Go Vc Ut Tb Orb

/-- Columns, with what is ambiguous told. -/
def wideR (r : Int) (b : Bool) : Int := if widR r < 3 then widR r else if b then 2 else 1
def regB (r : Int) : Bool := decide (127462 ≤ r) && decide (r ≤ 127487)
def joinB (r : Int) : Bool := r == 8204 || r == 8205
def picB (r : Int) : Bool := kindR r == 7 && wideR r false == 2
def aloneB (r : Int) : Bool := kindR r == 0 || (r == 8232 || r == 8233) || (kindR r == 1 && !joinB r)
/-- Parts of a syllable: 1 first, 2 vowel, 3 last, 4 open, 5 shut; 0 none. -/
def partN (r : Int) : Nat :=
  if 4352 ≤ r ∧ r ≤ 4447 then 1 else if 4448 ≤ r ∧ r ≤ 4519 then 2 else if 4520 ≤ r ∧ r ≤ 4607 then 3
  else if 44032 ≤ r ∧ r ≤ 55203 then (if (r - 44032) % 28 = 0 then 4 else 5) else 0
def sylT : Nat → Nat → Bool
  | 1, b => b == 1 || b == 2 || b == 4 || b == 5
  | 2, b => b == 2 || b == 3
  | 4, b => b == 2 || b == 3
  | 3, b => b == 3
  | 5, b => b == 3
  | _, _ => false
def sylB (a b : Int) : Bool := sylT (partN a) (partN b)
/-- Is y taken, x being the first one, z the last one taken, with n taken? -/
def takesB (x z y : Int) (n : Nat) : Bool := (kindR y == 2 || joinB y) || (n == 1 && (regB x && regB y)) || (z == 8205 && (picB x && picB y)) || sylB z y

/-- The sign at a place. -/
def sg (s : ByteArray) (k : Nat) : Int := dcR s (pos s k)
def goB (s : ByteArray) (k n : Nat) : Bool := decide (k + n < cnt s) && (decide (n < 32) && (!isBad s (k + n) && takesB (sg s k) (sg s (k + n - 1)) (sg s (k + n)) n))
def goN (s : ByteArray) (k : Nat) : Nat → Nat → Nat
  | 0, n => n
  | f + 1, n => if goB s k n = true then goN s k f (n + 1) else n
def crB (s : ByteArray) (k : Nat) : Bool := sg s k == 13 && (decide (k + 1 < cnt s) && sg s (k + 1) == 10)
/-- How many signs the cluster has that begins at sign k. -/
def firstN (s : ByteArray) (k : Nat) : Nat := if isBad s k = true then 1 else if crB s k = true then 2 else if aloneB (sg s k) = true then 1 else goN s k 32 1

theorem goN_ge (s : ByteArray) (k : Nat) : ∀ f n, n ≤ goN s k f n
  | 0, n => Nat.le_refl _
  | f + 1, n => by
    unfold goN
    split
    · have := goN_ge s k f (n + 1); omega
    · exact Nat.le_refl _
theorem goN_le (s : ByteArray) (k : Nat) : ∀ f n, k + n ≤ cnt s → n ≤ 32 → k + goN s k f n ≤ cnt s ∧ goN s k f n ≤ 32
  | 0, n, h1, h2 => ⟨h1, h2⟩
  | f + 1, n, h1, h2 => by
    unfold goN
    split
    · rename_i h
      simp only [goB, Bool.and_eq_true, decide_eq_true_eq] at h
      exact goN_le s k f (n + 1) (by omega) (by omega)
    · exact ⟨h1, h2⟩
/-- One step of the document's loop. -/
theorem goN_step {s : ByteArray} {k n : Nat} (h : goB s k n = true) : n < 32 ∧ goN s k (33 - n) n = goN s k (33 - (n + 1)) (n + 1) := by
  have h' := h
  simp only [goB, Bool.and_eq_true, decide_eq_true_eq] at h'
  refine ⟨h'.2.1, ?_⟩
  rw [show 33 - n = (33 - (n + 1)) + 1 from by omega]
  simp only [goN]
  rw [if_pos h]
theorem goN_stop {s : ByteArray} {k n : Nat} (h : goB s k n = false) : goN s k (33 - n) n = n := by
  cases h33 : 33 - n with
  | zero => rfl
  | succ m => simp only [goN]; rw [if_neg (by rw [h]; decide)]

theorem first_fit (s : ByteArray) : Fit (cnt s) (firstN s) := by
  intro k hk
  unfold firstN
  split
  · omega
  · split
    · rename_i h
      simp only [crB, Bool.and_eq_true, decide_eq_true_eq] at h
      omega
    · split
      · omega
      · exact ⟨goN_ge s k 32 1, (goN_le s k 32 1 (by omega) (by omega)).1⟩
theorem first_le (s : ByteArray) {k : Nat} (hk : k < cnt s) : firstN s k ≤ 32 := by
  unfold firstN
  split
  · omega
  · split
    · omega
    · split
      · omega
      · exact (goN_le s k 32 1 (by omega) (by omega)).2

/-! ### Parts of a text -/

theorem sg_drop {s : ByteArray} {k : Nat} (n : Nat) : sg (s.extract (pos s k) s.size) n = sg s (k + n) := by
  unfold sg dcR; rw [dc_drop]
theorem bad_drop {s : ByteArray} {k : Nat} (n : Nat) : isBad (s.extract (pos s k) s.size) n = isBad s (k + n) := by
  unfold isBad dcR dcN; rw [dc_drop]
theorem sg_take {s : ByteArray} {k n : Nat} (hn : n < k) (hk : k ≤ cnt s) : sg (s.extract 0 (pos s k)) n = sg s n := by
  unfold sg dcR; rw [pos_take (by omega) hk, dc_take hn hk]
theorem bad_take {s : ByteArray} {k n : Nat} (hn : n < k) (hk : k ≤ cnt s) : isBad (s.extract 0 (pos s k)) n = isBad s n := by
  unfold isBad dcR dcN; rw [pos_take (by omega) hk, dc_take hn hk]

theorem goB_drop {s : ByteArray} {k j n : Nat} (hk : k ≤ cnt s) (hn : 1 ≤ n) : goB (s.extract (pos s k) s.size) j n = goB s (k + j) n := by
  unfold goB
  rw [sg_drop, sg_drop, sg_drop, bad_drop, cnt_drop hk, show k + (j + n) = k + j + n from by omega, show k + (j + n - 1) = k + j + n - 1 from by omega, show decide (j + n < cnt s - k) = decide (k + j + n < cnt s) from decide_eq_decide.2 (by omega)]
theorem goN_drop {s : ByteArray} {k j : Nat} (hk : k ≤ cnt s) : ∀ f n, 1 ≤ n → goN (s.extract (pos s k) s.size) j f n = goN s (k + j) f n
  | 0, _, _ => rfl
  | f + 1, n, hn => by
    simp only [goN]
    rw [goB_drop hk hn, goN_drop hk f (n + 1) (by omega)]
theorem first_drop {s : ByteArray} {k : Nat} (hk : k ≤ cnt s) (j : Nat) : firstN (s.extract (pos s k) s.size) j = firstN s (k + j) := by
  unfold firstN crB
  rw [bad_drop, sg_drop, sg_drop, cnt_drop hk, goN_drop hk 32 1 (by omega), ← Nat.add_assoc, show decide (j + 1 < cnt s - k) = decide (k + j + 1 < cnt s) from decide_eq_decide.2 (by omega)]

theorem goB_take {s : ByteArray} {k j n : Nat} (hk : k ≤ cnt s) (hn : j + n < k) : goB (s.extract 0 (pos s k)) j n = goB s j n := by
  unfold goB
  rw [sg_take (by omega) hk, sg_take (by omega) hk, sg_take hn hk, bad_take hn hk, cnt_take hk, show decide (j + n < k) = decide (j + n < cnt s) from decide_eq_decide.2 (by omega)]
/-- A cluster that ends ahead of a place is told without what is behind it. -/
theorem goN_take {s : ByteArray} {k j : Nat} (hk : k ≤ cnt s) : ∀ f n, j + n ≤ k → j + goN s j f n ≤ k → goN (s.extract 0 (pos s k)) j f n = goN s j f n
  | 0, _, _, _ => rfl
  | f + 1, n, h0, h => by
    simp only [goN] at h ⊢
    by_cases hn : j + n < k
    · rw [goB_take hk hn]
      by_cases hg : goB s j n = true
      · rw [if_pos hg] at h
        rw [if_pos hg, if_pos hg]
        have := goN_ge s j f (n + 1)
        exact goN_take hk f (n + 1) (by omega) h
      · rw [if_neg hg, if_neg hg]
    · have he : goB (s.extract 0 (pos s k)) j n = false := by
        unfold goB
        rw [cnt_take hk, decide_eq_false (by omega)]; rfl
      rw [if_neg (by rw [he]; decide)]
      by_cases hg : goB s j n = true
      · rw [if_pos hg] at h
        have := goN_ge s j f (n + 1)
        omega
      · rw [if_neg hg]
theorem first_take {s : ByteArray} {k j : Nat} (hk : k ≤ cnt s) (hj : j < k) (h : j + firstN s j ≤ k) : firstN (s.extract 0 (pos s k)) j = firstN s j := by
  unfold firstN at h ⊢
  rw [bad_take hj hk, sg_take hj hk]
  by_cases hb : isBad s j = true
  · rw [if_pos hb, if_pos hb]
  · rw [if_neg hb] at h
    rw [if_neg hb, if_neg hb]
    by_cases hc : crB s j = true
    · rw [if_pos hc] at h
      have : crB (s.extract 0 (pos s k)) j = true := by
        unfold crB at hc ⊢
        rw [sg_take hj hk, sg_take (by omega) hk, cnt_take hk]
        simp only [Bool.and_eq_true, decide_eq_true_eq] at hc ⊢
        exact ⟨hc.1, by omega, hc.2.2⟩
      rw [if_pos hc, if_pos this]
    · rw [if_neg hc] at h
      have : ¬ crB (s.extract 0 (pos s k)) j = true := by
        intro h2
        apply hc
        unfold crB at h2 ⊢
        rw [sg_take hj hk, cnt_take hk] at h2
        simp only [Bool.and_eq_true, decide_eq_true_eq] at h2 ⊢
        have h3 := h2.2.2
        rw [sg_take h2.2.1 hk] at h3
        exact ⟨h2.1, by omega, h3⟩
      rw [if_neg hc, if_neg this]
      by_cases ha : aloneB (sg s j) = true
      · rw [if_pos ha, if_pos ha]
      · rw [if_neg ha] at h
        rw [if_neg ha, if_neg ha]
        exact goN_take hk 32 1 (by omega) h

/-! ### CR LF -/

theorem decodeN_low (n b0 b1 b2 b3 : Nat) (h : (Lib.decodeN n b0 b1 b2 b3).1 < 128) : (Lib.decodeN n b0 b1 b2 b3).2 = 1 ∧ b0 = (Lib.decodeN n b0 b1 b2 b3).1 := by
  unfold Lib.decodeN at h ⊢
  repeat' split at h
  all_goals simp only at h
  all_goals first | omega | skip
  all_goals simp_all
theorem dc_low {s : ByteArray} {i : Nat} (h : dcR s i < 128) : dcN s i = 1 ∧ dcR s i = (bt s i : Int) := by
  have := decodeN_low (s.size - i) (bt s i) (bt s (i + 1)) (bt s (i + 2)) (bt s (i + 3)) (by unfold dcR at h; rw [dc_eq] at h; omega)
  unfold dcR dcN; rw [dc_eq]
  exact ⟨this.1, by rw [← this.2]⟩
theorem alone_13 : aloneB 13 = true := by decide +kernel
/-- A text that begins with CR. -/
theorem cr_is {s : ByteArray} (h0 : 0 < s.size) (h : sg s 0 = 13) : pos s 1 = 1 ∧ (crB s 0 = true ↔ 1 < s.size ∧ bt s 1 = 10) ∧ (crB s 0 = true → pos s 2 = 2) := by
  have hp0 : pos s 0 = 0 := rfl
  have h1 := dc_low (s := s) (i := 0) (by unfold sg at h; rw [hp0] at h; omega)
  have p1 : pos s 1 = 1 := by rw [pos_succ (n := 0) (by rw [hp0]; exact h0), hp0, h1.1]
  have hc : crB s 0 = true ↔ 1 < s.size ∧ bt s 1 = 10 := by
    unfold crB
    rw [h]
    have : (0 + 1 < cnt s) ↔ 1 < s.size := by rw [cnt_lt, p1]
    simp only [Bool.and_eq_true, decide_eq_true_eq, beq_iff_eq, true_and, this]
    refine and_congr_right fun hl => ?_
    unfold sg
    rw [p1]
    constructor
    · intro hh; have := (dc_low (s := s) (i := 1) (by omega)).2; omega
    · intro hh
      have h3 := dc_ascii (s := s) (i := 1) (by omega)
      have h4 := dc_one h3
      rw [if_pos (by omega)] at h4
      rw [h4, hh]; rfl
  refine ⟨p1, hc, fun hh => ?_⟩
  have h2 := (hc.1 hh)
  rw [pos_succ (n := 1) (by rw [p1]; exact h2.1), p1, dc_ascii (by omega)]

/-! ### A text's clusters -/

/-- The sign with which cluster i begins; its byte; how many clusters. -/
def bk (s : ByteArray) (i : Nat) : Nat := orb (cnt s) (firstN s) i
def bp (s : ByteArray) (i : Nat) : Nat := pos s (bk s i)
def ncl (s : ByteArray) : Nat := orbN (cnt s) (firstN s)

theorem bk_le (s : ByteArray) (i : Nat) : bk s i ≤ cnt s := orb_le (first_fit s) i
theorem bk_lt {s : ByteArray} {i : Nat} : i < ncl s ↔ bk s i < cnt s := orb_lt (first_fit s)
theorem bk_succ {s : ByteArray} {i : Nat} (h : i < ncl s) : bk s (i + 1) = bk s i + firstN s (bk s i) := orb_succ (bk_lt.1 h)
theorem bk_end (s : ByteArray) : bk s (ncl s) = cnt s := orb_end (first_fit s)
theorem bp_le (s : ByteArray) (i : Nat) : bp s i ≤ s.size := pos_le s _
theorem bp_end (s : ByteArray) : bp s (ncl s) = s.size := by unfold bp; rw [bk_end, pos_cnt]
theorem bp_zero (s : ByteArray) : bp s 0 = 0 := rfl
theorem bp_lt {s : ByteArray} {i : Nat} : i < ncl s ↔ bp s i < s.size := by rw [bk_lt, cnt_lt]; rfl
theorem bp_mono (s : ByteArray) {i j : Nat} (h : i ≤ j) : bp s i ≤ bp s j := pos_mono s (orb_mono h)
theorem bp_strict {s : ByteArray} {i j : Nat} (h : i < j) (hi : i < ncl s) : bp s i < bp s j := by
  have h1 := orb_strict (first_fit s) h hi
  have h2 := bk_lt.1 hi
  have h3 := (first_fit s _ h2).1
  unfold bp
  have h4 : pos s (bk s i) + dcN s (pos s (bk s i)) ≤ pos s (bk s j) := pos_strict (by unfold bk at *; omega) h2
  have := dcN_pos s (pos s (bk s i))
  omega
theorem ncl_le (s : ByteArray) : ncl s ≤ s.size := Nat.le_trans (orbN_le (first_fit s)) (cnt_le s)
theorem ncl_zero {s : ByteArray} : ncl s = 0 ↔ s.size = 0 := by rw [← cnt_zero]; exact orb_zero (first_fit s)
theorem bp_inj {s : ByteArray} {i j : Nat} (hi : i ≤ ncl s) (hj : j ≤ ncl s) (h : bp s i = bp s j) : i = j := by
  rcases Nat.lt_trichotomy i j with hl | hl | hl
  · have := bp_strict (s := s) hl (by omega); omega
  · exact hl
  · have := bp_strict (s := s) hl (by omega); omega
theorem bp_cover {s : ByteArray} {q : Nat} (h : q < s.size) : ∃ i, i < ncl s ∧ bp s i ≤ q ∧ q < bp s (i + 1) := by
  obtain ⟨n, h1, h2, h3⟩ := pos_cover h
  obtain ⟨i, g1, g2, g3⟩ := orb_cover (first_fit s) h1
  refine ⟨i, g1, Nat.le_trans (pos_mono s g2) h2, Nat.lt_of_lt_of_le h3 (pos_mono s g3)⟩

/-- Cut at a border, a text's clusters are those of the parts. -/
theorem bk_drop {s : ByteArray} {k : Nat} (hk : k ≤ ncl s) (i : Nat) : bk (s.extract (bp s k) s.size) i + bk s k = bk s (k + i) := by
  unfold bk bp
  refine orb_drop (first_fit s) hk ?_ ?_ i
  · rw [cnt_drop (bk_le s k)]; have := bk_le s k; unfold bk at *; omega
  · intro j _; exact first_drop (bk_le s k) j
theorem ncl_drop {s : ByteArray} {k : Nat} (hk : k ≤ ncl s) : ncl (s.extract (bp s k) s.size) + k = ncl s := by
  unfold ncl bp
  refine orbN_drop (first_fit s) hk ?_ ?_
  · rw [cnt_drop (bk_le s k)]; have := bk_le s k; unfold bk at *; omega
  · intro j _; exact first_drop (bk_le s k) j
theorem bp_drop {s : ByteArray} {k : Nat} (hk : k ≤ ncl s) (i : Nat) : bp (s.extract (bp s k) s.size) i + bp s k = bp s (k + i) := by
  have h := bk_drop hk i
  have h2 := pos_drop (s := s) (k := bk s k) (bk (s.extract (bp s k) s.size) i)
  unfold bp at *
  rw [h2, Nat.add_comm, h]
theorem cnt_cut {s : ByteArray} (k : Nat) : cnt (s.extract 0 (bp s k)) = bk s k := cnt_take (bk_le s k)
theorem first_cut {s : ByteArray} {k : Nat} (hk : k ≤ ncl s) : ∀ i, i < k → firstN (s.extract 0 (bp s k)) (bk s i) = firstN s (bk s i) := by
  intro i hi
  have h1 := orb_strict (first_fit s) hi (by unfold ncl at hk; omega)
  have h2 := bk_lt.1 (show i < ncl s by omega)
  have h3 := (first_fit s _ h2).1
  exact first_take (bk_le s k) (by unfold bk at *; omega) h1
theorem bk_take {s : ByteArray} {k : Nat} (hk : k ≤ ncl s) {i : Nat} (hi : i ≤ k) : bk (s.extract 0 (bp s k)) i = bk s i := by
  have := orb_take (first_fit s) hk (f' := firstN (s.extract 0 (bp s k))) (first_cut hk) i hi
  show orb (cnt (s.extract 0 (bp s k))) _ i = _
  rw [cnt_cut]; exact this
theorem ncl_take {s : ByteArray} {k : Nat} (hk : k ≤ ncl s) : ncl (s.extract 0 (bp s k)) = k := by
  show orbN (cnt (s.extract 0 (bp s k))) _ = _
  have h := orbN_take (first_fit s) hk (f' := firstN (s.extract 0 (bp s k))) (first_cut hk) (by have := first_fit (s.extract 0 (bp s k)); rw [cnt_cut] at this; exact this)
  rw [cnt_cut]; exact h
theorem bp_take {s : ByteArray} {k : Nat} (hk : k ≤ ncl s) {i : Nat} (hi : i ≤ k) : bp (s.extract 0 (bp s k)) i = bp s i := by
  unfold bp
  rw [show bk (s.extract 0 (pos s (bk s k))) i = bk s i from bk_take hk hi]
  exact pos_take (orb_mono hi) (bk_le s k)

end Go.Proofs.YtniiamobbgnjaaaDoor.Cl
