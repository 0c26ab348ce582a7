/-
  Parts of a row, one behind another: where they begin ('orb'), how many there are ('orbN'); f tells how many places the part that begins at a place has.
-/
namespace Go.Proofs.YtniiamobbgnjaaaDoor.Orb

/-- Where part i begins, in a row of m places. -/
def orb (m : Nat) (f : Nat → Nat) : Nat → Nat
  | 0 => 0
  | i + 1 => if orb m f i < m then orb m f i + f (orb m f i) else orb m f i
def orbG (m : Nat) (f : Nat → Nat) : Nat → Nat
  | 0 => 0
  | k + 1 => if orb m f (orbG m f k) < m then orbG m f k + 1 else orbG m f k
/-- How many parts there are. -/
def orbN (m : Nat) (f : Nat → Nat) : Nat := orbG m f m

/-- Each part has a place at least, and ends within the row. -/
def Fit (m : Nat) (f : Nat → Nat) : Prop := ∀ k, k < m → 1 ≤ f k ∧ k + f k ≤ m

variable {m : Nat} {f : Nat → Nat}

theorem orb_le (h : Fit m f) : ∀ i, orb m f i ≤ m
  | 0 => Nat.zero_le _
  | i + 1 => by
    simp only [orb]
    split
    · rename_i hl; exact (h _ hl).2
    · exact orb_le h i
theorem orb_succ {i : Nat} (hi : orb m f i < m) : orb m f (i + 1) = orb m f i + f (orb m f i) := by simp only [orb]; rw [if_pos hi]
theorem orb_step (i : Nat) : orb m f i ≤ orb m f (i + 1) := by simp only [orb]; split <;> omega
theorem orb_mono {i j : Nat} (h : i ≤ j) : orb m f i ≤ orb m f j := by
  induction j with
  | zero => have : i = 0 := by omega
            subst this; exact Nat.le_refl _
  | succ j ih =>
    by_cases hi : i = j + 1
    · subst hi; exact Nat.le_refl _
    · exact Nat.le_trans (ih (by omega)) (orb_step j)
theorem orb_ge (h : Fit m f) : ∀ {i : Nat}, orb m f i < m → i ≤ orb m f i
  | 0, _ => Nat.zero_le _
  | i + 1, hi => by
    have h0 : orb m f i < m := Nat.lt_of_le_of_lt (orb_step i) hi
    have := orb_ge h h0
    rw [orb_succ h0]
    have := (h _ h0).1
    omega
theorem orbG_inv (h : Fit m f) (k : Nat) : orbG m f k ≤ k ∧ (∀ i, i < orbG m f k → orb m f i < m) ∧ (orb m f (orbG m f k) < m → orbG m f k = k) := by
  induction k with
  | zero => exact ⟨Nat.le_refl _, fun i hi => by simp [orbG] at hi, fun _ => rfl⟩
  | succ k ih =>
    obtain ⟨h1, h2, h3⟩ := ih
    simp only [orbG]
    split
    · rename_i hl
      refine ⟨by omega, fun i hi => ?_, fun _ => by rw [h3 hl]⟩
      by_cases hi' : i < orbG m f k
      · exact h2 i hi'
      · have : i = orbG m f k := by omega
        rw [this]; exact hl
    · rename_i hl
      exact ⟨by omega, h2, fun hh => absurd hh hl⟩
theorem orbN_le (h : Fit m f) : orbN m f ≤ m := (orbG_inv h m).1
theorem orb_end (h : Fit m f) : orb m f (orbN m f) = m := by
  by_cases hl : orb m f (orbN m f) < m
  · have h1 := (orbG_inv h m).2.2 hl
    have h2 := orb_ge h hl
    unfold orbN at *
    omega
  · have := orb_le h (orbN m f); omega
theorem orb_lt (h : Fit m f) {i : Nat} : i < orbN m f ↔ orb m f i < m := by
  refine ⟨(orbG_inv h m).2.1 i, fun hi => ?_⟩
  by_cases hc : i < orbN m f
  · exact hc
  · have := orb_mono (m := m) (f := f) (show orbN m f ≤ i by omega)
    rw [orb_end h] at this
    omega
theorem orb_out (h : Fit m f) {i : Nat} (hi : orbN m f ≤ i) : orb m f i = m := by
  have h1 := orb_mono (m := m) (f := f) hi
  rw [orb_end h] at h1
  have := orb_le h i
  omega
theorem orb_strict (h : Fit m f) {i j : Nat} (hij : i < j) (hi : i < orbN m f) : orb m f i + f (orb m f i) ≤ orb m f j := by
  rw [← orb_succ ((orb_lt h).1 hi)]
  exact orb_mono hij
theorem orb_inj (h : Fit m f) {i j : Nat} (hi : i ≤ orbN m f) (hj : j ≤ orbN m f) (he : orb m f i = orb m f j) : i = j := by
  rcases Nat.lt_trichotomy i j with hl | hl | hl
  · have := orb_strict h hl (by omega)
    have := (h _ ((orb_lt h).1 (show i < orbN m f by omega))).1
    omega
  · exact hl
  · have := orb_strict h hl (by omega)
    have := (h _ ((orb_lt h).1 (show j < orbN m f by omega))).1
    omega
theorem orb_zero (h : Fit m f) : orbN m f = 0 ↔ m = 0 := by
  refine ⟨fun h0 => ?_, fun h0 => ?_⟩
  · have := orb_end h; rw [h0] at this; exact this.symm
  · have := orbN_le h; omega
theorem orb_cover (h : Fit m f) {q : Nat} (hq : q < m) : ∃ i, i < orbN m f ∧ orb m f i ≤ q ∧ q < orb m f (i + 1) := by
  have key : ∀ i, i ≤ orbN m f → q < orb m f i → ∃ i, i < orbN m f ∧ orb m f i ≤ q ∧ q < orb m f (i + 1) := by
    intro i
    induction i with
    | zero => intro _ h2; simp [orb] at h2
    | succ i ih =>
      intro h1 h2
      by_cases h3 : orb m f i ≤ q
      · exact ⟨i, by omega, h3, h2⟩
      · exact ih (by omega) (by omega)
  exact key (orbN m f) (Nat.le_refl _) (by rw [orb_end h]; exact hq)

/-! ### Parts of a row -/

/-- What lies behind a border is parted as the whole is. -/
theorem orb_drop (h : Fit m f) {m' : Nat} {f' : Nat → Nat} {k : Nat} (hk : k ≤ orbN m f) (hm : m' + orb m f k = m) (hf : ∀ j, j < m' → f' j = f (orb m f k + j)) : ∀ i, orb m' f' i + orb m f k = orb m f (k + i)
  | 0 => by simp [orb]
  | i + 1 => by
    have ih := orb_drop h hk hm hf i
    rw [← Nat.add_assoc]
    simp only [orb]
    by_cases hl : orb m' f' i < m'
    · rw [if_pos hl, if_pos (by omega), hf _ hl, ← ih, Nat.add_comm (orb m f k)]
      omega
    · rw [if_neg hl, if_neg (by omega)]
      exact ih
theorem fit_drop (h : Fit m f) {m' b : Nat} {f' : Nat → Nat} (hm : m' + b = m) (hf : ∀ j, j < m' → f' j = f (b + j)) : Fit m' f' := by
  intro j hj
  have := h (b + j) (by omega)
  rw [hf j hj]
  omega
theorem orbN_drop (h : Fit m f) {m' : Nat} {f' : Nat → Nat} {k : Nat} (hk : k ≤ orbN m f) (hm : m' + orb m f k = m) (hf : ∀ j, j < m' → f' j = f (orb m f k + j)) : orbN m' f' + k = orbN m f := by
  have h' := fit_drop h hm hf
  have hd := orb_drop h hk hm hf
  have h1 := hd (orbN m' f')
  rw [orb_end h', hm] at h1
  have h2 : orb m f (orbN m f) = orb m f (k + orbN m' f') := by rw [orb_end h]; exact h1
  by_cases hlt : k + orbN m' f' ≤ orbN m f
  · have := orb_inj h (Nat.le_refl _) hlt h2; omega
  · have h3 := hd (orbN m f - k)
    rw [show k + (orbN m f - k) = orbN m f from by omega, orb_end h] at h3
    have h4 := (orb_lt h').1 (show orbN m f - k < orbN m' f' by omega)
    omega
/-- What lies ahead of a border, too. -/
theorem orb_take (h : Fit m f) {f' : Nat → Nat} {k : Nat} (hk : k ≤ orbN m f) (hf : ∀ i, i < k → f' (orb m f i) = f (orb m f i)) : ∀ i, i ≤ k → orb (orb m f k) f' i = orb m f i
  | 0, _ => rfl
  | i + 1, hi => by
    have ih := orb_take h hk hf i (by omega)
    have h1 : orb m f i < m := (orb_lt h).1 (by omega)
    have h2 := orb_strict h (show i < k by omega) (by omega)
    have h3 := (h _ h1).1
    simp only [orb, ih]
    rw [if_pos (by omega), if_pos h1, hf i (by omega)]
theorem orbN_take (h : Fit m f) {f' : Nat → Nat} {k : Nat} (hk : k ≤ orbN m f) (hf : ∀ i, i < k → f' (orb m f i) = f (orb m f i)) (hfit : Fit (orb m f k) f') : orbN (orb m f k) f' = k := by
  have ht := orb_take h hk hf
  have h1 := ht k (Nat.le_refl _)
  by_cases hlt : k < orbN (orb m f k) f'
  · have := (orb_lt hfit).1 hlt; omega
  · have h2 := orb_end hfit
    by_cases he : orbN (orb m f k) f' = k
    · exact he
    · have h3 := ht (orbN (orb m f k) f') (by omega)
      rw [h2] at h3
      exact (orb_inj h (by omega) hk h3.symm)

end Go.Proofs.YtniiamobbgnjaaaDoor.Orb
