/-
  Chapter 2, the laws without the document's answer, in plain words: what the stretches of a table are, what brackets and mirrors are.
-/
import Derived.Test.YtlklgngdagebfaaTp
set_option linter.unusedVariables false
set_option linter.unusedSimpArgs false
namespace Go.Proofs.Ytlklgngdagebfaa.Tb

/-! ### Steps and stretches -/

theorem find_same : ∀ {T : List (Int × Int)} {r q : Int}, risingB T = true → (∀ p, T.head? = some p → p.1 ≤ r) → r ≤ q → q ≤ (findF T r).2 → q ≤ 1114111 → findF T q = findF T r
  | [], _, _, _, _, _, _, _ => rfl
  | [(_, _)], _, _, _, _, _, _, _ => rfl
  | (a, v) :: (b, u) :: T, r, q, hr, hh, h1, h2, h3 => by
    simp only [risingB, Bool.and_eq_true, decide_eq_true_eq] at hr
    unfold findF at h2 ⊢
    by_cases hb : r < b
    · rw [if_pos hb] at h2
      rw [if_pos hb, if_pos (by dsimp only at h2; omega)]
    · rw [if_neg hb] at h2
      rw [if_neg hb, if_neg (by omega)]
      exact find_same hr.2 (fun p hp => by cases hp; dsimp only; omega) h1 h2 h3
theorem find_last : ∀ {T : List (Int × Int)} {r : Int}, T ≠ [] → risingB T = true → (∀ p ∈ T, p.1 ≤ 1114111) → (∀ p, T.head? = some p → p.1 ≤ r) → r ≤ 1114111 → r ≤ (findF T r).2 ∧ (findF T r).2 ≤ 1114111
  | [], _, h, _, _, _, _ => absurd rfl h
  | [(_, _)], _, _, _, _, _, h => ⟨h, Int.le_refl _⟩
  | (a, v) :: (b, u) :: T, r, _, hr, hb, hh, h => by
    simp only [risingB, Bool.and_eq_true, decide_eq_true_eq] at hr
    unfold findF
    by_cases hlt : r < b
    · rw [if_pos hlt]
      have := hb (b, u) (by simp)
      dsimp only at this ⊢
      omega
    · rw [if_neg hlt]
      exact find_last (by simp) hr.2 (fun p hp => hb p (by simp [hp])) (fun p hp => by cases hp; dsimp only; omega) h
theorem find_val {T : List (Int × Int)} : ∀ {r : Int}, T ≠ [] → (∀ p, T.head? = some p → p.1 ≤ r) → ∃ j, j < T.length ∧ (T.getD j (0, 0)).1 ≤ r ∧ (findF T r).1 = (T.getD j (0, 0)).2 ∧ ((j + 1 = T.length ∧ (findF T r).2 = 1114111) ∨ (j + 1 < T.length ∧ r < (T.getD (j + 1) (0, 0)).1 ∧ (findF T r).2 = (T.getD (j + 1) (0, 0)).1 - 1)) := by
  induction T with
  | nil => intro r h; exact absurd rfl h
  | cons p T ih =>
    intro r _ hh
    obtain ⟨a, v⟩ := p
    have ha : a ≤ r := hh _ rfl
    cases T with
    | nil => exact ⟨0, by simp, ha, rfl, .inl ⟨rfl, rfl⟩⟩
    | cons p2 T =>
      obtain ⟨b, u⟩ := p2
      unfold findF
      by_cases hb : r < b
      · rw [if_pos hb]
        exact ⟨0, by simp, ha, rfl, .inr ⟨by simp, hb, rfl⟩⟩
      · rw [if_neg hb]
        obtain ⟨j, h1, h2, h3, h4⟩ := ih (r := r) (by simp) (fun p hp => by cases hp; dsimp only; omega)
        refine ⟨j + 1, by simpa using h1, h2, h3, ?_⟩
        rcases h4 with ⟨h4, h5⟩ | ⟨h4, h5⟩
        · exact .inl ⟨by simp only [List.length_cons] at h4 ⊢; omega, h5⟩
        · exact .inr ⟨by simp only [List.length_cons] at h4 ⊢; omega, h5⟩

theorem find_ok' {T : List (Int × Int)} {r : Int} (hne : T ≠ []) (hh : ∀ p, T.head? = some p → p.1 ≤ r) : FindOk T r (findF T r).1 (findF T r).2 := by
  obtain ⟨j, h1, h2, h3, h4⟩ := find_val hne hh
  exact ⟨j, h1, h2, h3, h4⟩
def chr (r : Int) : Prop := 0 ≤ r ∧ r ≤ 1114111 ∧ (r < 55296 ∨ 57344 ≤ r)
theorem known_chr {r : Int} (h : chr r) : knownF r = r := by
  obtain ⟨h0, h1, h2⟩ := h
  unfold knownF
  have : (decide (r < 0) || (decide (r > 1114111) || decide (r ≥ 55296) && decide (r ≤ 57343))) = false := by
    simp only [Bool.or_eq_false_iff, Bool.and_eq_false_iff, decide_eq_false_iff_not]
    omega
  rw [this]
theorem known_not {r : Int} (h : ¬ chr r) : knownF r = 65533 := by
  unfold chr at h
  unfold knownF
  have : (decide (r < 0) || (decide (r > 1114111) || decide (r ≥ 55296) && decide (r ≤ 57343))) = true := by
    simp only [Bool.or_eq_true, Bool.and_eq_true, decide_eq_true_eq]
    omega
  rw [this]
theorem known_is (r : Int) : chr (knownF r) := by
  by_cases h : chr r
  · rw [known_chr h]; exact h
  · rw [known_not h]; unfold chr; omega

/-- A table that one may ask: it begins at 0, rises, and ends below. -/
structure TabOk (T : List (Int × Int)) : Prop where
  rise : risingB T = true
  bd : boundsOk T = true
  head : (T.head?).map Prod.fst = some 0
  done : doneF T 300 0 = true
theorem TabOk.ne {T : List (Int × Int)} (h : TabOk T) : T ≠ [] := fun e => by have := h.head; rw [e] at this; cases this
theorem TabOk.hd {T : List (Int × Int)} (h : TabOk T) {r : Int} (h0 : 0 ≤ r) : ∀ p, T.head? = some p → p.1 ≤ r := fun p hp => by
  have := h.head
  rw [hp] at this
  simp at this
  omega
theorem TabOk.find {T : List (Int × Int)} (h : TabOk T) {r : Int} (h0 : 0 ≤ r) : FindOk T r (findF T r).1 (findF T r).2 := find_ok' h.ne (h.hd h0)
theorem TabOk.last {T : List (Int × Int)} (h : TabOk T) {r : Int} (h0 : 0 ≤ r) (h1 : r ≤ 1114111) : r ≤ (findF T r).2 ∧ (findF T r).2 ≤ 1114111 :=
  find_last h.ne h.rise (fun p hp => by have := List.all_eq_true.1 h.bd p hp; simp only [Bool.and_eq_true, decide_eq_true_eq] at this; omega) (h.hd h0) h1
theorem TabOk.same {T : List (Int × Int)} (h : TabOk T) {r q : Int} (h0 : 0 ≤ r) (h1 : r ≤ q) (h2 : q ≤ (findF T r).2) (h3 : q ≤ 1114111) : findF T q = findF T r := find_same h.rise (h.hd h0) h1 h2 h3

/-- A stretch, as the steps make it: where it begins, where it ends; what it says of all that lies in it; what comes behind. -/
theorem seg_at {T : List (Int × Int)} (h : TabOk T) {r : Int} (hr : chr r) : r ≤ capF r (findF T r).2 ∧ capF r (findF T r).2 ≤ 1114111 ∧ (r < 55296 → capF r (findF T r).2 ≤ 55295) ∧ (∀ q, r ≤ q → q ≤ capF r (findF T r).2 → findF T q = findF T r) ∧
    (capF r (findF T r).2 < 1114111 → chr (nxtF (capF r (findF T r).2))) ∧ r < nxtF (capF r (findF T r).2) ∧ ∀ q, chr q → q < nxtF (capF r (findF T r).2) → q ≤ capF r (findF T r).2 := by
  obtain ⟨h0, h1, h2⟩ := hr
  obtain ⟨hl, hm⟩ := h.last h0 h1
  have hc : capF r (findF T r).2 ≤ (findF T r).2 ∧ r ≤ capF r (findF T r).2 ∧ (r < 55296 → capF r (findF T r).2 ≤ 55295) := by unfold capF; split <;> omega
  refine ⟨hc.2.1, by omega, hc.2.2, fun q h3 h4 => h.same h0 h3 (by omega) (by omega), ?_, ?_, ?_⟩
  · unfold nxtF chr
    intro h5
    split <;> omega
  · unfold nxtF; split <;> omega
  · unfold nxtF chr
    intro q hq
    split <;> omega

def inS (r : Int) (p : Int × Int) : Bool := decide (p.1 ≤ r) && decide (r ≤ p.2)
/-- Each character lies in one stretch, and that is one of what the table says of it. -/
theorem segs_count {T : List (Int × Int)} (h : TabOk T) (v q : Int) (hq : chr q) : ∀ (f : Nat) (r : Int), (chr r ∨ r = 1114112) → doneF T f r = true → (pick v (segsF T f r)).countP (inS q) = if r ≤ q ∧ (findF T q).1 = v then 1 else 0
  | 0, r, hr, hd => by
    simp only [doneF, decide_eq_true_eq] at hd
    unfold chr at hq
    rw [if_neg (by omega)]; rfl
  | f + 1, r, hr, hd => by
    unfold segsF
    by_cases h1 : r ≤ 1114111
    · have hr : chr r := by rcases hr with hr | hr; exact hr; omega
      obtain ⟨s1, s2, s3, s4, s5, s6, s7⟩ := seg_at h hr
      rw [if_pos h1]
      rw [show doneF T (f + 1) r = doneF T f (nxtF (capF r (findF T r).2)) from by rw [doneF, if_pos h1]] at hd
      have hn : chr (nxtF (capF r (findF T r).2)) ∨ nxtF (capF r (findF T r).2) = 1114112 := by
        by_cases h5 : capF r (findF T r).2 < 1114111
        · exact .inl (s5 h5)
        · right
          have : capF r (findF T r).2 = 1114111 := by omega
          rw [this]; rfl
      have ih := segs_count h v q hq f _ hn hd
      have hk := s7 q hq
      generalize hc : capF r (findF T r).2 = c at s1 s2 s3 s4 s5 s6 s7 ih hk ⊢
      have hnc : c < nxtF c := by unfold nxtF; split <;> omega
      by_cases hv : (findF T r).1 = v
      · rw [show pick v ((r, c, (findF T r).1) :: segsF T f (nxtF c)) = (r, c) :: pick v (segsF T f (nxtF c)) from by unfold pick; rw [List.filterMap_cons_some (b := (r, c)) (by simp [hv])]]
        rw [List.countP_cons, ih]
        by_cases hin : r ≤ q ∧ q ≤ c
        · have e := s4 q hin.1 hin.2
          rw [if_neg (by omega), if_pos (by unfold inS; simp; exact hin), if_pos ⟨hin.1, by rw [e]; exact hv⟩]
        · rw [if_neg (c := inS q (r, c) = true) (by unfold inS; simp; omega)]
          by_cases hlt : nxtF c ≤ q
          · by_cases hfv : (findF T q).1 = v
            · rw [if_pos ⟨hlt, hfv⟩, if_pos ⟨by omega, hfv⟩]
            · rw [if_neg (fun h => hfv h.2), if_neg (fun h => hfv h.2)]
          · rw [if_neg (by omega), if_neg (by omega)]
      · rw [show pick v ((r, c, (findF T r).1) :: segsF T f (nxtF c)) = pick v (segsF T f (nxtF c)) from by unfold pick; rw [List.filterMap_cons_none (by simp [hv])]]
        rw [ih]
        by_cases hin : r ≤ q ∧ q ≤ c
        · have e := s4 q hin.1 hin.2
          rw [if_neg (by omega), if_neg (fun h => hv (by rw [← h.2, e]))]
        · by_cases hlt : nxtF c ≤ q
          · by_cases hfv : (findF T q).1 = v
            · rw [if_pos ⟨hlt, hfv⟩, if_pos ⟨by omega, hfv⟩]
            · rw [if_neg (fun h => hfv h.2), if_neg (fun h => hfv h.2)]
          · rw [if_neg (by omega), if_neg (by omega)]
    · rw [if_neg h1]
      unfold chr at hq
      rw [if_neg (by omega)]; rfl

/-- What each stretch is. -/
theorem segs_each {T : List (Int × Int)} (h : TabOk T) : ∀ (f : Nat) (r : Int), (chr r ∨ r = 1114112) → ∀ p ∈ segsF T f r, r ≤ p.1 ∧ chr p.1 ∧ p.1 ≤ p.2.1 ∧ p.2.1 ≤ 1114111 ∧ (p.1 < 55296 → p.2.1 ≤ 55295) ∧ ∀ q, p.1 ≤ q → q ≤ p.2.1 → (findF T q).1 = p.2.2
  | 0, r, hr, p, hp => by simp [segsF] at hp
  | f + 1, r, hr, p, hp => by
    unfold segsF at hp
    by_cases h1 : r ≤ 1114111
    · have hr : chr r := by rcases hr with hr | hr; exact hr; omega
      obtain ⟨s1, s2, s3, s4, s5, s6, s7⟩ := seg_at h hr
      rw [if_pos h1] at hp
      rcases List.mem_cons.1 hp with rfl | hp
      · exact ⟨Int.le_refl _, hr, s1, s2, s3, fun q h2 h3 => by rw [s4 q h2 h3]⟩
      · have hn : chr (nxtF (capF r (findF T r).2)) ∨ nxtF (capF r (findF T r).2) = 1114112 := by
          by_cases h5 : capF r (findF T r).2 < 1114111
          · exact .inl (s5 h5)
          · right
            have : capF r (findF T r).2 = 1114111 := by omega
            rw [this]; rfl
        obtain ⟨g1, g2⟩ := segs_each h f _ hn p hp
        exact ⟨by omega, g2⟩
    · rw [if_neg h1] at hp; simp at hp

/-- Stretches of one value do not touch: the one behind another one begins later, and says something else or lies apart. -/
def apartB : List (Int × Int × Int) → Bool
  | [] => true
  | [_] => true
  | p :: q :: l => decide (p.2.1 < q.1) && (decide (p.2.1 + 1 < q.1) || p.2.2 != q.2.2) && decide (q.1 ≤ q.2.1) && apartB (q :: l)
theorem apart_far : ∀ {l : List (Int × Int × Int)} {p : Int × Int × Int}, apartB (p :: l) = true → p.1 ≤ p.2.1 → ∀ q ∈ l, p.2.1 < q.1 ∧ (p.2.2 = q.2.2 → p.2.1 + 1 < q.1)
  | [], _, _, _, q, hq => by simp at hq
  | q :: l, p, h, hp, s, hs => by
    simp only [apartB, Bool.and_eq_true, Bool.or_eq_true, decide_eq_true_eq, bne_iff_ne] at h
    obtain ⟨⟨⟨h1, h2⟩, h3⟩, h4⟩ := h
    rcases List.mem_cons.1 hs with rfl | hs
    · exact ⟨h1, fun e => by rcases h2 with h2 | h2; exact h2; exact absurd e h2⟩
    · have := (apart_far h4 h3 s hs).1
      exact ⟨by omega, fun _ => by omega⟩
theorem apart_tail {l : List (Int × Int × Int)} {p : Int × Int × Int} (h : apartB (p :: l) = true) : apartB l = true := by
  cases l with
  | nil => rfl
  | cons q l => simp only [apartB, Bool.and_eq_true] at h; exact h.2
theorem pick_mem {v : Int} {l : List (Int × Int × Int)} {p : Int × Int} (h : p ∈ pick v l) : (p.1, p.2, v) ∈ l := by
  unfold pick at h
  obtain ⟨q, hq, he⟩ := List.mem_filterMap.1 h
  split at he
  · rename_i hv
    cases he
    obtain ⟨a, b, c⟩ := q
    dsimp only at hv ⊢
    rw [← hv]; exact hq
  · cases he
theorem pick_apart (v : Int) : ∀ {l : List (Int × Int × Int)}, apartB l = true → (∀ p ∈ l, p.1 ≤ p.2.1) → (pick v l).Pairwise fun a b => a.2 + 1 < b.1
  | [], _, _ => by simp [pick]
  | p :: l, h, hp => by
    have ih := pick_apart v (apart_tail h) (fun q hq => hp q (by simp [hq]))
    by_cases hv : p.2.2 = v
    · rw [show pick v (p :: l) = (p.1, p.2.1) :: pick v l from by unfold pick; rw [List.filterMap_cons_some (b := (p.1, p.2.1)) (by simp [hv])]]
      refine List.pairwise_cons.2 ⟨fun q hq => ?_, ih⟩
      exact (apart_far h (hp p (by simp)) _ (pick_mem hq)).2 hv
    · rw [show pick v (p :: l) = pick v l from by unfold pick; rw [List.filterMap_cons_none (by simp [hv])]]
      exact ih

/-! ### How much they hold -/

def lenF : List (Int × Int) → Nat
  | [] => 0
  | p :: l => (p.2 - p.1).toNat + 1 + lenF l
def lenS : List (Int × Int × Int) → Nat
  | [] => 0
  | p :: l => (p.2.1 - p.1).toNat + 1 + lenS l
def tilL (l : List (Int × Int × Int)) : Nat → Nat
  | 0 => 0
  | k + 1 => tilL l k + lenF (pick ((k : Int) - 1) l)
theorem tilL_cons (p : Int × Int × Int) (l : List (Int × Int × Int)) : ∀ k : Nat, tilL (p :: l) k = tilL l k + if -1 ≤ p.2.2 ∧ p.2.2 < (k : Int) - 1 then (p.2.1 - p.1).toNat + 1 else 0
  | 0 => by simp only [tilL]; rw [if_neg (by omega)]
  | k + 1 => by
    simp only [tilL]
    rw [tilL_cons p l k]
    by_cases hv : p.2.2 = (k : Int) - 1
    · rw [show pick ((k : Int) - 1) (p :: l) = (p.1, p.2.1) :: pick ((k : Int) - 1) l from by unfold pick; rw [List.filterMap_cons_some (b := (p.1, p.2.1)) (by simp [hv])]]
      rw [if_neg (by omega), if_pos (by omega)]
      simp only [lenF]
      omega
    · rw [show pick ((k : Int) - 1) (p :: l) = pick ((k : Int) - 1) l from by unfold pick; rw [List.filterMap_cons_none (by simp [hv])]]
      by_cases hb : -1 ≤ p.2.2 ∧ p.2.2 < (k : Int) - 1
      · rw [if_pos hb, if_pos (by omega)]; omega
      · rw [if_neg hb, if_neg (by omega)]; omega
theorem tilL_nil : ∀ k : Nat, tilL [] k = 0
  | 0 => rfl
  | k + 1 => by simp only [tilL, pick, List.filterMap_nil, lenF, tilL_nil k]
theorem tilL_all : ∀ {l : List (Int × Int × Int)} {k : Nat}, (l.all fun p => decide (-1 ≤ p.2.2) && decide (p.2.2 < (k : Int) - 1)) = true → tilL l k = lenS l
  | [], k, _ => tilL_nil k
  | p :: l, k, h => by
    simp only [List.all_cons, Bool.and_eq_true, decide_eq_true_eq] at h
    rw [tilL_cons, tilL_all h.2, if_pos (by omega)]
    simp only [lenS]
    omega

theorem kind_tab : TabOk kindT := ⟨kind_rising, by decide +kernel, by decide +kernel, kind_done⟩
theorem kind_look (r : Int) : kindR r = (findF kindT (knownF r)).1 := (FindOk.val (kind_tab.find (known_is r).1) kind_agree).symm
theorem kind_segs : (apartB kindS && decide (lenS kindS = 1112064) && kindS.all fun p => decide (-1 ≤ p.2.2) && decide (p.2.2 < 261)) = true := by decide +kernel
theorem dir_tab : TabOk dirT := ⟨dir_rising, by decide +kernel, by decide +kernel, dir_done⟩
theorem dir_look (r : Int) : dirR r = (findF dirT (knownF r)).1 := (FindOk.val (dir_tab.find (known_is r).1) dir_agree).symm
theorem dir_segs : (apartB dirS && decide (lenS dirS = 1112064) && dirS.all fun p => decide (-1 ≤ p.2.2) && decide (p.2.2 < 261)) = true := by decide +kernel
theorem wid_tab : TabOk widT := ⟨wid_rising, by decide +kernel, by decide +kernel, wid_done⟩
theorem wid_look (r : Int) : widR r = (findF widT (knownF r)).1 := (FindOk.val (wid_tab.find (known_is r).1) wid_agree).symm
theorem wid_segs : (apartB widS && decide (lenS widS = 1112064) && widS.all fun p => decide (-1 ≤ p.2.2) && decide (p.2.2 < 261)) = true := by decide +kernel
theorem mark_tab : TabOk markT := ⟨mark_rising, by decide +kernel, by decide +kernel, mark_done⟩
theorem mark_look (r : Int) : markR r = (findF markT (knownF r)).1 := (FindOk.val (mark_tab.find (known_is r).1) mark_agree).symm
theorem mark_segs : (apartB markS && decide (lenS markS = 1112064) && markS.all fun p => decide (-1 ≤ p.2.2) && decide (p.2.2 < 261)) = true := by decide +kernel
theorem join_tab : TabOk joinT := ⟨join_rising, by decide +kernel, by decide +kernel, join_done⟩
theorem join_look (r : Int) : joinR r = (findF joinT (knownF r)).1 := (FindOk.val (join_tab.find (known_is r).1) join_agree).symm
theorem join_segs : (apartB joinS && decide (lenS joinS = 1112064) && joinS.all fun p => decide (-1 ≤ p.2.2) && decide (p.2.2 < 261)) = true := by decide +kernel
theorem brk_tab : TabOk brkT := ⟨brk_rising, by decide +kernel, by decide +kernel, brk_done⟩
theorem brk_look (r : Int) : brkR r = (findF brkT (knownF r)).1 := (FindOk.val (brk_tab.find (known_is r).1) brk_agree).symm
theorem brk_segs : (apartB brkS && decide (lenS brkS = 1112064) && brkS.all fun p => decide (-1 ≤ p.2.2) && decide (p.2.2 < 261)) = true := by decide +kernel

/-! ### All tables at once -/

/-- Between two borders the tables stand still; p holds of what they say. -/
def chkB (Ts : List (List (Int × Int))) (p : List Int → Bool) : List Int → Bool
  | b :: b' :: B => Ts.all (fun T => decide (b' - 1 ≤ (findF T b).2)) && p (Ts.map fun T => (findF T b).1) && decide (0 ≤ b) && chkB Ts p (b' :: B)
  | _ => true
theorem chkB_at {Ts : List (List (Int × Int))} {p : List Int → Bool} (ht : ∀ T ∈ Ts, TabOk T) : ∀ {B : List Int} {b q : Int}, chkB Ts p (b :: B) = true → b ≤ q → q < (b :: B).getLast (by simp) → q ≤ 1114111 → p (Ts.map fun T => (findF T q).1) = true
  | [], b, q, _, h1, h2, _ => by simp at h2; omega
  | b' :: B, b, q, h, h1, h2, h3 => by
    simp only [chkB, Bool.and_eq_true, decide_eq_true_eq, List.all_eq_true] at h
    obtain ⟨⟨⟨h4, h5⟩, h6⟩, h7⟩ := h
    by_cases hq : q < b'
    · rw [show (Ts.map fun T => (findF T q).1) = Ts.map fun T => (findF T b).1 from List.map_congr_left fun T hT => by rw [(ht T hT).same h6 h1 (by have := h4 T hT; omega) h3]]
      exact h5
    · exact chkB_at ht h7 (by omega) (by simpa using h2) h3

/-- What the law says of one number's classes: kind, direction, width, mark, joining. -/
def alikeB : List Int → Bool
  | [k, d, w, m, j] => (decide (k = 2) == decide (d = 8)) && (decide (k = 2) == decide (j = 4)) && (!decide (k = 2) || decide (w = 0)) && (!decide (0 < m) || decide (k = 2)) && (!(decide (k = 0) || decide (k = 1)) || decide (w = 0))
  | _ => false
theorem alike_bord : chkB [kindT, dirT, widT, markT, joinT] alikeB bordL = true := by decide +kernel
theorem alike_all (r : Int) : alikeB [kindR r, dirR r, widR r, markR r, joinR r] = true := by
  rw [kind_look, dir_look, wid_look, mark_look, join_look]
  have hc := known_is r
  refine chkB_at (Ts := [kindT, dirT, widT, markT, joinT]) (p := alikeB) (b := 0) (B := bordL.tail) ?_ (by have := alike_bord; exact this) hc.1 ?_ hc.2.1
  · intro T hT
    simp only [List.mem_cons, List.mem_nil_iff, or_false] at hT
    rcases hT with rfl | rfl | rfl | rfl | rfl
    · exact kind_tab
    · exact dir_tab
    · exact wid_tab
    · exact mark_tab
    · exact join_tab
  · have : (0 :: bordL.tail).getLast (by simp) = 1114112 := by decide +kernel
    rw [this]
    have := hc.2.1
    omega

/-! ### Brackets and mirrors -/

def mirB (r : Int) : Bool := mirF (mirF r) == r && (!(pairF r).2.2 || ((pairF r).1 == mirF r && (pairF (pairF r).1).2.2 && (pairF (pairF r).1).1 == r && (pairF (pairF r).1).2.1 != (pairF r).2.1 && (pairF r).1 != r)) && ((pairF r).2.2 || ((pairF r).1 == 0 && !(pairF r).2.1)) && (decide (0 ≤ r) && decide (r ≤ 1114111) && (decide (r < 55296) || decide (r > 57343)) || mirF r == r)
theorem mir_bra : ∀ r ∈ braL, mirB r = true := by decide +kernel
theorem mir_mir : ∀ r ∈ mirL, mirB r = true := by decide +kernel
theorem idx_not {l : List Int} {r : Int} (h : r ∉ l) : idxOf l r = none := by
  unfold idxOf
  rw [List.findIdx?_eq_none_iff]
  intro x hx
  simp only [beq_eq_false_iff_ne, ne_eq]
  rintro rfl
  exact h hx
theorem mir_all (r : Int) : mirB r = true := by
  by_cases h1 : r ∈ braL
  · exact mir_bra r h1
  by_cases h2 : r ∈ mirL
  · exact mir_mir r h2
  have e1 := idx_not h1
  have e2 := idx_not h2
  have hp : pairF r = (0, false, false) := by unfold pairF; rw [e1]
  have hm : mirF r = r := by unfold mirF otherF; rw [e1, e2]; rfl
  unfold mirB
  rw [hp, hm, hm]
  simp

end Go.Proofs.Ytlklgngdagebfaa.Tb
