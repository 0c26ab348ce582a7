/-
  Chapter 11 in plain words: marks put in; letters joined with each other.
-/
import Derived.Test.YtliihpdhoimmoaaPlD
import Derived.Test.YtliihpdhoimmoaaPlC
set_option linter.unusedVariables false
set_option linter.unusedSimpArgs false
namespace Go.Proofs.Ytliihpdhoimmoaa.Tb

/-! ### What the marks do -/

def noMark (xs : List Int) : List Int := xs.filter fun x => decide (joinR x ≠ 4)

theorem nextJ_filter (xs : List Int) : nextJ xs = nextJ (noMark xs) := by
  induction xs with
  | nil => rfl
  | cons x xs ih =>
    by_cases h : joinR x = 4
    · simp only [nextJ, noMark] at ih ⊢
      rw [if_pos h, List.filter_cons_of_neg (by simp [h])]; exact ih
    · simp only [noMark] at ih ⊢
      rw [List.filter_cons_of_pos (by simp [h])]; simp only [nextJ]; rw [if_neg h, if_neg h]

theorem nextJ_congr {a b : List Int} (h : noMark a = noMark b) : nextJ a = nextJ b := by rw [nextJ_filter a, nextJ_filter b, h]
theorem nextJ_congr_rev {a b : List Int} (h : noMark a = noMark b) : nextJ a.reverse = nextJ b.reverse := by
  refine nextJ_congr ?_
  simp only [noMark] at h ⊢
  rw [List.filter_reverse, List.filter_reverse, h]
theorem noMark_app (a b : List Int) : noMark (a ++ b) = noMark a ++ noMark b := by simp [noMark]
theorem noMark_rep {m : Int} (h : joinR m = 4) (n : Nat) : noMark (List.replicate n m) = [] := by
  simp [noMark, List.filter_replicate, h]

def pieceM (xs at' : List Int) (m : Int) (i : Nat) : List Int := List.replicate (at'.count (i : Int)) m ++ (if i < xs.length then [xs.getD i 0] else [])
def withM (xs at' : List Int) (m : Int) : Nat → List Int
  | 0 => []
  | i + 1 => withM xs at' m i ++ pieceM xs at' m i
def ownM (xs at' : List Int) (m : Int) (i : Nat) : Int := ((withM xs at' m i).length + at'.count (i : Int) : Nat)

theorem pieceM_len (xs at' : List Int) (m : Int) (i : Nat) : (pieceM xs at' m i).length ≤ at'.length + 1 := by
  have := List.count_le_length (a := (i : Int)) (l := at')
  unfold pieceM; split <;> simp <;> omega
theorem withM_len (xs at' : List Int) (m : Int) (i : Nat) : (withM xs at' m i).length ≤ i * (at'.length + 1) := by
  induction i with
  | zero => simp [withM]
  | succ i ih => have := pieceM_len xs at' m i; simp only [withM, List.length_append]; rw [Nat.succ_mul]; omega

theorem take_succ9 {xs : List Int} {x : Nat} (h : x < xs.length) : xs.take (x + 1) = xs.take x ++ [xs.getD x 0] := by
  rw [List.take_add_one, List.getD_eq_getElem?_getD, List.getElem?_eq_getElem h]; rfl

theorem withM_noMark {xs at' : List Int} {m : Int} (hm : joinR m = 4) (i : Nat) : noMark (withM xs at' m i) = noMark (xs.take i) := by
  induction i with
  | zero => simp [withM, noMark]
  | succ i ih =>
    simp only [withM, pieceM]
    rw [noMark_app, noMark_app, ih, noMark_rep hm]
    split
    · rename_i h; rw [take_succ9 h, noMark_app]; simp
    · rename_i h; rw [List.take_of_length_le (by omega), List.take_of_length_le (by omega)]; simp [noMark]

theorem withM_pre (xs at' : List Int) (m : Int) {i n : Nat} (h : i ≤ n) : ∃ r, withM xs at' m n = withM xs at' m i ++ r := by
  induction n with
  | zero => obtain rfl : i = 0 := by omega
            exact ⟨[], by simp⟩
  | succ n ih =>
    by_cases h1 : i = n + 1
    · subst h1; exact ⟨[], by simp⟩
    · obtain ⟨r, hr⟩ := ih (by omega)
      exact ⟨r ++ pieceM xs at' m n, by simp only [withM]; rw [hr, List.append_assoc]⟩

/-- A mark put in changes nothing else's form. -/
theorem own_form {xs at' : List Int} {m : Int} (hm : joinR m = 4) {i n : Nat} (hi : i < xs.length) (hn : xs.length ≤ n) :
    ∃ o : Nat, ownM xs at' m i = o ∧ o < (withM xs at' m n).length ∧ formR (withM xs at' m n) o = formR xs i := by
  obtain ⟨r, hr⟩ := withM_pre xs at' m (show i + 1 ≤ n by omega)
  have hnm : noMark r = noMark (xs.drop (i + 1)) := by
    have h1 := withM_noMark (xs := xs) (at' := at') hm n
    rw [hr, noMark_app, withM_noMark hm, List.take_of_length_le hn] at h1
    have h2 : noMark xs = noMark (xs.take (i + 1)) ++ noMark (xs.drop (i + 1)) := by rw [← noMark_app, List.take_append_drop]
    rw [h2] at h1
    exact List.append_cancel_left h1
  have hw : withM xs at' m n = (withM xs at' m i ++ List.replicate (at'.count (i : Int)) m) ++ (xs.getD i 0 :: r) := by
    rw [hr]; simp only [withM, pieceM]; rw [if_pos hi]; simp
  generalize hA : withM xs at' m i ++ List.replicate (at'.count (i : Int)) m = A at hw
  have hAl : A.length = (withM xs at' m i).length + at'.count (i : Int) := by rw [← hA]; simp
  have hAm : noMark A = noMark (xs.take i) := by rw [← hA, noMark_app, withM_noMark hm, noMark_rep hm]; simp
  refine ⟨A.length, by unfold ownM; rw [hAl], by rw [hw]; simp, ?_⟩
  unfold formR
  have e1 : (withM xs at' m n).getD A.length 0 = xs.getD i 0 := by
    rw [hw, List.getD_eq_getElem?_getD, List.getElem?_append_right (Nat.le_refl _)]; simp
  have e2 : (withM xs at' m n).take A.length = A := by rw [hw, List.take_left]
  have e3 : (withM xs at' m n).drop (A.length + 1) = r := by rw [hw, List.drop_append]; simp
  rw [e1, e2, e3, nextJ_congr hnm, nextJ_congr_rev hAm]

theorem mark_form {xs : List Int} {i : Nat} (h : joinR (xs.getD i 0) = 4) : formR xs i = 0 := by
  unfold formR; rw [h]; exact formOf_0 (by decide) (by decide)

/-! ### Joined behind, joined ahead -/

theorem nextJ_skip {a b : List Int} (h : ∀ y ∈ a, joinR y = 4) : nextJ (a ++ b) = nextJ b := by
  induction a with
  | nil => rfl
  | cons x a ih => simp only [List.cons_append, nextJ]; rw [if_pos (h x (by simp))]; exact ih fun y hy => h y (by simp [hy])

theorem next_last {xs : List Int} {i j : Nat} (hi : i < xs.length) (hl : lastR xs i = j) (h4 : joinR (xs.getD i 0) ≠ 4) : nextJ (xs.drop (j + 1)) = joinR (xs.getD i 0) := by
  have hj : j < i := by have := (lastR_bd xs i).2; omega
  have e : xs.drop (j + 1) = (xs.take i).drop (j + 1) ++ xs.drop i := by
    conv => lhs; rw [← List.take_append_drop i xs]
    rw [List.drop_append_of_le_length (by rw [List.length_take]; omega)]
  rw [e, nextJ_skip ((win_all xs j i (by omega)).2 (by omega)), List.drop_eq_getElem_cons hi]
  simp only [nextJ]
  rw [List.getD_eq_getElem?_getD, List.getElem?_eq_getElem hi] at h4 ⊢
  simp only [Option.getD_some] at h4 ⊢
  rw [if_neg h4]

theorem last_end {xs : List Int} {j : Nat} (hl : lastR xs xs.length = j) : nextJ (xs.drop (j + 1)) = 0 := by
  have := win_zero xs j xs.length (Nat.le_refl _) (by omega)
  unfold winJ at this
  rwa [List.take_length] at this

theorem formOf_bd (k a b : Int) : 0 ≤ formOf k a b ∧ formOf k a b ≤ 3 ∧ (formOf k a b ≠ 0 → k = 1 ∨ k = 2) ∧ (k = 1 → formOf k a b ≠ 1 ∧ formOf k a b ≠ 2) := by
  unfold formOf
  split
  · split <;> omega
  · split <;> omega
theorem formOf_first (k b : Int) : formOf k 0 b = 0 ∨ formOf k 0 b = 1 := by
  unfold formOf
  rw [if_neg (by omega)]
  split <;> omega
theorem formOf_end (k a : Int) : formOf k a 0 = 0 ∨ formOf k a 0 = 3 := by
  unfold formOf
  split
  · rw [if_neg (by omega)]; omega
  · rw [if_neg (by omega)]; omega
/-- Behind: of the letter with class c whose next one's is k; ahead: of the one with class k. -/
theorem formOf_two (c a k b : Int) : let f := formOf c a k; let g := formOf k c b
    ((k = 1 ∨ k = 2) → c ≠ 3 → ((f = 1 ∨ f = 2) ↔ (g = 3 ∨ g = 2))) ∧ ((k = 1 ∨ k = 2) → c = 3 → (g = 3 ∨ g = 2)) ∧ ((f = 1 ∨ f = 2) → ¬ (k = 1 ∨ k = 2) → k = 3) := by
  intro f g
  simp only [f, g]
  unfold formOf
  refine ⟨?_, ?_, ?_⟩
  · intro h1 h2; repeat' split
    all_goals omega
  · intro h1 h2; repeat' split
    all_goals omega
  · intro h1 h2; revert h1; repeat' split
    all_goals omega

end Go.Proofs.Ytliihpdhoimmoaa.Tb
