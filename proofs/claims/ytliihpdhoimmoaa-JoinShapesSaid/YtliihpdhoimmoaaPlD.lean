/-
  Chapter 11 in plain words: shapes, and what they are of.
-/
import Derived.Test.YtliihpdhoimmoaaPlC
set_option linter.unusedVariables false
set_option linter.unusedSimpArgs false
namespace Go.Proofs.Ytliihpdhoimmoaa.Tb

/-- The letters of the table, their first shapes, how they join. -/
def letterK : List (Int × Int × Int) := [(1569, 65152, 0), (1570, 65153, 1), (1571, 65155, 1), (1572, 65157, 1), (1573, 65159, 1), (1574, 65161, 2), (1575, 65165, 1), (1576, 65167, 2), (1577, 65171, 1), (1578, 65173, 2), (1579, 65177, 2), (1580, 65181, 2), (1581, 65185, 2), (1582, 65189, 2), (1583, 65193, 1), (1584, 65195, 1), (1585, 65197, 1), (1586, 65199, 1), (1587, 65201, 2), (1588, 65205, 2), (1589, 65209, 2), (1590, 65213, 2), (1591, 65217, 2), (1592, 65221, 2), (1593, 65225, 2), (1594, 65229, 2), (1601, 65233, 2), (1602, 65237, 2), (1603, 65241, 2), (1604, 65245, 2), (1605, 65249, 2), (1606, 65253, 2), (1607, 65257, 2), (1608, 65261, 1), (1609, 65263, 1), (1610, 65265, 2)]

def lookK : List (Int × Int × Int) → Int → Option Int
  | [], _ => none
  | (x, f, _) :: l, r => if x = r then some f else lookK l r
def shapeK (f k form : Int) : Int :=
  if k = 2 ∧ form = 1 then f + 2 else if k = 2 ∧ form = 2 then f + 3 else if ((k = 2 ∨ k = 1) ∧ form = 3) ∨ (k = 1 ∧ form = 2) then f + 1 else f
def shapeOf (r form : Int) : Int := match lookK letterK r with
  | none => r
  | some f => shapeK f (joinR r) form
def firstA (r : Int) : Int := (lookK letterK r).getD 0
def shapedR (xs : List Int) : List Int := List.zipWith shapeOf xs (formsR xs)

def hasK (t : Int × Int × Int) (r : Int) : Bool := shapeK t.2.1 t.2.2 0 == r || (shapeK t.2.1 t.2.2 1 == r || (shapeK t.2.1 t.2.2 2 == r || shapeK t.2.1 t.2.2 3 == r))
def findK : List (Int × Int × Int) → Int → Option Int
  | [], _ => none
  | t :: l, r => match hasK t r with | true => some t.1 | false => findK l r
def withL : List Int := [1570, 1571, 1573, 1575]
def plainR (r : Int) : List Int :=
  if 65269 ≤ r ∧ r ≤ 65276 then [1604, withL.getD ((r - 65269) / 2).toNat 0] else match findK letterK r with | some x => [x] | none => [r]
/-- The program's way: the last letter whose first shape is no greater. -/
def letA (r : Int) : Nat → Int
  | 0 => 1569
  | n + 1 => if firstA (1569 + n) ≠ 0 ∧ firstA (1569 + n) ≤ r then 1569 + n else letA r n

theorem letterK_join : letterK.all (fun t => joinR t.1 == t.2.2) = true := by decide +kernel
theorem letterK_bd : letterK.all (fun t => decide (1569 ≤ t.1 ∧ t.1 ≤ 1610 ∧ 65152 ≤ t.2.1 ∧ t.2.1 + 3 ≤ 65268 ∧ (t.2.2 = 2 ∨ t.2.1 + (if t.2.2 = 1 then 1 else 0) ≤ 65264))) = true := by decide +kernel
theorem letterK_look : letterK.all (fun t => lookK letterK t.1 == some t.2.1) = true := by decide +kernel
theorem letterK_find : letterK.all (fun t => hasK t (shapeK t.2.1 t.2.2 0) && (List.range 4).all (fun n => findK letterK (shapeK t.2.1 t.2.2 n) == some t.1)) = true := by decide +kernel

theorem lookK_mem {l : List (Int × Int × Int)} {r f : Int} (h : lookK l r = some f) : ∃ k, (r, f, k) ∈ l := by
  induction l with
  | nil => simp [lookK] at h
  | cons t l ih =>
    obtain ⟨x, g, k⟩ := t
    simp only [lookK] at h
    split at h
    · rename_i e; subst e; cases h; exact ⟨k, by simp⟩
    · obtain ⟨k', hk⟩ := ih h; exact ⟨k', by simp [hk]⟩

theorem look_letter {r f : Int} (h : lookK letterK r = some f) : (r, f, joinR r) ∈ letterK ∧ 1569 ≤ r ∧ r ≤ 1610 ∧ 65152 ≤ f ∧ f + 3 ≤ 65268 := by
  obtain ⟨k, hk⟩ := lookK_mem h
  have h1 := List.all_eq_true.1 letterK_join _ hk
  have h2 := List.all_eq_true.1 letterK_bd _ hk
  simp only [beq_iff_eq, decide_eq_true_eq] at h1 h2
  rw [h1]
  exact ⟨hk, h2.1, h2.2.1, h2.2.2.1, h2.2.2.2.1⟩

theorem findK_mem {l : List (Int × Int × Int)} {r x : Int} (h : findK l r = some x) : ∃ t ∈ l, t.1 = x ∧ hasK t r = true := by
  induction l with
  | nil => simp [findK] at h
  | cons t l ih =>
    simp only [findK] at h
    split at h
    · rename_i e; cases h; exact ⟨t, by simp, rfl, e⟩
    · obtain ⟨u, h1, h2⟩ := ih h; exact ⟨u, by simp [h1], h2⟩

theorem shapeK_bd (f k form : Int) : f ≤ shapeK f k form ∧ shapeK f k form ≤ f + 3 := by
  unfold shapeK; repeat' split
  all_goals omega

theorem hasK_bd {t : Int × Int × Int} (ht : t ∈ letterK) {r : Int} (h : hasK t r = true) : 65152 ≤ r ∧ r ≤ 65268 := by
  have h2 := List.all_eq_true.1 letterK_bd _ ht
  simp only [decide_eq_true_eq] at h2
  have b := fun n => shapeK_bd t.2.1 t.2.2 n
  have b0 := b 0; have b1 := b 1; have b2 := b 2; have b3 := b 3
  simp only [hasK, Bool.or_eq_true, beq_iff_eq] at h
  omega

theorem findK_bd {r x : Int} (h : findK letterK r = some x) : 65152 ≤ r ∧ r ≤ 65268 := by
  obtain ⟨t, h1, _, h2⟩ := findK_mem h
  exact hasK_bd h1 h2

/-- A shape is its letter's. -/
theorem plain_shape (r form : Int) : plainR (shapeOf r form) = plainR r := by
  unfold shapeOf
  cases hl : lookK letterK r with
  | none => rfl
  | some f =>
    obtain ⟨hm, h1, h2, h3, h4⟩ := look_letter hl
    have hb := shapeK_bd f (joinR r) form
    have e1 : plainR r = [r] := by
      unfold plainR
      rw [if_neg (by omega)]
      cases hf : findK letterK r with
      | none => rfl
      | some x => have := findK_bd hf; omega
    have hfind : findK letterK (shapeK f (joinR r) form) = some r := by
      have h5 := List.all_eq_true.1 letterK_find _ hm
      simp only [Bool.and_eq_true, List.all_eq_true, List.mem_range, beq_iff_eq] at h5
      obtain ⟨n, hn, he⟩ : ∃ n : Nat, n < 4 ∧ shapeK f (joinR r) form = shapeK f (joinR r) (n : Int) := by
        by_cases hf : form = 1
        · exact ⟨1, by omega, by rw [hf]; rfl⟩
        by_cases hf2 : form = 2
        · exact ⟨2, by omega, by rw [hf2]; rfl⟩
        by_cases hf3 : form = 3
        · exact ⟨3, by omega, by rw [hf3]; rfl⟩
        · refine ⟨0, by omega, ?_⟩
          unfold shapeK
          rw [if_neg (by omega), if_neg (by omega), if_neg (by omega)]
          simp
      rw [he]
      exact h5.2 n hn
    rw [e1]
    dsimp only
    unfold plainR
    rw [if_neg (by omega), hfind]

theorem plain_letter {x : Int} (h : x < 65152 ∨ 65276 < x) : plainR x = [x] := by
  unfold plainR
  rw [if_neg (by omega)]
  cases hf : findK letterK x with
  | none => rfl
  | some y => have := findK_bd hf; omega

/-- What is plain stays. -/
theorem plain_plain (r : Int) : ∀ x ∈ plainR r, plainR x = [x] := by
  intro x hx
  unfold plainR at hx
  split at hx
  · simp only [List.mem_cons, List.not_mem_nil, or_false] at hx
    rcases hx with rfl | rfl
    · exact plain_letter (by omega)
    · refine plain_letter (.inl ?_)
      have : ∀ n, withL.getD n 0 ≤ 1575 := by
        intro n
        match n with
        | 0 => decide
        | 1 => decide
        | 2 => decide
        | 3 => decide
        | n + 4 => simp [withL]
      have := this ((r - 65269) / 2).toNat
      omega
  · rename_i hr
    split at hx
    · rename_i y hy
      obtain ⟨t, h1, h2, _⟩ := findK_mem hy
      have h3 := List.all_eq_true.1 letterK_bd _ h1
      simp only [decide_eq_true_eq] at h3
      simp only [List.mem_cons, List.not_mem_nil, or_false] at hx
      exact plain_letter (by omega)
    · rename_i hn
      simp only [List.mem_cons, List.not_mem_nil, or_false] at hx
      subst hx
      unfold plainR
      rw [if_neg hr, hn]

theorem flat_plain (xs : List Int) : (xs.flatMap plainR).flatMap plainR = xs.flatMap plainR := by
  induction xs with
  | nil => rfl
  | cons x xs ih =>
    rw [List.flatMap_cons, List.flatMap_append, ih]
    congr 1
    have : ∀ l : List Int, (∀ y ∈ l, plainR y = [y]) → l.flatMap plainR = l := by
      intro l
      induction l with
      | nil => intro _; rfl
      | cons y l ih => intro h; rw [List.flatMap_cons, h y (by simp), ih (fun z hz => h z (by simp [hz]))]; rfl
    exact this _ (plain_plain x)

theorem formsR_len (xs : List Int) : (formsR xs).length = xs.length := by simp [formsR]
theorem shapedR_len (xs : List Int) : (shapedR xs).length = xs.length := by simp [shapedR, formsR_len]

theorem zip_plain : ∀ (xs fs : List Int), fs.length = xs.length → (List.zipWith shapeOf xs fs).flatMap plainR = xs.flatMap plainR
  | [], _, _ => by simp
  | x :: xs, [], h => by simp at h
  | x :: xs, f :: fs, h => by
    rw [List.zipWith_cons_cons, List.flatMap_cons, List.flatMap_cons, plain_shape, zip_plain xs fs (by simpa using h)]
theorem shaped_plain (xs : List Int) : (shapedR xs).flatMap plainR = xs.flatMap plainR := zip_plain xs _ (formsR_len xs)

theorem shape_letter {r form : Int} (h : shapeOf r form ≠ r) : joinR r ≠ 3 ∧ joinR r ≠ 4 := by
  unfold shapeOf at h
  cases hl : lookK letterK r with
  | none => rw [hl] at h; exact absurd rfl h
  | some f =>
    obtain ⟨hm, _⟩ := look_letter hl
    have : letterK.all (fun t => decide (t.2.2 ≤ 2)) = true := by decide +kernel
    have h2 := List.all_eq_true.1 this _ hm
    simp only [decide_eq_true_eq] at h2
    omega

/-- The program's search, over the shapes. -/
theorem letA_plain : (List.range 117).all (fun n => plainR (65152 + n) == [letA (65152 + n) 42]) = true := by decide +kernel
theorem plain_letA {r : Int} (h1 : 65152 ≤ r) (h2 : r ≤ 65268) : plainR r = [letA r 42] := by
  have h3 := List.all_eq_true.1 letA_plain (r - 65152).toNat (by simp; omega)
  have e : (65152 : Int) + ((r - 65152).toNat : Int) = r := by omega
  rw [e] at h3
  simpa using h3
theorem letA_bd (r : Int) (n : Nat) : 1569 ≤ letA r n ∧ letA r n ≤ 1569 + n := by
  induction n with
  | zero => simp [letA]
  | succ n ih => simp only [letA]; split <;> omega

end Go.Proofs.Ytliihpdhoimmoaa.Tb
