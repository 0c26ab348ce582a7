/-
  Runes as bytes: the model's encoder in plain words.
-/
import Derived.Test.YthkcphnkllnfcaaDoorUr
import Derived.Laws.Cover4
set_option linter.unusedVariables false
set_option linter.unusedSimpArgs false
namespace Go.Proofs.YthkcphnkllnfcaaDoor.Ut
open Go Vc

/-- The number that is laid for a number. -/
def encC (r : Int) : Nat := if 0 ≤ r ∧ r < 55296 ∨ 57344 ≤ r ∧ r ≤ 1114111 then r.toNat else 65533
def encN (c : Nat) : List Nat :=
  if c < 128 then [c] else if c < 2048 then [192 + c / 64, 128 + c % 64] else if c < 65536 then [224 + c / 4096, 128 + c / 64 % 64, 128 + c % 64]
  else [240 + c / 262144, 128 + c / 4096 % 64, 128 + c / 64 % 64, 128 + c % 64]
def encL (r : Int) : List Int := (encN (encC r)).map fun b : Nat => (b : Int)
theorem encC_le (r : Int) : encC r ≤ 1114111 := by unfold encC; split <;> omega
theorem encN_lt {c : Nat} (h : c ≤ 1114111) : ∀ b ∈ encN c, b < 256 := by
  unfold encN
  intro b hb
  repeat' split at hb
  all_goals simp only [List.mem_cons, List.not_mem_nil, or_false] at hb
  all_goals omega
theorem encN_len (c : Nat) : 1 ≤ (encN c).length ∧ (encN c).length ≤ 4 := by
  unfold encN
  repeat' split
  all_goals simp
theorem encL_len (r : Int) : 1 ≤ (encL r).length ∧ (encL r).length ≤ 4 := by unfold encL; rw [List.length_map]; exact encN_len _
theorem encode_eq (r : Int) : (Utf8.encode r).data.toList = (encN (encC r)).map UInt8.ofNat := by
  have hv : Utf8.valid r = decide (0 ≤ r ∧ r < 55296 ∨ 57344 ≤ r ∧ r ≤ 1114111) := by
    unfold Utf8.valid
    by_cases h : 0 ≤ r ∧ r < 55296 ∨ 57344 ≤ r ∧ r ≤ 1114111
    · rw [decide_eq_true h]; simp only [Bool.or_eq_true, Bool.and_eq_true, decide_eq_true_eq]; exact h
    · rw [decide_eq_false h]
      by_cases hh : (decide (0 ≤ r) && decide (r < 55296) || decide (57344 ≤ r) && decide (r ≤ 1114111)) = true
      · simp only [Bool.or_eq_true, Bool.and_eq_true, decide_eq_true_eq] at hh; exact absurd hh h
      · simpa using hh
  have hc : (if Utf8.valid r then r.toNat else Utf8.runeError) = encC r := by
    unfold encC; rw [hv]; simp only [decide_eq_true_eq]; rfl
  unfold Utf8.encode
  simp only [hc]
  unfold encN
  repeat' split
  all_goals rfl

/-- The bytes of numbers, as numbers. -/
theorem runesBytes_app (xs ys : List Int) : runesBytes (xs ++ ys) = runesBytes xs ++ runesBytes ys := by
  have key : ∀ (l : List Int) (s : ByteArray), l.foldl (fun r n => r ++ Utf8.encode n) s = s ++ l.foldl (fun r n => r ++ Utf8.encode n) ByteArray.empty := by
    intro l
    induction l with
    | nil => intro s; simp
    | cons x l ih => intro s; rw [List.foldl_cons, ih, List.foldl_cons, ih (ByteArray.empty ++ Utf8.encode x), ByteArray.empty_append, ByteArray.append_assoc]
  unfold runesBytes
  rw [List.foldl_append, key]
theorem runesBytes_cons (x : Int) (xs : List Int) : runesBytes (x :: xs) = Utf8.encode x ++ runesBytes xs := by
  have := runesBytes_app [x] xs
  rw [List.singleton_append] at this
  rw [this]; unfold runesBytes; simp
theorem runesBytes_list (xs : List Int) : (runesBytes xs).data.toList = (xs.flatMap fun r => encN (encC r)).map UInt8.ofNat := by
  induction xs with
  | nil => rfl
  | cons x xs ih =>
    rw [runesBytes_cons, ByteArray.data_append, Array.toList_append, ih, encode_eq, List.flatMap_cons, List.map_append]
theorem flat_encL (xs : List Int) : xs.flatMap encL = (xs.flatMap fun r => encN (encC r)).map fun b : Nat => (b : Int) := by
  induction xs with
  | nil => rfl
  | cons x xs ih => rw [List.flatMap_cons, List.flatMap_cons, List.map_append, ih]; rfl
theorem flat_encN_lt (xs : List Int) : ∀ b ∈ xs.flatMap fun r => encN (encC r), b < 256 := by
  intro b hb
  obtain ⟨x, _, hx⟩ := List.mem_flatMap.1 hb
  exact encN_lt (encC_le x) b hx
theorem runesBytes_size (xs : List Int) : (runesBytes xs).size = (xs.flatMap encL).length := by
  rw [← size_list, runesBytes_list, flat_encL, List.length_map, List.length_map]
theorem runesBytes_bt (xs : List Int) (j : Nat) (h : j < (xs.flatMap encL).length) : ((runesBytes xs).data.toList.getD j 0).toNat = ((xs.flatMap encL).getD j 0).toNat := by
  have hl := flat_encN_lt xs
  rw [runesBytes_list]
  rw [flat_encL, List.length_map] at h
  rw [flat_encL]
  simp only [List.getD_eq_getElem?_getD, List.getElem?_map, List.getElem?_eq_getElem h, Option.map_some, Option.getD_some]
  have := hl _ (List.getElem_mem h)
  rw [UInt8.toNat_ofNat']; omega
theorem flat_encL_len (xs : List Int) : (xs.flatMap encL).length ≤ 4 * xs.length := by
  induction xs with
  | nil => simp
  | cons x xs ih => have := encL_len x; rw [List.flatMap_cons, List.length_append, List.length_cons]; omega
theorem flat_encL_nonneg (xs : List Int) : ∀ b ∈ xs.flatMap encL, 0 ≤ b ∧ b < 256 := by
  intro b hb
  rw [flat_encL] at hb
  obtain ⟨n, hn, rfl⟩ := List.mem_map.1 hb
  have := flat_encN_lt xs n hn
  omega

end Go.Proofs.YthkcphnkllnfcaaDoor.Ut
