/-
  Chapter 3: what a character is: the program's words and the document's say the same.
-/
import Derived.Test.YtniiamobbgnjaaaDoorVgP
import Derived.Test.YtniiamobbgnjaaaDoorWkK
set_option linter.unusedVariables false
set_option linter.unusedSimpArgs false
namespace Go.Proofs.YtniiamobbgnjaaaDoor
open Go Go.RowKit Vc Tb Cl

theorem regional_ok : (sRB regB).Ok Tryd.prog 38 := by
  refine regional_vc trivial ?_
  intro r w _
  exact ⟨_, rfl, rfl, Ext.refl _⟩
theorem rregional_ok : (sRB regB).Ok Tryd.prog 56 := by
  refine rregional_vc trivial ?_
  intro r w _
  exact ⟨_, rfl, rfl, Ext.refl _⟩
theorem joiner_ok : (sRB joinB).Ok Tryd.prog 37 := by
  refine joiner_vc trivial ?_
  intro r w _
  exact ⟨_, rfl, rfl, Ext.refl _⟩
theorem rjoiner_ok : (sRB joinB).Ok Tryd.prog 55 := by
  refine rjoiner_vc trivial ?_
  intro r w _
  exact ⟨_, rfl, rfl, Ext.refl _⟩
theorem picture_ok : (sRB picB).Ok Tryd.prog 39 := by
  refine picture_vc ⟨ckind_ok, cwide_ok, trivial⟩ ?_
  intro r w _
  refine ⟨r, rfl, trivial, ?_⟩
  rintro _ w1 ⟨rfl, e1⟩
  refine bcase_mk (fun h => ?_) (fun h => ?_)
  · refine ⟨(r, false), rfl, trivial, ?_⟩
    rintro _ w2 ⟨rfl, e2⟩
    refine ⟨_, rfl, ?_, e1.trans e2⟩
    unfold picB; rw [h]; rfl
  · refine ⟨_, rfl, ?_, e1⟩
    unfold picB; rw [h]; rfl
theorem rpicture_ok : (sRB picB).Ok Tryd.prog 57 := by
  refine rpicture_vc ⟨rkind_ok, rwide_ok, trivial⟩ ?_
  intro r w _
  refine ⟨r, rfl, trivial, ?_⟩
  rintro _ _ ⟨rfl, rfl⟩
  refine bcase_mk (fun h => ?_) (fun h => ?_)
  · refine ⟨(r, false), rfl, trivial, ?_⟩
    rintro _ _ ⟨rfl, rfl⟩
    refine ⟨_, rfl, ?_, Ext.refl _⟩
    unfold picB; rw [h]; rfl
  · refine ⟨_, rfl, ?_, Ext.refl _⟩
    unfold picB; rw [h]; rfl
theorem alone_ok : (sRB aloneB).Ok Tryd.prog 35 := by
  refine alone_vc ⟨ckind_ok, joiner_ok, trivial⟩ ?_
  intro r w _
  refine ⟨r, rfl, trivial, ?_⟩
  rintro _ w1 ⟨rfl, e1⟩
  refine bcase_mk (fun h => ⟨_, rfl, ?_, e1⟩) (fun h => bcase_mk (fun h1 => ?_) (fun h1 => ⟨_, rfl, ?_, e1⟩))
  · unfold aloneB; rw [h]; rfl
  · refine ⟨r, rfl, trivial, ?_⟩
    rintro _ w2 ⟨rfl, e2⟩
    refine ⟨_, rfl, ?_, e1.trans e2⟩
    have hr : (r == 8232 || r == 8233) = false := by
      rw [Bool.or_eq_false_iff, beq_eq_false_iff_ne, beq_eq_false_iff_ne]
      have hk : kindR r = 1 := by simpa using h1
      refine ⟨?_, ?_⟩
      · rintro rfl; revert hk; decide +kernel
      · rintro rfl; revert hk; decide +kernel
    unfold aloneB; rw [h, h1, hr]; simp
  · unfold aloneB; rw [h, h1]; simp
theorem ralone_ok : (sRB aloneB).Ok Tryd.prog 45 := by
  refine ralone_vc ⟨rkind_ok, rjoiner_ok, trivial⟩ ?_
  intro r w _
  refine ⟨r, rfl, trivial, ?_⟩
  rintro _ _ ⟨rfl, rfl⟩
  refine bcase_mk (fun h => ⟨_, rfl, ?_, Ext.refl _⟩) (fun h => bcase_mk (fun h1 => ⟨_, rfl, ?_, Ext.refl _⟩) (fun h1 => bcase_mk (fun h2 => ⟨_, rfl, ?_, Ext.refl _⟩) (fun h2 => bcase_mk (fun h3 => ?_) (fun h3 => ⟨_, rfl, ?_, Ext.refl _⟩))))
  · unfold aloneB; rw [h]; rfl
  · unfold aloneB; rw [h, h1]; rfl
  · unfold aloneB; rw [h, h1, h2]; rfl
  · refine ⟨r, rfl, trivial, ?_⟩
    rintro _ w2 ⟨rfl, e2⟩
    refine ⟨_, rfl, ?_, e2⟩
    unfold aloneB; rw [h, h1, h2, h3]; simp
  · unfold aloneB; rw [h, h1, h2, h3]; rfl
theorem part_ok : (sRN partP).Ok Tryd.prog 50 := by
  refine part_vc trivial ?_
  intro r w _
  have hP : ∀ {k : Nat} {v : Int} {n : Nat}, partN r = k → bitN k = n → v = (n : Int) → ∃ x : Nat, Value.int .i64 v = .int .i64 (x : Int) ∧ x = partP r ∧ Ext w w := by
    intro k v n h1 h2 h3
    exact ⟨n, by rw [h3], by unfold partP; rw [h1, h2], Ext.refl _⟩
  refine bcase_mk (fun h => ?_) (fun h => ?_)
  · have h : r < 4352 ∨ 55203 < r := by simpa using h
    refine hP (k := 0) ?_ rfl rfl
    unfold partN
    rw [if_neg (by omega), if_neg (by omega), if_neg (by omega), if_neg (by omega)]
  have h : ¬ r < 4352 ∧ ¬ 55203 < r := by simpa using h
  refine bcase_mk (fun h1 => ?_) (fun h1 => ?_)
  · have h1 := of_decide_eq_true h1
    refine hP (k := 1) ?_ rfl rfl
    unfold partN; rw [if_pos (by omega)]
  have h1 := of_decide_eq_false h1
  refine bcase_mk (fun h2 => ?_) (fun h2 => ?_)
  · have h2 := of_decide_eq_true h2
    refine hP (k := 2) ?_ rfl rfl
    unfold partN; rw [if_neg (by omega), if_pos (by omega)]
  have h2 := of_decide_eq_false h2
  refine bcase_mk (fun h3 => ?_) (fun h3 => ?_)
  · have h3 := of_decide_eq_true h3
    refine hP (k := 3) ?_ rfl rfl
    unfold partN; rw [if_neg (by omega), if_neg (by omega), if_pos (by omega)]
  have h3 := of_decide_eq_false h3
  refine bcase_mk (fun h4 => ?_) (fun h4 => ?_)
  · have h4 := of_decide_eq_true h4
    refine hP (k := 0) ?_ rfl rfl
    unfold partN; rw [if_neg (by omega), if_neg (by omega), if_neg (by omega), if_neg (by omega)]
  have h4 := of_decide_eq_false h4
  refine ⟨inr_i32 (by omega) (by omega), by omega, by omega, bcase_mk (fun h5 => ?_) (fun h5 => ?_)⟩
  · have h5 : (r - 44032) % 28 = 0 := by simpa using h5
    refine hP (k := 4) ?_ rfl rfl
    unfold partN; rw [if_neg (by omega), if_neg (by omega), if_neg (by omega), if_pos (by omega), if_pos h5]
  · have h5 : ¬ (r - 44032) % 28 = 0 := by simpa using h5
    refine hP (k := 5) ?_ rfl rfl
    unfold partN; rw [if_neg (by omega), if_neg (by omega), if_neg (by omega), if_pos (by omega), if_neg h5]
theorem rpart_ok : (sRN partN).Ok Tryd.prog 65 := by
  refine rpart_vc trivial ?_
  intro r w _
  have hP : ∀ {n : Nat} {v : Int}, partN r = n → v = (n : Int) → ∃ x : Nat, Value.int .i64 v = .int .i64 (x : Int) ∧ x = partN r ∧ Ext w w := by
    intro n v h1 h3
    exact ⟨n, by rw [h3], h1.symm, Ext.refl _⟩
  refine bcase_mk (fun h => ?_) (fun h => ?_)
  · simp only [Bool.and_eq_true, decide_eq_true_eq] at h
    refine hP (n := 1) ?_ rfl
    unfold partN; rw [if_pos (by omega)]
  simp only [Bool.and_eq_false_iff, decide_eq_false_iff_not] at h
  refine bcase_mk (fun h1 => ?_) (fun h1 => ?_)
  · simp only [Bool.and_eq_true, decide_eq_true_eq] at h1
    refine hP (n := 2) ?_ rfl
    unfold partN; rw [if_neg (by omega), if_pos (by omega)]
  simp only [Bool.and_eq_false_iff, decide_eq_false_iff_not] at h1
  refine bcase_mk (fun h2 => ?_) (fun h2 => ?_)
  · simp only [Bool.and_eq_true, decide_eq_true_eq] at h2
    refine hP (n := 3) ?_ rfl
    unfold partN; rw [if_neg (by omega), if_neg (by omega), if_pos (by omega)]
  simp only [Bool.and_eq_false_iff, decide_eq_false_iff_not] at h2
  have none : ¬ (44032 ≤ r ∧ r ≤ 55203) → partN r = 0 := fun h4 => by
    unfold partN; rw [if_neg (by omega), if_neg (by omega), if_neg (by omega), if_neg h4]
  have last : ∀ (A : ¬ (44032 ≤ r ∧ r ≤ 55203)), bcase (decide (r ≥ 44032) && decide (r ≤ 55203)) (∃ x : Nat, Value.int .i64 5 = .int .i64 (x : Int) ∧ x = partN r ∧ Ext w w) (∃ x : Nat, Value.int .i64 0 = .int .i64 (x : Int) ∧ x = partN r ∧ Ext w w) := fun A =>
    bcase_mk (fun h => by simp only [Bool.and_eq_true, decide_eq_true_eq] at h; omega) (fun _ => hP (none A) rfl)
  refine bcase_mk (fun h3 => ?_) (fun h3 => last (by have := of_decide_eq_false h3; omega))
  refine bcase_mk (fun h4 => ?_) (fun h4 => last (by have := of_decide_eq_false h4; omega))
  have h3 := of_decide_eq_true h3
  have h4 := of_decide_eq_true h4
  refine ⟨inr_i32 (by omega) (by omega), by omega, by omega, bcase_mk (fun h5 => ?_) (fun h5 => ?_)⟩
  · have h5 : (r - 44032) % 28 = 0 := by simpa using h5
    refine hP (n := 4) ?_ rfl
    unfold partN; rw [if_neg (by omega), if_neg (by omega), if_neg (by omega), if_pos (by omega), if_pos h5]
  · have h5 : ¬ (r - 44032) % 28 = 0 := by simpa using h5
    refine bcase_mk (fun _ => hP (n := 5) ?_ rfl) (fun h => by simp only [Bool.and_eq_false_iff, decide_eq_false_iff_not] at h; omega)
    unfold partN; rw [if_neg (by omega), if_neg (by omega), if_neg (by omega), if_pos (by omega), if_neg h5]

theorem part_lt (r : Int) : partN r < 6 := by
  unfold partN
  repeat' split
  all_goals omega
theorem goes_all : ∀ a : Fin 6, ∀ b : Fin 6, (bitN a.val = 1 → (IntKind.i64.wrap ((BitVec.ofInt IntKind.i64.bits 27 &&& BitVec.ofInt IntKind.i64.bits ((bitN b.val : Nat) : Int)).toNat : Int) != 0) = sylT a.val b.val) ∧
    ((bitN a.val = 2 ∨ bitN a.val = 8) → (IntKind.i64.wrap ((BitVec.ofInt IntKind.i64.bits 6 &&& BitVec.ofInt IntKind.i64.bits ((bitN b.val : Nat) : Int)).toNat : Int) != 0) = sylT a.val b.val) ∧
    ((bitN a.val = 4 ∨ bitN a.val = 16) → (IntKind.i64.wrap ((BitVec.ofInt IntKind.i64.bits 4 &&& BitVec.ofInt IntKind.i64.bits ((bitN b.val : Nat) : Int)).toNat : Int) != 0) = sylT a.val b.val) ∧
    (bitN a.val ≠ 1 → bitN a.val ≠ 2 → bitN a.val ≠ 8 → bitN a.val ≠ 4 → bitN a.val ≠ 16 → false = sylT a.val b.val) := by decide +kernel
theorem goesP_ok : (sTwoB sylB).Ok Tryd.prog 40 := by
  refine goesP_vc ⟨part_ok, trivial⟩ ?_
  rintro ⟨a, b⟩ w _
  dsimp only
  obtain ⟨g1, g2, g3, g4⟩ := goes_all ⟨partN a, part_lt a⟩ ⟨partN b, part_lt b⟩
  dsimp only at g1 g2 g3 g4
  refine ⟨a, rfl, trivial, ?_⟩
  rintro _ w1 ⟨rfl, e1⟩
  refine bcase_mk (fun h => ?_) (fun h => ?_)
  · refine ⟨b, rfl, trivial, ?_⟩
    rintro _ w2 ⟨rfl, e2⟩
    exact ⟨_, rfl, g1 (by simp only [beq_iff_eq] at h; unfold partP at h; omega), e1.trans e2⟩
  refine bcase_mk (fun h1 => ?_) (fun h1 => ?_)
  · refine ⟨b, rfl, trivial, ?_⟩
    rintro _ w2 ⟨rfl, e2⟩
    exact ⟨_, rfl, g2 (by simp only [Bool.or_eq_true, beq_iff_eq] at h1; unfold partP at h1; omega), e1.trans e2⟩
  refine bcase_mk (fun h2 => ?_) (fun h2 => ?_)
  · refine ⟨b, rfl, trivial, ?_⟩
    rintro _ w2 ⟨rfl, e2⟩
    exact ⟨_, rfl, g3 (by simp only [Bool.or_eq_true, beq_iff_eq] at h2; unfold partP at h2; omega), e1.trans e2⟩
  · refine ⟨b, rfl, trivial, ?_⟩
    rintro _ w2 ⟨rfl, e2⟩
    simp only [Bool.or_eq_false_iff, beq_eq_false_iff_ne, ne_eq] at h h1 h2
    unfold partP at h h1 h2
    exact ⟨_, rfl, g4 (by omega) (by omega) (by omega) (by omega) (by omega), e1.trans e2⟩
theorem syl_all : ∀ a : Fin 6, ∀ b : Fin 6, (a.val = 1 → (((b.val : Nat) : Int) == 1 || (((b.val : Nat) : Int) == 2 || (((b.val : Nat) : Int) == 4 || ((b.val : Nat) : Int) == 5))) = sylT a.val b.val) ∧ ((a.val = 2 ∨ a.val = 4) → (((b.val : Nat) : Int) == 2 || ((b.val : Nat) : Int) == 3) = sylT a.val b.val) ∧
    ((a.val = 3 ∨ a.val = 5) → (((b.val : Nat) : Int) == 3) = sylT a.val b.val) ∧ (a.val = 0 → false = sylT a.val b.val) := by decide +kernel
theorem syl_ok : (sTwoB sylB).Ok Tryd.prog 58 := by
  refine syl_vc ⟨rpart_ok, trivial⟩ ?_
  rintro ⟨a, b⟩ w _
  dsimp only
  obtain ⟨g1, g2, g3, g4⟩ := syl_all ⟨partN a, part_lt a⟩ ⟨partN b, part_lt b⟩
  have hlt := part_lt a
  dsimp only at g1 g2 g3 g4
  refine ⟨a, rfl, trivial, ?_⟩
  rintro _ w1 ⟨rfl, e1⟩
  refine ⟨b, rfl, trivial, ?_⟩
  rintro _ w2 ⟨rfl, e2⟩
  have E := e1.trans e2
  refine bcase_mk (fun h => ⟨_, rfl, g1 (by simp only [beq_iff_eq] at h; omega), E⟩) (fun h => ?_)
  refine bcase_mk (fun h1 => ⟨_, rfl, g2 (by simp only [Bool.or_eq_true, beq_iff_eq] at h1; omega), E⟩) (fun h1 => ?_)
  refine bcase_mk (fun h2 => ⟨_, rfl, g3 (by simp only [Bool.or_eq_true, beq_iff_eq] at h2; omega), E⟩) (fun h2 => ?_)
  simp only [Bool.or_eq_false_iff, beq_eq_false_iff_ne, ne_eq] at h h1 h2
  exact ⟨_, rfl, g4 (by omega), E⟩

theorem takes_ok : sTakes.Ok Tryd.prog 46 := by
  refine takes_vc ⟨rkind_ok, rjoiner_ok, rregional_ok, rpicture_ok, syl_ok, trivial⟩ ?_
  rintro ⟨x, z, y, n⟩ w _
  dsimp only
  have hn : ((n : Int) == 1) = (n == 1) := by
    rw [Bool.eq_iff_iff, beq_iff_eq, beq_iff_eq]; omega
  rw [hn]
  clear hn
  refine ⟨y, rfl, trivial, ?_⟩
  rintro _ w1 ⟨rfl, hw⟩
  have E : Ext w w1 := by rw [hw]; exact Ext.refl w
  clear hw
  repeat' first
    | refine ⟨_, rfl, ?_, E⟩
    | refine bcase_mk (fun h => ?_) (fun h => ?_)
    | (refine ⟨_, rfl, trivial, ?_⟩; rintro _ _ ⟨rfl, e⟩; replace E := E.trans e)
    | (refine ⟨(_, _), rfl, trivial, ?_⟩; rintro _ _ ⟨rfl, e⟩; replace E := E.trans e)
  all_goals (clear E; simp_all only [takesB, Bool.true_or, Bool.or_true, Bool.false_or, Bool.and_true, Bool.and_false, Bool.false_and, Bool.true_and, Bool.or_false])

end Go.Proofs.YtniiamobbgnjaaaDoor
