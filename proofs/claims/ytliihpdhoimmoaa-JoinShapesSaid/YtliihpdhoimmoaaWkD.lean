/-
  Chapter 11: shapes: the reference's and the program's functions meet their specifications; the law's own helpers.
-/
import Derived.Test.YtliihpdhoimmoaaVgC
import Derived.Test.YtliihpdhoimmoaaWkC
set_option linter.unusedVariables false
set_option linter.unusedSimpArgs false
namespace Go.Proofs.Ytliihpdhoimmoaa
open Go Go.RowKit Vc Tb

theorem jforms_ok : (sList .i32 .i8 27 formsR).Ok Try.prog 12 := by
  have h : formsA = formsR := funext formsA_eq
  rw [← h]; exact forms_ok

theorem elem32 : ElemOk Try.prog 22 21 1 4 := elemOk_mk (.int .i32 0) (by kernel_rfl) (by kernel_rfl) rfl
theorem elem8 : ElemOk Try.prog 23 27 1 1 := elemOk_mk (.int .i8 0) (by kernel_rfl) (by kernel_rfl) rfl

theorem first_ok : (sRuneX .i32 firstA).Ok Try.prog 31 := by
  refine first_vc trivial ?_
  intro r w _ b w1 hn
  have hn' : New w (.cells (((List.range 42).map fun n : Nat => firstA (1569 + (n : Int))).map (Value.int .u16)).toArray 49) b w1 := vcast (by kernel_rfl) hn
  have hout : r < 1569 ∨ 1610 < r → firstA r = 0 := by
    intro h
    unfold firstA
    cases hl : lookK letterK r with
    | none => rfl
    | some f => have := look_letter hl; omega
  refine bcase_mk (fun h => ⟨_, rfl, ?_, hn.ext⟩) (fun h => ?_)
  · simp only [gt_iff_lt, Bool.or_eq_true, decide_eq_true_eq] at h
    exact (hout (by omega)).symm
  · simp only [gt_iff_lt, Bool.or_eq_false_iff, decide_eq_false_iff_not] at h
    obtain ⟨k, hk⟩ : ∃ k : Nat, r = 1569 + k := ⟨(r - 1569).toNat, by omega⟩
    have hk2 : k < 42 := by omega
    refine ⟨inr_i32 (by omega) (by omega), k, by omega, hk2, firstA r, ?_, ?_, _, rfl, rfl, hn.ext⟩
    · rw [Nat.zero_add, hn'.cell, hk]
      simp [hk2]
    · have : firstA r = 0 ∨ (65152 ≤ firstA r ∧ firstA r ≤ 65268) := by
        unfold firstA
        cases hl : lookK letterK r with
        | none => exact .inl rfl
        | some f => have := look_letter hl; right; simp only [Option.getD_some]; omega
      exact inr_i32 (by omega) (by omega)

theorem shape_ok : sShape.Ok Try.prog 23 := by
  refine shape_vc ⟨first_ok, cjoin_ok, trivial⟩ ?_
  rintro ⟨r, form⟩ w _
  refine ⟨r, rfl, trivial, ?_⟩
  rintro x w1 ⟨hx, hw1⟩
  dsimp only
  refine bcase_mk (fun h => ⟨r, rfl, ?_, hw1⟩) (fun h => ⟨r, rfl, trivial, ?_⟩)
  · simp only [beq_iff_eq] at h
    unfold shapeOf
    cases hl : lookK letterK r with
    | none => rfl
    | some f => have := look_letter hl; simp only [firstA, hl, Option.getD_some] at hx; omega
  · simp only [beq_eq_false_iff_ne] at h
    obtain ⟨f, hl⟩ : ∃ f, lookK letterK r = some f := by
      cases hl : lookK letterK r with
      | none => simp only [firstA, hl, Option.getD_none] at hx; exact absurd hx h
      | some f => exact ⟨f, rfl⟩
    obtain ⟨_, _, _, hb1, hb2⟩ := look_letter hl
    obtain rfl : x = f := by simp only [firstA, hl, Option.getD_some] at hx; exact hx
    rintro k w2 ⟨hk, hw2⟩
    have hw := hw1.trans hw2
    have hs : shapeOf r form = shapeK x k form := by unfold shapeOf; rw [hl, hk]
    rw [hs]
    unfold shapeK
    refine bcase_mk (fun h => bcase_mk (fun h' => ?_) (fun h' => bcase_mk (fun h'' => ?_) (fun h'' => bcase_mk (fun h''' => ?_) (fun h''' => ?_)))) (fun h => bcase_mk (fun h' => bcase_mk (fun h'' => ?_) (fun h'' => ?_)) (fun h' => ?_))
    all_goals
      simp only [beq_iff_eq, beq_eq_false_iff_ne, Bool.or_eq_true, Bool.or_eq_false_iff] at *
      first
        | (refine ⟨inr_i32 (by omega) (by omega), _, rfl, ?_, hw⟩; (repeat' split) <;> omega)
        | (refine ⟨_, rfl, ?_, hw⟩; (repeat' split) <;> omega)

theorem letters_ok : sLetters.Ok Try.prog 30 := by
  refine letters_vc trivial ?_
  intro _ w _ b w1 hn
  have hn' : New w (.cells lettersV.toArray 43) b w1 := vcast (by kernel_rfl) hn
  exact ⟨b, rfl, CellsAt.new hn', hn.ext⟩

theorem lettersV_at : ∀ {l : List (Int × Int × Int)} {i : Nat}, i < l.length → (l.flatMap fun t => [Value.int .i32 t.1, Value.int .i32 t.2.1])[i * 2 + 0]? = some (.int .i32 (l.getD i (0, 0, 0)).1) ∧ (l.flatMap fun t => [Value.int .i32 t.1, Value.int .i32 t.2.1])[i * 2 + 1]? = some (.int .i32 (l.getD i (0, 0, 0)).2.1)
  | [], i, h => by simp at h
  | t :: l, 0, h => by simp
  | t :: l, i + 1, h => by
    have := lettersV_at (l := l) (i := i) (by simpa using h)
    rw [show (i + 1) * 2 + 0 = (i * 2 + 0) + 2 from by omega, show (i + 1) * 2 + 1 = (i * 2 + 1) + 2 from by omega]
    simpa using this

theorem letter_cell {w : World} {b i : Nat} (h : CellsAt w (some ⟨b, 0, none⟩) lettersV) (hi : i < 36) :
    w.cell? ⟨b, 0 + i * 2 + 0, none⟩ = some (.int .i32 (letterK.getD i (0, 0, 0)).1) ∧ w.cell? ⟨b, 0 + i * 2 + 1, none⟩ = some (.int .i32 (letterK.getD i (0, 0, 0)).2.1) := by
  rcases h with h | ⟨b', o, h1, h2⟩
  · exact absurd h (by simp [lettersV, letterK])
  · cases h1
    have := lettersV_at (l := letterK) (i := i) hi
    rw [Nat.zero_add]
    have e1 := h2 (i * 2 + 0) _ this.1
    have e2 := h2 (i * 2 + 1) _ this.2
    rw [Nat.zero_add] at e1 e2
    exact ⟨e1, e2⟩

theorem letter_drop {i : Nat} (hi : i < 36) : letterK.drop i = letterK.getD i (0, 0, 0) :: letterK.drop (i + 1) := by
  have hi' : i < letterK.length := hi
  rw [List.getD_eq_getElem?_getD, List.getElem?_eq_getElem hi']
  simp
theorem letter_at {i : Nat} (hi : i < 36) : letterK.getD i (0, 0, 0) ∈ letterK := by
  have hi' : i < letterK.length := hi
  rw [List.getD_eq_getElem?_getD, List.getElem?_eq_getElem hi']
  simp

theorem rshape_ok : sShape.Ok Try.prog 24 := by
  refine rshape_vc ⟨letters_ok, rjoin_ok, trivial⟩ ?_
  rintro ⟨r, form⟩ w _
  refine ⟨(), rfl, trivial, ?_⟩
  rintro b w1 ⟨hc, hw1⟩
  dsimp only
  refine ⟨⟨0, rfl, by omega, rfl, Ext.refl _⟩, ?_⟩
  rintro _ i w2 ⟨hi, hl, hw2⟩
  have hw := hw1.trans hw2
  refine bcase_mk (fun h => ?_) (fun h => ⟨_, rfl, ?_, hw⟩)
  · have hi2 : i < 36 := by simp only [decide_eq_true_eq] at h; omega
    obtain ⟨c1, c2⟩ := letter_cell (hc.ext hw2) hi2
    have hd := letter_drop hi2
    have hm := letter_at hi2
    generalize letterK.getD i (0, 0, 0) = t at c1 c2 hd hm
    obtain ⟨x, f, k⟩ := t
    dsimp only at c1 c2
    rw [hd] at hl
    refine ⟨i, rfl, hi2, 0, rfl, by omega, _, c1, bcase_mk (fun h => ⟨inr_i64 (by omega) (by omega), i + 1, by simp, ⟨hi2, ?_, hw2⟩, by omega⟩) (fun h => ?_)⟩
    · rw [hl]; simp only [lookK]
      rw [if_neg (by simpa using h)]
    · have hx : x = r := by simpa using h
      subst hx
      have hlx : lookK letterK x = some f := by rw [hl]; simp [lookK]
      obtain ⟨_, _, _, hb1, hb2⟩ := look_letter hlx
      refine ⟨i, rfl, hi2, 1, rfl, by omega, _, c2, x, rfl, trivial, ?_⟩
      rintro k1 _ ⟨hk1, rfl⟩
      refine ⟨x, rfl, trivial, ?_⟩
      rintro k2 _ ⟨hk2, rfl⟩
      obtain rfl : k1 = k2 := hk1.trans hk2.symm
      have hs : shapeOf x form = shapeK f k1 form := by unfold shapeOf; rw [hlx, hk1]
      rw [hs]
      unfold shapeK
      have b1 : ∀ (a : Bool) (p q : Bool), (bif a then p else q) = if a then p else q := by intro a p q; cases a <;> rfl
      refine bcase_mk (fun h => ?_) (fun h => bcase_mk (fun h' => ?_) (fun h' => bcase_mk (fun h'' => ?_) (fun h'' => ?_)))
      · simp only [beq_iff_eq, Bool.and_eq_true] at h
        exact ⟨inr_i32 (by omega) (by omega), _, rfl, by rw [if_pos h], hw⟩
      · simp only [beq_iff_eq, Bool.and_eq_true] at h'
        simp only [Bool.and_eq_false_iff, beq_eq_false_iff_ne] at h
        exact ⟨inr_i32 (by omega) (by omega), _, rfl, by rw [if_neg (by omega), if_pos h'], hw⟩
      · simp only [b1] at h''
        simp only [Bool.and_eq_false_iff, beq_eq_false_iff_ne] at h h'
        refine ⟨inr_i32 (by omega) (by omega), _, rfl, ?_, hw⟩
        rw [if_neg (by omega), if_neg (by omega), if_pos]
        (repeat' split at h'') <;> simp only [beq_iff_eq, Bool.and_eq_true, Bool.or_eq_true] at * <;> omega
      · simp only [b1] at h''
        simp only [Bool.and_eq_false_iff, beq_eq_false_iff_ne] at h h'
        refine ⟨_, rfl, ?_, hw⟩
        rw [if_neg (by omega), if_neg (by omega), if_neg]
        (repeat' split at h'') <;> simp only [beq_iff_eq, Bool.and_eq_true, Bool.or_eq_true, Bool.and_eq_false_iff, Bool.or_eq_false_iff, beq_eq_false_iff_ne] at * <;> omega
  · have hi2 : i = 36 := by simp only [decide_eq_false_iff_not] at h; omega
    subst hi2
    unfold shapeOf
    rw [hl]
    rfl

theorem withL_bd (n : Nat) : 0 ≤ withL.getD n 0 ∧ withL.getD n 0 ≤ 1575 := by
  match n with
  | 0 => decide
  | 1 => decide
  | 2 => decide
  | 3 => decide
  | n + 4 => simp [withL]

/-- Two runes, of which the second one is looked up. -/
theorem with_made {w w1 w2 : World} {r : Int} {e : TypeId} {b b1 : Nat} (h1 : 65269 ≤ r) (h2 : r ≤ 65276) (hn : New w (.cells #[.int .i32 1570, .int .i32 1571, .int .i32 1573, .int .i32 1575] e) b w1) :
    InR .i32 (r - 65269) ∧ 0 ≤ r - 65269 ∧ (0 : Int) < 2 ∧ InR .i32 ((r - 65269) / 2) ∧ ∃ k : Nat, (r - 65269) / 2 = (k : Int) ∧ k < 4 ∧ ∃ n : Int, w1.cell? { block := b, off := 0 + k } = some (Value.int IntKind.i32 n) ∧
      ∀ (b1 : Nat) (w11 : World), New w1 (Obj.cells #[Value.int IntKind.i32 1604, Value.int IntKind.i32 n] 21) b1 w11 →
        ∃ x : Option Addr × Nat × Nat, Value.slice (some { block := b1, off := 0 }) 2 2 = Value.slice x.fst x.snd.fst x.snd.snd ∧ x.snd.fst = (plainR r).length ∧ Made w w11 21 1 x.fst x.snd.fst ((plainR r).map (Value.int .i32)) x.snd.snd := by
  have hp : plainR r = [1604, withL.getD ((r - 65269) / 2).toNat 0] := by unfold plainR; rw [if_pos ⟨h1, h2⟩]
  obtain ⟨k, hk⟩ : ∃ k : Nat, (r - 65269) / 2 = k := ⟨((r - 65269) / 2).toNat, by omega⟩
  have hk4 : k < 4 := by omega
  refine ⟨inr_i32 (by omega) (by omega), by omega, by omega, inr_i32 (by omega) (by omega), k, hk, hk4, withL.getD k 0, ?_, ?_⟩
  · rw [Nat.zero_add, hn.cell]
    match k, hk4 with
    | 0, _ => rfl
    | 1, _ => rfl
    | 2, _ => rfl
    | 3, _ => rfl
  · intro b1 w11 hn1
    rw [hp, hk]
    exact ⟨(some ⟨b1, 0, none⟩, 2, 2), rfl, rfl, Made.box (n := 2) hn1 hn.ext rfl (by decide)⟩

theorem rplain_ok : sPlain.Ok Try.prog 21 := by
  refine rplain_vc ⟨letters_ok, rshape_ok, trivial⟩ ?_
  intro r w _
  refine bcase_mk (fun h b w1 hn => ?_) (fun h => ⟨(), rfl, trivial, ?_⟩)
  · simp only [ge_iff_le, Bool.and_eq_true, decide_eq_true_eq] at h
    exact with_made (w2 := w) (b1 := 0) h.1 h.2 hn
  have hr : ¬ (65269 ≤ r ∧ r ≤ 65276) := by
    simp only [ge_iff_le, Bool.and_eq_false_iff, decide_eq_false_iff_not] at h
    omega
  rintro b w1 ⟨hc, hw1⟩
  refine ⟨⟨0, rfl, by omega, rfl, Ext.refl _⟩, ?_⟩
  rintro _ i w2 ⟨hi, hf, hw2⟩
  have hw := hw1.trans hw2
  refine bcase_mk (fun h => ?_) (fun h b1 w3 hn => ⟨(some ⟨b1, 0, none⟩, 1, 1), rfl, ?_⟩)
  · have hi2 : i < 36 := by simp only [decide_eq_true_eq] at h; omega
    have hd := letter_drop hi2
    have hm := letter_at hi2
    have hk := fun {w : World} (h : CellsAt w (some ⟨b, 0, none⟩) lettersV) => letter_cell h hi2
    rw [show ((i : Int)).toNat = i from by omega]
    generalize letterK.getD i (0, 0, 0) = t at hk hd hm ⊢
    obtain ⟨x, f, k⟩ := t
    rw [hd] at hf
    dsimp only at hk ⊢
    have hjk : joinR x = k := by simpa using List.all_eq_true.1 letterK_join _ hm
    have hlk : lookK letterK x = some f := by simpa using List.all_eq_true.1 letterK_look _ hm
    have hsx : ∀ form, shapeOf x form = shapeK f k form := fun form => by unfold shapeOf; rw [hlk, hjk]
    refine ⟨⟨0, rfl, by omega, Ext.refl _, fun f hf => by omega⟩, ?_⟩
    rintro _ j w3 ⟨hj, hw3, hno⟩
    refine bcase_mk (fun h => ?_) (fun h => ⟨inr_i64 (by omega) (by omega), i + 1, by simp, ⟨hi2, ?_, hw2.trans hw3⟩, by omega⟩)
    · have hj2 : j < 4 := by simp only [decide_eq_true_eq] at h; omega
      refine ⟨i, rfl, hi2, 0, rfl, by omega, _, (hk (hc.ext (hw2.trans hw3))).1, (x, j), rfl, trivial, ?_⟩
      rintro y w4 ⟨hy, hw4⟩
      have hy' : y = shapeK f k j := hy.trans (hsx j)
      refine bcase_mk (fun h => ?_) (fun h => ⟨⟨by simp only [IntKind.min, IntKind.signed, IntKind.bits]; omega, by simp only [IntKind.max, IntKind.signed, IntKind.bits]; omega⟩, j + 1, by simp, ⟨hj2, hw3.trans hw4, fun g hg => ?_⟩, by omega⟩)
      · have hyr : y = r := by simpa using h
        refine ⟨i, rfl, hi2, 0, rfl, by omega, _, (hk (hc.ext ((hw2.trans hw3).trans hw4))).1, fun b1 w5 hn => ⟨(some ⟨b1, 0, none⟩, 1, 1), rfl, ?_⟩⟩
        have hp : plainR r = [x] := by
          unfold plainR
          rw [if_neg hr, hf]
          have hh : hasK (x, f, k) r = true := by
            simp only [hasK, Bool.or_eq_true, beq_iff_eq]
            have : shapeK f k j = r := by rw [← hy']; exact hyr
            match j, hj2 with
            | 0, _ => exact .inl this
            | 1, _ => exact .inr (.inl this)
            | 2, _ => exact .inr (.inr (.inl this))
            | 3, _ => exact .inr (.inr (.inr this))
          simp only [findK, hh]
        rw [hp]
        exact ⟨rfl, Made.box (n := 1) hn (hw.trans (hw3.trans hw4)) rfl (by decide)⟩
      · have hyr : y ≠ r := by simpa using h
        by_cases hg2 : g = j
        · subst hg2; rw [← hy']; exact hyr
        · exact hno g (by omega)
    · have hj2 : j = 4 := by simp only [decide_eq_false_iff_not] at h; omega
      subst hj2
      rw [hf]
      have hh : hasK (x, f, k) r = false := by
        rw [Bool.eq_false_iff]
        intro hh
        simp only [hasK, Bool.or_eq_true, beq_iff_eq] at hh
        rcases hh with hh | hh | hh | hh
        · exact hno 0 (by omega) hh
        · exact hno 1 (by omega) hh
        · exact hno 2 (by omega) hh
        · exact hno 3 (by omega) hh
      simp only [findK, hh]
  · have hi2 : i = 36 := by simp only [decide_eq_false_iff_not] at h; omega
    subst hi2
    have hp : plainR r = [r] := by
      unfold plainR
      rw [if_neg hr, hf]
      rfl
    rw [hp]
    exact ⟨rfl, Made.box (n := 1) hn hw rfl (by decide)⟩

theorem plain_ok : sPlain.Ok Try.prog 22 := by
  refine plain_vc ⟨first_ok, trivial⟩ ?_
  intro r w _
  refine bcase_mk (fun h b w1 hn => ?_) (fun h => bcase_mk (fun h' b w1 hn => ⟨(some ⟨b, 0, none⟩, 1, 1), rfl, ?_⟩) (fun h' => ⟨⟨0, rfl, rfl, by omega, Ext.refl _⟩, ?_⟩))
  · simp only [ge_iff_le, Bool.and_eq_true, decide_eq_true_eq] at h
    exact with_made (w2 := w) (b1 := 0) h.1 h.2 hn
  · have hp : plainR r = [r] := by
      simp only [ge_iff_le, gt_iff_lt, Bool.and_eq_false_iff, Bool.or_eq_true, decide_eq_true_eq, decide_eq_false_iff_not] at h h'
      exact plain_letter (by omega)
    rw [hp]
    exact ⟨rfl, Made.box (n := 1) hn (Ext.refl _) rfl (by decide)⟩
  · simp only [ge_iff_le, gt_iff_lt, Bool.or_eq_false_iff, decide_eq_false_iff_not] at h'
    rintro _ i w1 ⟨hi, hw1⟩
    refine bcase_mk (fun h => ?_) (fun h b w2 hn => ⟨(some ⟨b, 0, none⟩, 1, 1), rfl, ?_⟩)
    · have hi2 : i < 42 := by simp only [decide_eq_true_eq] at h; omega
      refine ⟨_, rfl, trivial, ?_⟩
      rintro f w2 ⟨hf, hw2⟩
      refine bcase_mk (fun h => ⟨inr_i32 (by omega) (by omega), i + 1, by simp; omega, ?_, ⟨hi2, hw1.trans hw2⟩, by omega⟩) (fun h => ⟨inr_i32 (by omega) (by omega), i + 1, by simp; omega, ?_, ⟨hi2, hw1.trans hw2⟩, by omega⟩)
      · simp only [bne_iff_ne, Bool.and_eq_true, decide_eq_true_eq] at h
        simp only [letA]
        rw [← hf, if_pos h]
      · simp only [letA]
        rw [← hf, if_neg]
        intro hh
        rw [show (f != 0 && decide (f ≤ r)) = true from by simp [hh]] at h
        cases h
    · have hi2 : i = 42 := by simp only [decide_eq_false_iff_not] at h; omega
      subst hi2
      rw [plain_letA (by omega) (by omega)]
      exact ⟨rfl, Made.box (n := 1) hn hw1 rfl (by decide)⟩

end Go.Proofs.Ytliihpdhoimmoaa
