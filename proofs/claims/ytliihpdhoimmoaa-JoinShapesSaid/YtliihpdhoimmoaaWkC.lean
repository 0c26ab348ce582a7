/-
  Chapter 11: the program's forms meet their specification; they are the document's.
-/
import Derived.Test.YtliihpdhoimmoaaWkB
set_option linter.unusedVariables false
set_option linter.unusedSimpArgs false
namespace Go.Proofs.Ytliihpdhoimmoaa
open Go Go.RowKit Vc Tb

theorem runF_len (xs : List Int) (n : Nat) : (runF xs n).2.length = xs.length := by
  induction n with
  | zero => simp [runF]
  | succ n ih =>
    simp only [runF, stepF]
    repeat' split
    all_goals simp [ih]

theorem runF_last (xs : List Int) (n : Nat) : (runF xs n).1 = -1 ∨ ∃ k : Nat, k < n ∧ (runF xs n).1 = k := by
  induction n with
  | zero => exact .inl rfl
  | succ n ih =>
    simp only [runF, stepF]
    repeat' split
    · rcases ih with ih | ⟨k, h1, h2⟩
      · exact .inl ih
      · exact .inr ⟨k, by omega, h2⟩
    all_goals exact .inr ⟨n, by omega, rfl⟩

theorem map_set (k : IntKind) (xs : List Int) (i : Nat) (v : Int) : (xs.map (Value.int k)).set i (.int k v) = (xs.set i v).map (Value.int k) := by
  rw [List.map_set]

theorem forms_ok : (sList .i32 .i8 27 formsA).Ok Try.prog 12 := by
  refine forms_vc ⟨cjoin_ok, trivial⟩ ?_
  rintro ⟨ad, c, xs⟩ w ⟨hc, hlen⟩
  dsimp only at hc hlen ⊢
  refine ⟨xs.length, xs.length, rfl, rfl, Nat.le_refl _, by omega, by omega, fun b w1 hn => ?_⟩
  have hm0 : Made w w1 27 1 (some ⟨b, 0, none⟩) xs.length ((List.replicate xs.length 0).map (Value.int .i8)) xs.length := by
    refine ⟨?_, ?_, hn.ext⟩
    · have hr := Row.made (s := 1) (n := xs.length) (c := xs.length) hn (Nat.le_refl _) (by unfold maxLen; omega) (by simp [Value.cells, mkRow_one])
      simpa [Value.cells, mkRow_one] using hr
    · intro g hg; simp [blk] at hg; subst hg; have := hn.size; omega
  refine ⟨⟨0, rfl, rfl, Nat.zero_le _, b, rfl, hm0⟩, ?_⟩
  rintro _ x w2 ⟨hx, b1, hb1, hm⟩
  obtain rfl : b = b1 := by simpa using hb1
  have hfl := runF_len xs x
  have hla := runF_last xs x
  refine bcase_mk (fun h => ?_) (fun h => ?_)
  · have hx1 : x < xs.length := by simpa using h
    have hc2 := hc.ext hm.ext
    refine ⟨x, rfl, hx1, hc2.int hx1 fun b1 o hcell => ⟨_, hcell, _, rfl, trivial, ?_⟩⟩
    rintro k w3 ⟨hk, hw3⟩
    have hm3 := hm.later hw3
    have hstep : runF xs (x + 1) = stepF xs x (runF xs x) := rfl
    generalize hs : runF xs x = s at *
    obtain ⟨last, fs⟩ := s
    dsimp only at hfl hla hm hm3 ⊢
    have fin : ∀ (la : Int) (f : List Int) (w4 : World), runF xs (x + 1) = (la, f) → Made w w4 27 1 (some ⟨b, 0, none⟩) xs.length (f.map (Value.int .i8)) xs.length →
        InR IntKind.i64 ((x : Int) + 1) ∧ ∃ y : Nat, Value.int IntKind.i64 ((x : Int) + 1) = Value.int IntKind.i64 (y : Int) ∧ Value.int IntKind.i64 la = Value.int IntKind.i64 (runF xs y).1 ∧
          (y ≤ xs.length ∧ ∃ b2 : Nat, Value.slice (some { block := b, off := 0 }) xs.length xs.length = Value.slice (some { block := b2, off := 0 }) xs.length xs.length ∧
            Made w w4 27 1 (some { block := b2, off := 0 }) xs.length ((runF xs y).2.map (Value.int .i8)) xs.length) ∧ xs.length - y < xs.length - x := by
      intro la f w4 h1 h2
      exact ⟨inr_i64 (by omega) (by omega), x + 1, by simp, by rw [h1], ⟨hx1, b, rfl, by rw [h1]; exact h2⟩, by omega⟩
    have hkx : k = joinR (xs.getD x 0) := hk
    refine bcase_mk (fun h4 => ?_) (fun h4 => bcase_mk (fun h5 => bcase_mk (fun h6 => ?_) (fun h6 => ?_)) (fun h5 => ?_))
    · refine fin last fs w3 ?_ hm3
      rw [hstep]; unfold stepF; dsimp only; rw [← hkx, if_pos (by simpa using h4)]
    · refine fin x fs w3 ?_ hm3
      rw [hstep]; unfold stepF; dsimp only
      simp only [decide_eq_true_eq, beq_eq_false_iff_ne] at h4 h6
      rw [← hkx, if_neg h4, if_neg (by omega)]
    · simp only [decide_eq_false_iff_not, beq_eq_false_iff_ne, Bool.or_eq_true, beq_iff_eq] at h4 h5 h6
      obtain ⟨l, hl1, hl2⟩ : ∃ l : Nat, l < x ∧ last = l := by rcases hla with h | h; omega; exact h
      subst hl2
      have hlx : l < xs.length := by omega
      have hc3 := hc2.ext hw3
      refine ⟨l, rfl, hlx, hc3.int hlx fun b2 o2 hcell2 => ⟨_, hcell2, _, rfl, trivial, ?_⟩⟩
      rintro q w4 ⟨hq, hw4⟩
      have hm4 := hm3.later hw4
      have hqx : q = joinR (xs.getD l 0) := hq
      have hst : runF xs (x + 1) = if q ≠ 2 ∧ q ≠ 3 then ((x : Int), fs) else ((x : Int), if q = 2 then (if k ≠ 3 then fs.set x 3 else fs).set l (if (if k ≠ 3 then fs.set x 3 else fs).getD l 0 = 3 then 2 else 1) else (if k ≠ 3 then fs.set x 3 else fs)) := by
        rw [hstep]; unfold stepF; dsimp only
        rw [← hkx, if_neg h4, if_pos (show (k = 1 ∨ k = 2 ∨ k = 3) ∧ 0 ≤ (l : Int) from ⟨h5, by omega⟩)]
        simp only [Int.toNat_natCast, ← hqx]
      refine bcase_mk (fun h7 => ?_) (fun h7 => bcase_mk (fun h8 => ?_) (fun h8 => ?_))
      · refine fin x fs w4 ?_ hm4
        rw [hst, if_pos (by simpa using h7)]
      · have hq23 : ¬ (q ≠ 2 ∧ q ≠ 3) := by simpa using h7
        have hk3 : k ≠ 3 := by simpa using h8
        rw [if_neg hq23, if_pos hk3] at hst
        have hs1 := hm4.row.at_store hx1
        refine ⟨x, rfl, hx1, rfl, hs1.1, hs1.2, fun w5 hw5 => ?_⟩
        have hm5 := hm4.store hw5
        rw [map_set] at hm5
        have hf1 : (fs.set x 3).length = xs.length := by simp [hfl]
        refine bcase_mk (fun h9 => ?_) (fun h9 => ?_)
        · have hq2 : q = 2 := by simpa using h9
          rw [if_pos hq2] at hst
          refine ⟨l, rfl, hlx, _, hm5.row.read_int (by omega), bcase_mk (fun h10 => ?_) (fun h10 => ?_)⟩
          · have hs2 := hm5.row.at_store hlx
            refine ⟨l, rfl, hlx, rfl, hs2.1, hs2.2, fun w6 hw6 => ?_⟩
            have hm6 := hm5.store hw6
            rw [map_set] at hm6
            refine fin _ _ w6 ?_ hm6
            rw [hst, if_pos (by simpa using h10)]
          · have hs2 := hm5.row.at_store hlx
            refine ⟨l, rfl, hlx, rfl, hs2.1, hs2.2, fun w6 hw6 => ?_⟩
            have hm6 := hm5.store hw6
            rw [map_set] at hm6
            refine fin _ _ w6 ?_ hm6
            rw [hst, if_neg (by simpa using h10)]
        · have hq2 : q ≠ 2 := by simpa using h9
          rw [if_neg hq2] at hst
          exact fin _ _ w5 hst hm5
      · have hq23 : ¬ (q ≠ 2 ∧ q ≠ 3) := by simpa using h7
        have hk3 : ¬ k ≠ 3 := by simpa using h8
        rw [if_neg hq23, if_neg hk3] at hst
        refine bcase_mk (fun h9 => ?_) (fun h9 => ?_)
        · have hq2 : q = 2 := by simpa using h9
          rw [if_pos hq2] at hst
          refine ⟨l, rfl, hlx, _, hm4.row.read_int (by omega), bcase_mk (fun h10 => ?_) (fun h10 => ?_)⟩
          · have hs2 := hm4.row.at_store hlx
            refine ⟨l, rfl, hlx, rfl, hs2.1, hs2.2, fun w6 hw6 => ?_⟩
            have hm6 := hm4.store hw6
            rw [map_set] at hm6
            refine fin _ _ w6 ?_ hm6
            rw [hst, if_pos (by simpa using h10)]
          · have hs2 := hm4.row.at_store hlx
            refine ⟨l, rfl, hlx, rfl, hs2.1, hs2.2, fun w6 hw6 => ?_⟩
            have hm6 := hm4.store hw6
            rw [map_set] at hm6
            refine fin _ _ w6 ?_ hm6
            rw [hst, if_neg (by simpa using h10)]
        · have hq2 : q ≠ 2 := by simpa using h9
          rw [if_neg hq2] at hst
          exact fin _ _ w4 hst hm4
    · refine fin x fs w3 ?_ hm3
      rw [hstep]; unfold stepF; dsimp only
      simp only [Bool.or_eq_false_iff, beq_eq_false_iff_ne] at h4 h5
      rw [← hkx, if_neg h4, if_neg (by omega)]
  · have hx1 : x = xs.length := by
      have : ¬ x < xs.length := by simpa using h
      omega
    subst hx1
    exact ⟨(some ⟨b, 0, none⟩, xs.length, xs.length), rfl, by simp [formsA, hfl], hm⟩

end Go.Proofs.Ytliihpdhoimmoaa
