/-
  Chapter 11: the reference's forms, the program's forms, and the law's comparison, each meets its specification.
-/
import Derived.Test.YtliihpdhoimmoaaVgB
import Derived.Test.YtliihpdhoimmoaaWkA
set_option linter.unusedVariables false
set_option linter.unusedSimpArgs false
namespace Go.Proofs.Ytliihpdhoimmoaa
open Go Go.RowKit Vc Tb

theorem drop_cons0 {xs : List Int} {x : Nat} (h : x < xs.length) : xs.drop x = xs.getD x 0 :: xs.drop (x + 1) := by
  rw [List.getD_eq_getElem?_getD, List.getElem?_eq_getElem h]; simp
theorem take_succ0 {xs : List Int} {x : Nat} (h : x < xs.length) : xs.take (x + 1) = xs.take x ++ [xs.getD x 0] := by
  rw [List.take_add_one, List.getD_eq_getElem?_getD, List.getElem?_eq_getElem h]; rfl
theorem take_rev0 {xs : List Int} {x : Nat} (h : x < xs.length) : (xs.take (x + 1)).reverse = xs.getD x 0 :: (xs.take x).reverse := by
  rw [take_succ0 h]; simp

theorem nextJ_hit {x : Int} {r : List Int} (h : joinR x ≠ 4) : nextJ (x :: r) = joinR x := if_neg h
theorem nextJ_miss {x : Int} {r : List Int} (h : joinR x = 4) : nextJ (x :: r) = nextJ r := if_pos h

theorem neighbour_ok : sNeighbour.Ok Try.prog 29 := by
  refine neighbour_vc ⟨rjoin_ok, trivial⟩ ?_
  rintro ⟨⟨ad, c, xs⟩, i, d⟩ w ⟨⟨hc, hlen⟩, hi, hd⟩
  dsimp only at hc hlen hi hd ⊢
  rcases hd with rfl | rfl
  · simp only [if_true]
    refine ⟨inr_i64 (by omega) (by omega), ⟨i + 1, by simp, by omega, trivial, rfl⟩, ?_⟩
    rintro _ x w' ⟨hx, rfl, hnx⟩
    refine bcase_mk (fun h => ?_) (fun h => ?_)
    · simp only [ge_iff_le, Bool.and_eq_true, decide_eq_true_eq] at h
      have hx2 : x < xs.length := by omega
      refine ⟨x, rfl, hx2, hc.int hx2 fun b o hcell => ⟨_, hcell, _, rfl, trivial, ?_⟩⟩
      rintro _ _ ⟨rfl, rfl⟩
      refine bcase_mk (fun h4 => ⟨_, rfl, ?_, rfl⟩) (fun h4 => ⟨inr_i64 (by omega) (by omega), x + 1, by simp, ⟨by omega, rfl, ?_⟩, by omega⟩)
      · rw [← hnx, drop_cons0 hx2, nextJ_hit (by simpa using h4)]
      · rw [← hnx, drop_cons0 hx2, nextJ_miss (by simpa using h4)]
    · simp only [ge_iff_le, Bool.and_eq_false_iff, decide_eq_false_iff_not] at h
      have : x = xs.length := by omega
      subst this
      exact ⟨0, rfl, by rw [← hnx]; simp [nextJ], rfl⟩
  · have e1 : ((-1 : Int) = 1) = False := by simp
    simp only [e1, if_false]
    refine ⟨inr_i64 (by omega) (by omega), ⟨i, by congr 1, by omega, trivial, rfl⟩, ?_⟩
    rintro _ x w' ⟨hx, rfl, hnx⟩
    refine bcase_mk (fun h => ?_) (fun h => ?_)
    · simp only [ge_iff_le, Bool.and_eq_true, decide_eq_true_eq] at h
      obtain ⟨y, rfl⟩ : ∃ y, x = y + 1 := ⟨x - 1, by omega⟩
      have hx2 : y < xs.length := by omega
      refine ⟨y, by omega, hx2, hc.int hx2 fun b o hcell => ⟨_, hcell, _, rfl, trivial, ?_⟩⟩
      rintro _ _ ⟨rfl, rfl⟩
      refine bcase_mk (fun h4 => ⟨_, rfl, ?_, rfl⟩) (fun h4 => ⟨inr_i64 (by omega) (by omega), y, by congr 1; omega, ⟨by omega, rfl, ?_⟩, by omega⟩)
      · rw [← hnx, take_rev0 hx2, nextJ_hit (by simpa using h4)]
      · rw [← hnx, take_rev0 hx2, nextJ_miss (by simpa using h4)]
    · simp only [ge_iff_le, Bool.and_eq_false_iff, decide_eq_false_iff_not] at h
      have : x = 0 := by omega
      subst this
      exact ⟨0, rfl, by rw [← hnx]; simp [nextJ], rfl⟩

theorem take_eq_step {a b : List Int} {x : Nat} (ha : x < a.length) (hb : x < b.length) (h : a.take x = b.take x) (hv : a.getD x 0 = b.getD x 0) : a.take (x + 1) = b.take (x + 1) := by
  rw [take_succ0 ha, take_succ0 hb, h, hv]

theorem same8_ok : (sSame .i8).Ok Try.prog 13 := by
  refine same8_vc trivial ?_
  rintro ⟨⟨ad, c, xs⟩, ⟨ad', c', ys⟩⟩ w ⟨⟨h1, h2⟩, h3, h4⟩
  dsimp only at h1 h2 h3 h4 ⊢
  refine bcase_mk (fun h => ⟨_, rfl, ?_, Ext.refl w⟩) (fun h => ⟨⟨0, rfl, Nat.zero_le _, by simp, Ext.refl w⟩, ?_⟩)
  · symm; simp only [decide_eq_false_iff_not]; intro e; subst e; simp at h
  have hl : xs.length = ys.length := by
    have h' : (xs.length : Int) = ys.length := by simpa using h
    omega
  rintro _ x w' ⟨hx, hxy, hw⟩
  refine bcase_mk (fun h => ?_) (fun h => ?_)
  · have hx1 : x < xs.length := by simpa using h
    have hx2 : x < ys.length := by omega
    refine fun w1 hw1 => ⟨x, rfl, hx1, (h1.ext hw).int hx1 fun b o hc1 => ⟨_, hc1, x, rfl, hx2, (h3.ext hw).int hx2 fun b1 o1 hc2 => ⟨_, hc2, ?_⟩⟩⟩
    have hw2 : Ext w w1 := hw.trans hw1.ext
    refine bcase_mk (fun h => ⟨_, rfl, ?_, hw2⟩) (fun h => ⟨inr_i64 (by omega) (by omega), x + 1, by simp, ⟨by omega, take_eq_step hx1 hx2 hxy (by simpa using h), hw2⟩, by omega⟩)
    symm; simp only [decide_eq_false_iff_not]; intro e; subst e; simp at h
  · have hx1 : x = xs.length := by have : ¬ x < xs.length := by simpa using h
                                   omega
    subst hx1
    refine ⟨_, rfl, ?_, hw⟩
    symm; simp only [decide_eq_true_eq]
    rw [List.take_length, hl, List.take_length] at hxy
    exact hxy

theorem same32_ok : (sSame .i32).Ok Try.prog 19 := by
  refine same32_vc trivial ?_
  rintro ⟨⟨ad, c, xs⟩, ⟨ad', c', ys⟩⟩ w ⟨⟨h1, h2⟩, h3, h4⟩
  dsimp only at h1 h2 h3 h4 ⊢
  refine bcase_mk (fun h => ⟨_, rfl, ?_, Ext.refl w⟩) (fun h => ⟨⟨0, rfl, Nat.zero_le _, by simp, Ext.refl w⟩, ?_⟩)
  · symm; simp only [decide_eq_false_iff_not]; intro e; subst e; simp at h
  have hl : xs.length = ys.length := by
    have h' : (xs.length : Int) = ys.length := by simpa using h
    omega
  rintro _ x w' ⟨hx, hxy, hw⟩
  refine bcase_mk (fun h => ?_) (fun h => ?_)
  · have hx1 : x < xs.length := by simpa using h
    have hx2 : x < ys.length := by omega
    refine fun w1 hw1 => ⟨x, rfl, hx1, (h1.ext hw).int hx1 fun b o hc1 => ⟨_, hc1, x, rfl, hx2, (h3.ext hw).int hx2 fun b1 o1 hc2 => ⟨_, hc2, ?_⟩⟩⟩
    have hw2 : Ext w w1 := hw.trans hw1.ext
    refine bcase_mk (fun h => ⟨_, rfl, ?_, hw2⟩) (fun h => ⟨inr_i64 (by omega) (by omega), x + 1, by simp, ⟨by omega, take_eq_step hx1 hx2 hxy (by simpa using h), hw2⟩, by omega⟩)
    symm; simp only [decide_eq_false_iff_not]; intro e; subst e; simp at h
  · have hx1 : x = xs.length := by have : ¬ x < xs.length := by simpa using h
                                   omega
    subst hx1
    refine ⟨_, rfl, ?_, hw⟩
    symm; simp only [decide_eq_true_eq]
    rw [List.take_length, hl, List.take_length] at hxy
    exact hxy

theorem info8 : (Try.prog.info? 27).map (fun i => (i.zero, i.size, i.bytes)) = some (some (.int .i8 0), 1, 1) := by kernel_rfl
theorem info32 : (Try.prog.info? 21).map (fun i => (i.zero, i.size, i.bytes)) = some (some (.int .i32 0), 1, 4) := by kernel_rfl

theorem push8 {w0 w w1 : World} {ad : Option Addr} {n c b : Nat} {vs : List Value} {v : Int} (h : Made w0 w 27 1 ad n vs c) (hn : New w (.cells #[.int .i8 v] 27) b w1) (hb : n + 1 ≤ 140737488355328) :
    ∃ ad' c' w2, AppRun Try.prog #[23, 23] 23 (.slice ad n c) (.slice (some ⟨b, 0, none⟩) 1 1) w1 ad' (n + 1) c' w2 ∧ KO w1 w2 ∧ Made w0 w2 27 1 ad' (n + 1) (vs ++ [.int .i8 v]) c' := by
  obtain ⟨i0, hi, hz0, hz1, hz2⟩ := info_parts info8
  exact h.push (by kernel_rfl) hi hz0 hz1 hz2 rfl hn rfl (by unfold maxLen; omega) (by omega)

theorem formsR_len (xs : List Int) : (formsR xs).length = xs.length := by simp [formsR]
theorem formsR_step {xs : List Int} {i : Nat} (h : i < xs.length) : ((formsR xs).take (i + 1)).map (Value.int .i8) = ((formsR xs).take i).map (Value.int .i8) ++ [.int .i8 (formR xs i)] := by
  rw [List.take_add_one, List.map_append]
  simp [formsR, h]

theorem rforms_ok : (sList .i32 .i8 27 formsR).Ok Try.prog 10 := by
  refine rforms_vc ⟨rjoin_ok, neighbour_ok, trivial⟩ ?_
  rintro ⟨ad, c, xs⟩ w ⟨hc, hlen⟩
  dsimp only at hc hlen ⊢
  refine ⟨⟨(0, none, 0), rfl, rfl, Nat.zero_le _, Made.nil w _ _⟩, ?_⟩
  rintro _ ⟨i, a, cc⟩ w1 ⟨hi, hm⟩
  dsimp only at hi hm ⊢
  have hc1 := hc.ext hm.ext
  refine bcase_mk (fun h => ?_) (fun h => ?_)
  · have hi1 : i < xs.length := by simpa using h
    refine ⟨i, rfl, hi1, hc1.int hi1 fun b o hcell => ⟨_, hcell, _, rfl, trivial, ?_⟩⟩
    rintro k w2 ⟨hk, rfl⟩
    refine ⟨⟨⟨ad, c, xs⟩, i, -1⟩, rfl, ⟨⟨hc1, hlen⟩, hi1, .inr rfl⟩, ?_⟩
    rintro a1 w3 ⟨ha, rfl⟩
    refine ⟨⟨⟨ad, c, xs⟩, i, 1⟩, rfl, ⟨⟨hc1, hlen⟩, hi1, .inl rfl⟩, ?_⟩
    rintro b1 w4 ⟨hb, rfl⟩
    have ha' : a1 = nextJ (xs.take i).reverse := ha
    have hb' : b1 = nextJ (xs.drop (i + 1)) := hb
    have hf : formR xs i = formOf k a1 b1 := by rw [formR, hk, ha', hb']
    have fin : ∀ (v : Int), formR xs i = v → ∀ (bb : Nat) (w2 : World), New w4 (Obj.cells #[Value.int IntKind.i8 v] 27) bb w2 → ∃ (a' : Option Addr) (c' : Nat) (w3 : World),
        AppRun Try.prog #[23, 23] 23 (Value.slice a i cc) (Value.slice (some { block := bb, off := 0 }) 1 1) w2 a' (i + 1) c' w3 ∧ KO w2 w3 ∧ InR IntKind.i64 ((i : Int) + 1) ∧
        ∃ y : Nat × Option Addr × Nat, Value.int IntKind.i64 ((i : Int) + 1) = Value.int IntKind.i64 (y.1 : Int) ∧ Value.slice a' (i + 1) c' = Value.slice y.2.1 y.1 y.2.2 ∧
          (y.1 ≤ xs.length ∧ Made w w3 27 1 y.2.1 y.1 (((formsR xs).take y.1).map (Value.int .i8)) y.2.2) ∧ xs.length - y.1 < xs.length - i := by
      intro v hv bb w2 hn
      obtain ⟨a', c', w3, hr, hko, hmm⟩ := push8 hm hn (by omega)
      refine ⟨a', c', w3, hr, hko, inr_i64 (by omega) (by omega), (i + 1, a', c'), by simp, rfl, ⟨hi1, ?_⟩, by dsimp only; omega⟩
      dsimp only
      rw [formsR_step hi1, hv]
      exact hmm
    refine bcase_mk (fun h => fin 2 ?_) (fun h => bcase_mk (fun h' => fin 3 ?_) (fun h' => bcase_mk (fun h'' => fin 1 ?_) (fun h'' => fin 0 ?_)))
    all_goals
      rw [hf]; unfold formOf
      simp only [Bool.and_eq_true, Bool.or_eq_true, beq_iff_eq, Bool.and_eq_false_iff, Bool.or_eq_false_iff, beq_eq_false_iff_ne] at *
      repeat' split
      all_goals omega
  · have hi1 : i = xs.length := by have : ¬ i < xs.length := by simpa using h
                                   omega
    subst hi1
    refine ⟨(a, xs.length, cc), rfl, by simp [formsR], ?_⟩
    rw [List.take_of_length_le (by simp [formsR])] at hm
    exact hm

end Go.Proofs.Ytliihpdhoimmoaa
