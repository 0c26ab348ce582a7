/-
  Chapter 1: the law on numbers as a text and back.
-/
import Derived.Test.YthkcphnkllnfcaaDoorWkD
import Derived.Test.YthkcphnkllnfcaaDoorUq
set_option linter.unusedVariables false
set_option linter.unusedSimpArgs false
namespace Go.Proofs.YthkcphnkllnfcaaDoor
open Go Go.RowKit Vc Ut

theorem char_ok : sChar.Ok Tryd.prog 26 := by
  refine char_vc trivial ?_
  rintro r w _
  refine ⟨_, rfl, ?_, rfl⟩
  by_cases h1 : 0 ≤ r <;> by_cases h2 : r < 55296 <;> by_cases h3 : 57343 < r <;> by_cases h4 : r ≤ 1114111 <;> simp [h1, h2, h3, h4] <;> omega

theorem text_at {xs : List Int} {i : Nat} (h : i < xs.length) : (runes (runesBytes xs)).getD i 0 = (encC (xs.getD i 0) : Int) := by
  rw [runes_at (by rw [text_cnt]; exact h), (text_dc h).1]

theorem lawNumbers_ok : sLawL.Ok Tryd.prog 5 := by
  refine lawNumbers_vc ⟨text_ok, runes_ok, valid_ok, char_ok, wakes_ok, trivial⟩ ?_
  rintro ⟨ad, c, xs⟩ w ⟨hU, hc, hl⟩
  dsimp only at hc hl ⊢
  refine ⟨⟨ad, c, xs⟩, rfl, ⟨⟨hc, by dsimp only; omega⟩, by dsimp only; omega⟩, ?_⟩
  rintro x w1 ⟨rfl, hw1⟩
  have hU1 := hU.ext hw1
  have hsz : (runesBytes xs).size ≤ 67108864 := by rw [runesBytes_size]; have := flat_encL_len xs; omega
  refine ⟨_, rfl, ⟨hU1, hsz⟩, ?_⟩
  rintro ⟨ma, mn, mc⟩ w2 ⟨hmn, hm⟩
  dsimp only at hmn hm ⊢
  have hcn : mn = xs.length := by rw [hmn, runes_len, text_cnt]
  subst hcn
  have hrl : (runes (runesBytes xs)).length = xs.length := by rw [runes_len, text_cnt]
  refine bcase_mk (fun h => by simp at h) (fun _ => ?_)
  have e2 : Ext w w2 := Ext.trans hw1 hm.ext
  refine ⟨_, rfl, ⟨hU1.ext hm.ext, hsz⟩, ?_⟩
  rintro x w3 ⟨hx, hw3⟩
  rw [text_valid] at hx
  subst hx
  refine bcase_mk (fun h => by cases h) (fun _ => ?_)
  refine ⟨⟨0, rfl, Nat.zero_le _, e2.trans hw3, ma, mc, rfl, hm.row.cells.ext hw3⟩, ?_⟩
  rintro _ i w4 ⟨hi, e4, a', c', ha, hm4⟩
  obtain ⟨rfl, rfl⟩ : ma = a' ∧ mc = c' := by simpa using ha
  refine bcase_mk (fun h w5 hd => ?_) (fun h => ?_)
  · have hi1 : i < xs.length := by simpa using h
    have hm5 := hm4.ext hd.ext
    have hc5 := (hc.ext e4).ext hd.ext
    have hat := text_at hi1
    have next : InR IntKind.i64 ((i : Int) + 1) ∧ ∃ y : Nat, Value.int IntKind.i64 ((i : Int) + 1) = Value.int IntKind.i64 (y : Int) ∧ (y ≤ xs.length ∧ Ext w w5 ∧ ∃ a8 c, Value.slice ma xs.length mc = Value.slice a8 xs.length c ∧ CellsAt w5 a8 (List.map (Value.int IntKind.i32) (runes (runesBytes xs)))) ∧ xs.length - y < xs.length - i :=
      ⟨inr_i64 (by omega) (by omega), i + 1, by simp, ⟨hi1, Ext.trans e4 hd.ext, ma, mc, rfl, hm5⟩, by omega⟩
    refine ⟨i, rfl, hi1, (hc.ext e4).int hi1 fun b o hb => ⟨_, hb, _, rfl, trivial, ?_⟩⟩
    rintro x w6 ⟨hx, rfl⟩
    refine bcase_mk (fun h => ?_) (fun h => ?_)
    · rw [hx] at h
      simp only [decide_eq_true_eq] at h
      have hsame : (encC (xs.getD i 0) : Int) = xs.getD i 0 := encC_same (by omega) (by unfold okC; omega)
      refine ⟨i, rfl, hi1, hm5.int (by omega) fun b1 o1 hb1 => ⟨_, hb1, i, rfl, hi1, hc5.int hi1 fun b2 o2 hb2 => ⟨_, hb2, ?_⟩⟩⟩
      refine bcase_mk (fun hne => ?_) (fun _ => ?_)
      · rw [hat, hsame] at hne; simp at hne
      refine ⟨i, rfl, hi1, hc5.int hi1 fun b3 o3 hb3 => ⟨_, hb3, _, rfl, trivial, ?_⟩⟩
      rintro x w7 ⟨hx2, rfl⟩
      rw [decide_eq_true h] at hx2
      subst hx2
      exact bcase_mk (fun h => by cases h) (fun _ => next)
    · rw [hx] at h
      simp only [decide_eq_false_iff_not] at h
      have hbad : (encC (xs.getD i 0) : Int) = 65533 := by unfold encC; rw [if_neg h]; rfl
      refine ⟨i, rfl, hi1, hc5.int hi1 fun b1 o1 hb1 => ⟨_, hb1, _, rfl, trivial, ?_⟩⟩
      rintro x w7 ⟨hx2, rfl⟩
      rw [decide_eq_false h] at hx2
      subst hx2
      refine bcase_mk (fun _ => ?_) (fun h => by cases h)
      refine ⟨i, rfl, hi1, hm5.int (by omega) fun b4 o4 hb4 => ⟨_, hb4, ?_⟩⟩
      refine bcase_mk (fun hne => ?_) (fun _ => next)
      rw [hat, hbad] at hne; simp at hne
  · refine ⟨(), rfl, hU.ext e4, ?_⟩
    rintro _ w5 hw5
    exact ⟨(), rfl, e4.trans hw5⟩

end Go.Proofs.YthkcphnkllnfcaaDoor
