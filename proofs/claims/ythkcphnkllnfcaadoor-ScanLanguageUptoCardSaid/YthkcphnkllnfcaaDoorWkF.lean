/-
  Chapter 1: the law on a text's parts.
-/
import Derived.Test.YthkcphnkllnfcaaDoorVgE
import Derived.Test.YthkcphnkllnfcaaDoorWkE
import Derived.Test.YthkcphnkllnfcaaDoorUs
set_option linter.unusedVariables false
set_option linter.unusedSimpArgs false
namespace Go.Proofs.YthkcphnkllnfcaaDoor
open Go Go.RowKit Vc Ut

theorem lawParts_ok : sLawSI.Ok Tryd.prog 10 := by
  refine lawParts_vc ⟨runes_ok, text_ok, valid_ok, clean_ok, count_ok, same_ok, bad_ok, next_ok, wakes_ok, trivial⟩ ?_
  rintro ⟨s, k⟩ w ⟨hU, hs⟩
  dsimp only at hs ⊢
  have hcn := cnt_le s
  have hrl := runes_len s
  have hcs : (runesBytes (runes s)).size ≤ 67108864 := by rw [runesBytes_size]; have := flat_encL_len (runes s); omega
  refine ⟨s, rfl, ⟨hU, by omega⟩, ?_⟩
  rintro ⟨la, ln, lc⟩ w1 ⟨hln, hm1⟩
  dsimp only at hln hm1 ⊢
  subst hln
  have hU1 := hU.ext hm1.ext
  refine ⟨⟨la, lc, runes s⟩, rfl, ⟨at_made hm1 (by omega), by dsimp only; omega⟩, ?_⟩
  rintro x w2 ⟨rfl, e2⟩
  have hU2 := hU1.ext e2
  have hcc : runesBytes (runes (runesBytes (runes s))) = runesBytes (runes s) := by rw [runes_clean]
  refine ⟨⟨_, rfl, ⟨hU2, hcs⟩, ?_⟩, ?_⟩
  · rintro x w3 ⟨hx, e3⟩
    rw [text_valid] at hx
    subst hx
    refine bcase_mk (fun h => by cases h) (fun _ => ?_)
    have hU3 := hU2.ext e3
    refine ⟨_, rfl, ⟨hU3, by omega⟩, ?_⟩
    rintro x w4 ⟨rfl, e4⟩
    have hU4 := hU3.ext e4
    refine bcase_mk (fun h => by simp at h) (fun _ => ?_)
    refine ⟨_, rfl, ⟨hU4, hcs⟩, ?_⟩
    rintro x w5 ⟨rfl, e5⟩
    have hU5 := hU4.ext e5
    refine bcase_mk (fun h => by rw [hcc] at h; simp at h) (fun _ => ?_)
    refine ⟨_, rfl, ⟨hU5, hcs⟩, ?_⟩
    rintro x w6 ⟨rfl, e6⟩
    have hU6 := hU5.ext e6
    refine bcase_mk (fun h => by rw [text_cnt] at h; simp at h) (fun _ => ?_)
    refine ⟨_, rfl, ⟨hU6, hcs⟩, ?_⟩
    rintro ⟨ma, mn, mc⟩ w7 ⟨hmn, hm7⟩
    dsimp only at hmn hm7 ⊢
    rw [runes_clean] at hmn hm7
    subst hmn
    have e17 := ((((e2.trans e3).trans e4).trans e5).trans e6).trans hm7.ext
    refine ⟨⟨⟨ma, mc, runes s⟩, ⟨la, lc, runes s⟩⟩, rfl, ⟨at_made hm7 (by omega), GSl.at_ext (at_made hm1 (by omega)) e17⟩, ?_⟩
    rintro x w8 ⟨hx, e8⟩
    simp only [decide_true] at hx
    subst hx
    refine bcase_mk (fun h => by cases h) (fun _ => ?_)
    have e28 := ((((e3.trans e4).trans e5).trans e6).trans hm7.ext).trans e8
    refine ⟨s, rfl, ⟨hU2.ext e28, by omega⟩, ?_⟩
    rintro x w9 ⟨rfl, e9⟩
    refine bcase_mk (fun h => ⟨(), by rw [valid_text h]; simp, e28.trans e9⟩) (fun _ => ⟨(), rfl, e28.trans e9⟩)
  intro _ _ w3 e3
  have hU3 := hU2.ext e3
  refine ⟨s, rfl, ⟨hU3, by omega⟩, ?_⟩
  rintro ⟨ba, bn, bc⟩ w4 ⟨hbn, hm4⟩
  dsimp only at hbn hm4 ⊢
  subst hbn
  have hU4 := hU3.ext hm4.ext
  refine ⟨⟨s, rfl, ⟨hU4, by omega⟩, ?_⟩, ?_⟩
  · rintro x w5 ⟨rfl, e5⟩
    have hb : (((badL s).length : Int) == (0 : Int)) = validB s := by
      have := badL_nil s
      cases hv : validB s
      · rw [hv] at this
        have h0 : (badL s).length ≠ 0 := fun h => by have := this.1 (List.eq_nil_of_length_eq_zero h); cases this
        simp only [beq_eq_false_iff_ne, ne_eq]; omega
      · rw [this.2 hv]; rfl
    refine bcase_mk (fun h => by rw [hb] at h; simp at h) (fun _ => ?_)
    refine ⟨s, rfl, ⟨hU4.ext e5, by omega⟩, ?_⟩
    rintro x w6 ⟨rfl, e6⟩
    exact ⟨(), by rw [hrl]; simp, e5.trans e6⟩
  intro _ _ w5 e5
  have hU5 := hU4.ext e5
  have e15 := ((e2.trans e3).trans hm4.ext).trans e5
  refine ⟨⟨0, rfl, rfl, Nat.zero_le _, Ext.refl _⟩, ?_⟩
  rintro _ n w6 ⟨hn, e6⟩
  have hU6 := hU5.ext e6
  have hpl := pos_le s n
  refine bcase_mk (fun h => ?_) (fun _ => ?_)
  · simp only [Bool.and_eq_true, decide_eq_true_eq] at h
    have hnc : n < cnt s := by omega
    have hp := cnt_lt.1 hnc
    refine ⟨_, rfl, hpl, Nat.le_refl _, _, rfl, ⟨hU6, by rw [size_ext (Nat.le_refl _)]; omega⟩, ?_⟩
    rintro ⟨r, m⟩ w7 ⟨_, hm, e7⟩
    dsimp only at hm ⊢
    rw [(drop_next hnc).1] at hm
    subst hm
    have := dcN_le hp
    refine ⟨inr_i64 (by omega) (by omega), inr_i64 (by omega) (by omega), n + 1, by simp, ?_, ⟨hnc, e6.trans e7⟩, by omega⟩
    rw [pos_succ hp]; simp
  refine bcase_mk (fun h => by simp only [gt_iff_lt, decide_eq_true_eq] at h; omega) (fun _ => ?_)
  have hc1 := cnt_take hn
  have hc2 := cnt_drop hn
  have hz1 : (s.extract 0 (pos s n)).size ≤ 67108864 := by rw [size_ext hpl]; omega
  have hz2 : (s.extract (pos s n) s.size).size ≤ 67108864 := by rw [size_ext (Nat.le_refl _)]; omega
  refine ⟨_, rfl, Nat.zero_le _, hpl, _, rfl, ⟨hU6, hz1⟩, ?_⟩
  rintro ⟨aa, an, ac⟩ w7 ⟨han, hm7⟩
  dsimp only at han hm7 ⊢
  have hU7 := hU6.ext hm7.ext
  refine ⟨_, rfl, hpl, Nat.le_refl _, _, rfl, ⟨hU7, hz2⟩, ?_⟩
  rintro ⟨da, dn, dc⟩ w8 ⟨hdn, hm8⟩
  dsimp only at hdn hm8 ⊢
  rintro w9 hd
  have hU9 := (hU7.ext hm8.ext).ext hd.ext
  have hm9 := (hm7.later hm8.ext).later hd.ext
  have hrla := runes_len (s.extract 0 (pos s n))
  have hrld := runes_len (s.extract (pos s n) s.size)
  obtain ⟨a2, c2, w10, hr, hko, hrow, hg, hor, _⟩ := hm9.row.pushS (P := Tryd.prog) (ty := 26) (sa := da) (cx := dc) elem32 (by decide) (m := dn) (news := (runes (s.extract (pos s n) s.size)).map (Value.int .i32)) (by simp [hdn]) (hm8.row.cells.ext hd.ext) (one_ints _ _) (by unfold maxLen; omega) (.inr (by omega))
  have hfr : Fr (slN (.slice aa an ac)) w9 w10 := (Fr.grown hg).mono fun b _ hb => by
    cases aa with
    | none => cases hb
    | some p => exact (Option.some.inj (show some p.block = some b from hb)).symm
  have e16 : Ext w1 w6 := e15.trans e6
  have e19 : Ext w1 w9 := ((e16.trans hm7.ext).trans hm8.ext).trans hd.ext
  have hsl : ∀ q, slN (.slice aa an ac) q → w6.heap.size ≤ q := fun q hq => by
    cases aa with
    | none => cases hq
    | some p => cases hq; exact hm7.new _ rfl
  have e010 : Ext w1 w10 := Ext.fr_new e19 hfr fun q hq => Nat.le_trans e16.size (hsl q hq)
  have hU10 : U8 w10 := hU1.ext e010
  rw [← List.map_append, runes_split hn] at hrow
  have hlen : an + dn = (runes s).length := by omega
  rw [hlen] at hrow ⊢
  refine ⟨a2, c2, w10, by rw [← hlen]; exact hr, hko, hfr, ⟨⟨a2, c2, runes s⟩, ⟨la, lc, runes s⟩⟩, rfl, ⟨⟨hrow.cells, by dsimp only; omega⟩, GSl.at_ext (at_made hm1 (by omega)) e010⟩, ?_⟩
  rintro x w11 ⟨hx, e11⟩
  simp only [decide_true] at hx
  subst hx
  have hU11 := hU10.ext e11
  refine bcase_mk (fun _ => ?_) (fun h => by cases h)
  refine ⟨_, rfl, Nat.zero_le _, hpl, _, rfl, hpl, Nat.le_refl _, _, rfl, ⟨hU11, hz1⟩, ?_⟩
  rintro x w12 ⟨rfl, e12⟩
  refine ⟨Fr.of_ext e12, _, rfl, ⟨hU11.ext e12, hz2⟩, ?_⟩
  rintro x w13 ⟨rfl, e13⟩
  refine ⟨Fr.of_ext e13, inr_i64 (by omega) (by omega), ?_⟩
  refine bcase_mk (fun _ => ?_) (fun h => by simp only [beq_eq_false_iff_ne, ne_eq] at h; omega)
  refine ⟨(), rfl, (hU11.ext e12).ext e13, ?_⟩
  rintro _ w14 e14
  exact ⟨(), rfl, hm1.ext.trans ((((e010.trans e11).trans e12).trans e13).trans e14)⟩

end Go.Proofs.YthkcphnkllnfcaaDoor
