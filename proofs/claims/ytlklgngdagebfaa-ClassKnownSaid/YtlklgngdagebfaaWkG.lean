/-
  Chapter 2: what a table says of a number, by the functions; the chapter's examples.
-/
import Derived.Test.YtlklgngdagebfaaWkF
import Derived.Test.YtlklgngdagebfaaVgD
set_option linter.unusedVariables false
set_option linter.unusedSimpArgs false
namespace Go.Proofs.Ytlklgngdagebfaa
open Go Go.RowKit Vc Tb

theorem wid_range (r : Int) : 0 ≤ widR r ∧ widR r ≤ 3 := by
  have := wid_small (r := r) (wid_tab.find (known_is r).1)
  rw [wid_look]
  exact this
theorem is_wid {r x : Int} (h : x = wideR r false) : (x ≠ 1 → x = widR r) ∧ (x = 1 → wideR r true = 2 → widR r = 3) ∧ (x = 1 → wideR r true ≠ 2 → widR r = 1) := by
  have hw := wid_range r
  unfold wideR at *
  by_cases h3 : widR r < 3
  · rw [if_pos h3] at h ⊢
    refine ⟨fun _ => h, fun h1 h2 => ?_, fun h1 _ => ?_⟩ <;> omega
  · rw [if_neg h3] at h ⊢
    simp at h
    refine ⟨fun h1 => absurd h h1, fun _ _ => by omega, fun _ h2 => absurd rfl h2⟩

theorem is_ok : sIs.Ok Try.prog 31 := by
  refine is_vc ⟨ckind_ok, cdir_ok, cwide_ok, cmark_ok, cjoin_ok, cbrk_ok, trivial⟩ ?_
  rintro ⟨t, r⟩ w _
  dsimp only
  refine bcase_mk (fun h => ?_) (fun h0 => ?_)
  · have h : t = 0 := by simpa using h
    subst h
    refine ⟨r, rfl, trivial, ?_⟩
    rintro _ w1 ⟨rfl, e1⟩
    have := kindR_bd r
    exact ⟨inr_i64 (by omega) (by omega), _, rfl, rfl, e1⟩
  have h0 : t ≠ 0 := by simpa using h0
  refine bcase_mk (fun h => ?_) (fun h1 => ?_)
  · have h : t = 1 := by simpa using h
    subst h
    refine ⟨r, rfl, trivial, ?_⟩
    rintro _ w1 ⟨rfl, e1⟩
    have := dirR_bd r
    exact ⟨inr_i64 (by omega) (by omega), _, rfl, rfl, e1⟩
  have h1 : t ≠ 1 := by simpa using h1
  refine bcase_mk (fun h => ?_) (fun h2 => ?_)
  · have h : t = 2 := by simpa using h
    subst h
    have hI : isF 2 r = widR r := rfl
    rw [hI]
    refine ⟨(r, false), rfl, trivial, ?_⟩
    rintro x w1 ⟨hx, e1⟩
    obtain ⟨f1, f2, f3⟩ := is_wid hx
    refine bcase_mk (fun h => ?_) (fun h => ⟨x, rfl, f1 (by simpa using h), e1⟩)
    have h : x = 1 := by simpa using h
    refine ⟨(r, true), rfl, trivial, ?_⟩
    rintro y w2 ⟨hy, e2⟩
    refine bcase_mk (fun h2 => ⟨3, rfl, ?_, e1.trans e2⟩) (fun h2 => ⟨x, rfl, ?_, e1.trans e2⟩)
    · exact (f2 h (by rw [← hy]; simpa using h2)).symm
    · rw [f3 h (by rw [← hy]; simpa using h2), h]
  have h2 : t ≠ 2 := by simpa using h2
  refine bcase_mk (fun h => ?_) (fun h3 => ?_)
  · have h : t = 3 := by simpa using h
    subst h
    refine ⟨r, rfl, trivial, ?_⟩
    rintro _ w1 ⟨rfl, e1⟩
    have := markR_bd r
    exact ⟨inr_i64 (by omega) (by omega), _, rfl, rfl, e1⟩
  have h3 : t ≠ 3 := by simpa using h3
  refine bcase_mk (fun h => ?_) (fun h4 => ?_)
  · have h : t = 4 := by simpa using h
    subst h
    refine ⟨r, rfl, trivial, ?_⟩
    rintro _ w1 ⟨rfl, e1⟩
    have := joinR_bd r
    exact ⟨inr_i64 (by omega) (by omega), _, rfl, rfl, e1⟩
  have h4 : t ≠ 4 := by simpa using h4
  refine ⟨r, rfl, trivial, ?_⟩
  rintro _ w1 ⟨rfl, e1⟩
  have := brkR_bd r
  refine ⟨inr_i64 (by omega) (by omega), _, rfl, ?_, e1⟩
  unfold isF
  rw [if_neg h0, if_neg h1, if_neg h2, if_neg h3, if_neg h4]

/-- The table of each number. -/
theorem tab_of {t : Int} (h0 : 0 ≤ t) (h5 : t ≤ 5) : ∃ T, TabOk T ∧ apartB (segsF T 300 0) = true ∧ lenS (segsF T 300 0) = 1112064 ∧ (∀ p ∈ segsF T 300 0, -1 ≤ p.2.2 ∧ p.2.2 < 261) ∧ (∀ v, spansT t v = pick v (segsF T 300 0)) ∧ ∀ r, isF t r = (findF T (knownF r)).1 := by
  have ht : t = 0 ∨ t = 1 ∨ t = 2 ∨ t = 3 ∨ t = 4 ∨ t = 5 := by omega
  rcases ht with rfl | rfl | rfl | rfl | rfl | rfl
  · have h := kind_segs
    simp only [Bool.and_eq_true, decide_eq_true_eq, List.all_eq_true] at h
    exact ⟨kindT, kind_tab, h.1.1, h.1.2, h.2, fun _ => rfl, kind_look⟩
  · have h := dir_segs
    simp only [Bool.and_eq_true, decide_eq_true_eq, List.all_eq_true] at h
    exact ⟨dirT, dir_tab, h.1.1, h.1.2, h.2, fun _ => rfl, dir_look⟩
  · have h := wid_segs
    simp only [Bool.and_eq_true, decide_eq_true_eq, List.all_eq_true] at h
    exact ⟨widT, wid_tab, h.1.1, h.1.2, h.2, fun _ => rfl, wid_look⟩
  · have h := mark_segs
    simp only [Bool.and_eq_true, decide_eq_true_eq, List.all_eq_true] at h
    exact ⟨markT, mark_tab, h.1.1, h.1.2, h.2, fun _ => rfl, mark_look⟩
  · have h := join_segs
    simp only [Bool.and_eq_true, decide_eq_true_eq, List.all_eq_true] at h
    exact ⟨joinT, join_tab, h.1.1, h.1.2, h.2, fun _ => rfl, join_look⟩
  · have h := brk_segs
    simp only [Bool.and_eq_true, decide_eq_true_eq, List.all_eq_true] at h
    exact ⟨brkT, brk_tab, h.1.1, h.1.2, h.2, fun _ => rfl, brk_look⟩
theorem tab_none {t : Int} (h : t < 0 ∨ 5 < t) (v : Int) : spansT t v = [] := by
  unfold spansT
  rw [if_neg (by omega), if_neg (by omega), if_neg (by omega), if_neg (by omega), if_neg (by omega), if_neg (by omega)]

theorem lawKnown_ok : sWorks.Ok Try.prog 10 := by
  refine lawKnown_vc ⟨pair_ok, spans_ok, ckind_ok, cdir_ok, cwide_ok, cmark_ok, cjoin_ok, cbrk_ok, mirror_ok, works_ok, trivial⟩ ?_
  intro _ w0 _
  refine ⟨?_, ?_⟩
  · have E := Ext.refl w0
    refine ⟨(65), rfl, trivial, ?_⟩
    rintro _ w' ⟨rfl, e⟩
    have E := E.trans e
    refine bcase_mk (fun _ => ?_) (fun h => absurd h (by decide +kernel))
    refine ⟨(0), rfl, trivial, ?_⟩
    rintro _ w' ⟨rfl, e⟩
    have E := E.trans e
    refine bcase_mk (fun _ => ?_) (fun h => absurd h (by decide +kernel))
    refine ⟨(769), rfl, trivial, ?_⟩
    rintro _ w' ⟨rfl, e⟩
    have E := E.trans e
    refine bcase_mk (fun _ => ?_) (fun h => absurd h (by decide +kernel))
    refine ⟨(-1), rfl, trivial, ?_⟩
    rintro _ w' ⟨rfl, e⟩
    have E := E.trans e
    refine bcase_mk (fun _ => ?_) (fun h => absurd h (by decide +kernel))
    refine ⟨(55296), rfl, trivial, ?_⟩
    rintro _ w' ⟨rfl, e⟩
    have E := E.trans e
    refine bcase_mk (fun _ => ?_) (fun h => absurd h (by decide +kernel))
    refine ⟨(1114112), rfl, trivial, ?_⟩
    rintro _ w' ⟨rfl, e⟩
    have E := E.trans e
    exact ⟨(), congrArg Value.bool (by decide +kernel), E⟩
  rintro _ _ w1 a1
  refine ⟨?_, ?_⟩
  · have E := Ext.refl w1
    refine ⟨(65), rfl, trivial, ?_⟩
    rintro _ w' ⟨rfl, e⟩
    have E := E.trans e
    refine bcase_mk (fun _ => ?_) (fun h => absurd h (by decide +kernel))
    refine ⟨(1575), rfl, trivial, ?_⟩
    rintro _ w' ⟨rfl, e⟩
    have E := E.trans e
    refine bcase_mk (fun _ => ?_) (fun h => absurd h (by decide +kernel))
    refine ⟨(51), rfl, trivial, ?_⟩
    rintro _ w' ⟨rfl, e⟩
    have E := E.trans e
    refine bcase_mk (fun _ => ?_) (fun h => absurd h (by decide +kernel))
    refine ⟨(1635), rfl, trivial, ?_⟩
    rintro _ w' ⟨rfl, e⟩
    have E := E.trans e
    refine bcase_mk (fun _ => ?_) (fun h => absurd h (by decide +kernel))
    refine ⟨(46), rfl, trivial, ?_⟩
    rintro _ w' ⟨rfl, e⟩
    have E := E.trans e
    refine bcase_mk (fun _ => ?_) (fun h => absurd h (by decide +kernel))
    refine ⟨(40), rfl, trivial, ?_⟩
    rintro _ w' ⟨rfl, e⟩
    have E := E.trans e
    refine bcase_mk (fun _ => ?_) (fun h => absurd h (by decide +kernel))
    refine ⟨(8295), rfl, trivial, ?_⟩
    rintro _ w' ⟨rfl, e⟩
    have E := E.trans e
    exact ⟨(), congrArg Value.bool (by decide +kernel), E⟩
  rintro _ _ w2 a2
  refine ⟨?_, ?_⟩
  · have E := Ext.refl w2
    refine ⟨(65, true), rfl, trivial, ?_⟩
    rintro _ w' ⟨rfl, e⟩
    have E := E.trans e
    refine bcase_mk (fun _ => ?_) (fun h => absurd h (by decide +kernel))
    refine ⟨(945, false), rfl, trivial, ?_⟩
    rintro _ w' ⟨rfl, e⟩
    have E := E.trans e
    refine bcase_mk (fun _ => ?_) (fun h => absurd h (by decide +kernel))
    refine ⟨(945, true), rfl, trivial, ?_⟩
    rintro _ w' ⟨rfl, e⟩
    have E := E.trans e
    refine bcase_mk (fun _ => ?_) (fun h => absurd h (by decide +kernel))
    refine ⟨(769, true), rfl, trivial, ?_⟩
    rintro _ w' ⟨rfl, e⟩
    have E := E.trans e
    refine bcase_mk (fun _ => ?_) (fun h => absurd h (by decide +kernel))
    refine ⟨(57344, true), rfl, trivial, ?_⟩
    rintro _ w' ⟨rfl, e⟩
    have E := E.trans e
    refine bcase_mk (fun _ => ?_) (fun h => absurd h (by decide +kernel))
    refine ⟨(-7, true), rfl, trivial, ?_⟩
    rintro _ w' ⟨rfl, e⟩
    have E := E.trans e
    exact ⟨(), congrArg Value.bool (by decide +kernel), E⟩
  rintro _ _ w3 a3
  refine ⟨60, rfl, trivial, ?_⟩
  rintro _ w4 ⟨rfl, a4⟩
  refine ⟨?_, ?_⟩
  · have E := Ext.refl w4
    refine ⟨(803), rfl, trivial, ?_⟩
    rintro _ w' ⟨rfl, e⟩
    have E := E.trans e
    refine bcase_mk (fun _ => ?_) (fun h => absurd h (by decide +kernel))
    refine ⟨(1468), rfl, trivial, ?_⟩
    rintro _ w' ⟨rfl, e⟩
    have E := E.trans e
    refine bcase_mk (fun _ => ?_) (fun h => absurd h (by decide +kernel))
    refine ⟨(65), rfl, trivial, ?_⟩
    rintro _ w' ⟨rfl, e⟩
    have E := E.trans e
    refine bcase_mk (fun _ => ?_) (fun h => absurd h (by decide +kernel))
    refine ⟨(1611), rfl, trivial, ?_⟩
    rintro _ w' ⟨rfl, e⟩
    have E := E.trans e
    refine bcase_mk (fun _ => ?_) (fun h => absurd h (by decide +kernel))
    refine ⟨(8204), rfl, trivial, ?_⟩
    rintro _ w' ⟨rfl, e⟩
    have E := E.trans e
    refine bcase_mk (fun _ => ?_) (fun h => absurd h (by decide +kernel))
    refine ⟨(7), rfl, trivial, ?_⟩
    rintro _ w' ⟨rfl, e⟩
    have E := E.trans e
    refine bcase_mk (fun _ => ?_) (fun h => absurd h (by decide +kernel))
    refine ⟨(10), rfl, trivial, ?_⟩
    rintro _ w' ⟨rfl, e⟩
    have E := E.trans e
    refine bcase_mk (fun _ => ?_) (fun h => absurd h (by decide +kernel))
    refine ⟨60, rfl, trivial, ?_⟩
    rintro _ w' ⟨rfl, e⟩
    have E := E.trans e
    refine bcase_mk (fun _ => ?_) (fun h => absurd h (by decide +kernel))
    exact ⟨(), congrArg Value.bool (by decide +kernel), E⟩
  rintro _ _ w5 a5
  refine ⟨(77, 0), rfl, trivial, ?_⟩
  rintro ⟨_, n6, _⟩ w6 ⟨h6, m6⟩
  dsimp only at h6 m6 ⊢
  refine bcase_mk (fun _ => ?_) (fun h => by rw [h6, show (spansT 77 0).length = 0 from by decide +kernel] at h; cases h)
  refine ⟨(4, 9), rfl, trivial, ?_⟩
  rintro ⟨_, n7, _⟩ w7 ⟨h7, m7⟩
  dsimp only at h7 m7 ⊢
  refine bcase_mk (fun _ => ?_) (fun h => by rw [h7, show (spansT 4 9).length = 0 from by decide +kernel] at h; cases h)
  refine ⟨(), rfl, trivial, ?_⟩
  rintro _ w8 e8
  exact ⟨(), rfl, ((((((a1.trans a2).trans a3).trans a4).trans a5).trans m6.ext).trans m7.ext).trans e8⟩

end Go.Proofs.Ytlklgngdagebfaa
