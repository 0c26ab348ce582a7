/-
  Chapter 11: marks put in anywhere; the examples.
-/
import Derived.Test.YtliihpdhoimmoaaVgF
import Derived.Test.YtliihpdhoimmoaaWkH
set_option linter.unusedVariables false
set_option linter.unusedSimpArgs false
namespace Go.Proofs.Ytliihpdhoimmoaa
open Go Go.RowKit Vc Tb

theorem elem64 : ElemOk Try.prog 37 3 1 8 := elemOk_mk (.int .i64 0) (by kernel_rfl) (by kernel_rfl) rfl

theorem ownL_zero (g : GMarks) : ownL g 0 = [] := by simp [ownL]
theorem ownL_succ {g : GMarks} {i : Nat} (h : i < g.l.xs.length) : ownL g (i + 1) = ownL g i ++ [ownM g.l.xs g.at'.xs g.m i] := by
  unfold ownL
  rw [Nat.min_eq_left (by omega), Nat.min_eq_left (by omega), List.range_succ, List.map_append]; rfl
theorem ownL_end (g : GMarks) : ownL g (g.l.xs.length + 1) = ownL g g.l.xs.length := by
  unfold ownL
  rw [Nat.min_eq_right (by omega), Nat.min_eq_right (by omega)]
theorem ownL_len {g : GMarks} {i : Nat} : (ownL g i).length ≤ g.l.xs.length := by unfold ownL; simp; omega
theorem ownL_at {g : GMarks} {k : Nat} (h : k < g.l.xs.length) : (ownL g (g.l.xs.length + 1)).getD k 0 = ownM g.l.xs g.at'.xs g.m k := by
  unfold ownL
  rw [Nat.min_eq_right (by omega)]
  simp only [List.getD_eq_getElem?_getD, List.getElem?_map, List.getElem?_range h]; rfl
theorem wJ_zero (g : GMarks) (i : Nat) : wJ g i 0 = wL g i := by simp [wJ]
theorem count_step {xs : List Int} {j : Nat} (h : j < xs.length) (v : Int) : (xs.take (j + 1)).count v = (xs.take j).count v + (if xs.getD j 0 = v then 1 else 0) := by
  rw [take_succ9 h, List.count_append]
  congr 1
  by_cases h1 : xs.getD j 0 = v
  · rw [if_pos h1, h1]; simp
  · rw [if_neg h1]; simp only [List.count_singleton]; rw [if_neg (by simpa using h1)]
theorem wJ_hit {g : GMarks} {i j : Nat} (h : j < g.at'.xs.length) (hv : g.at'.xs.getD j 0 = i) : wJ g i (j + 1) = wJ g i j ++ [g.m] := by
  unfold wJ
  rw [count_step h, if_pos hv, List.replicate_succ', List.append_assoc]
theorem wJ_miss {g : GMarks} {i j : Nat} (h : j < g.at'.xs.length) (hv : g.at'.xs.getD j 0 ≠ i) : wJ g i (j + 1) = wJ g i j := by
  unfold wJ
  rw [count_step h, if_neg hv]; rfl
theorem wJ_end (g : GMarks) (i : Nat) : wJ g i g.at'.xs.length = wL g i ++ List.replicate (g.at'.xs.count (i : Int)) g.m := by
  unfold wJ; rw [List.take_length]
theorem wL_succ {g : GMarks} {i : Nat} (h : i < g.l.xs.length) : wL g (i + 1) = wJ g i g.at'.xs.length ++ [g.l.xs.getD i 0] := by
  rw [wJ_end]; unfold wL; simp only [withM, pieceM]; rw [if_pos h, List.append_assoc]
theorem wL_end (g : GMarks) : wL g (g.l.xs.length + 1) = wJ g g.l.xs.length g.at'.xs.length := by
  rw [wJ_end]; unfold wL; simp only [withM, pieceM]; rw [if_neg (by omega)]; simp
theorem own_len (g : GMarks) (i : Nat) : ((wJ g i g.at'.xs.length).length : Int) = ownM g.l.xs g.at'.xs g.m i := by
  rw [wJ_end]; unfold wL ownM; simp
theorem wJ_len (g : GMarks) (i j : Nat) : (wJ g i j).length ≤ i * (g.at'.xs.length + 1) + g.at'.xs.length := by
  have h1 := withM_len g.l.xs g.at'.xs g.m i
  have h2 := List.count_le_length (a := (i : Int)) (l := g.at'.xs.take j)
  rw [List.length_take] at h2
  unfold wJ wL; simp only [List.length_append, List.length_replicate]; omega

theorem wJ_bd {g : GMarks} {i j : Nat} (hl : g.l.xs.length ≤ 1048576) (ha : g.at'.xs.length ≤ 1048576) (hi : i ≤ g.l.xs.length + 1) : (wJ g i j).length ≤ 1099514773505 := by
  have h := wJ_len g i j
  have h2 : i * (g.at'.xs.length + 1) ≤ 1048577 * 1048577 := Nat.mul_le_mul (by omega) (by omega)
  omega

theorem TwoRows.pushW {g : GMarks} {W w w1 w2 : World} {i : Nat} {a a' oa : Option Addr} {ws : List Int} {c c' oc : Nat} {v : Int} (h : TwoRows g W w i a ws c oa oc) (hn : Ext w w1)
    (hrow : Row w2 21 1 a' (ws.length + 1) (ws.map (Value.int .i32) ++ [.int .i32 v]) c') (hg : w1.grownBy w2 (blk a)) (hor : a' = a ∨ (a' = some ⟨w1.heap.size, 0, none⟩ ∧ w1.heap.size < w2.heap.size ∧ Ext w1 w2)) :
    TwoRows g W w2 i a' (ws ++ [v]) c' oa oc := by
  obtain ⟨h1, h2, h3⟩ := h
  have h1' := (h1.later hn).grown hrow hg hor
  refine ⟨by simpa using h1', ⟨(h2.row.ext hn).grown hg (fun q hq e => h3 q e hq), h2.new, h1'.ext⟩, ?_⟩
  intro q hq hq2
  rcases hor with rfl | ⟨rfl, _⟩
  · exact h3 q hq hq2
  · simp [blk] at hq; have := (h2.row.ext hn).lt hq2; omega

theorem TwoRows.pushO {g : GMarks} {W w w1 w2 : World} {i : Nat} {a oa oa' : Option Addr} {ws : List Int} {c oc oc' : Nat} (hi : i < g.l.xs.length) (h : TwoRows g W w i a ws c oa oc) (hn : Ext w w1)
    (hrow : Row w2 3 1 oa' ((ownL g i).length + 1) ((ownL g i).map (Value.int .i64) ++ [.int .i64 (ownM g.l.xs g.at'.xs g.m i)]) oc') (hg : w1.grownBy w2 (blk oa)) (hor : oa' = oa ∨ (oa' = some ⟨w1.heap.size, 0, none⟩ ∧ w1.heap.size < w2.heap.size ∧ Ext w1 w2)) :
    TwoRows g W w2 (i + 1) a ws c oa' oc' := by
  obtain ⟨h1, h2, h3⟩ := h
  have h2' := (h2.later hn).grown hrow hg hor
  refine ⟨⟨(h1.row.ext hn).grown hg (fun q hq e => h3 q hq e), h1.new, h2'.ext⟩, by rw [ownL_succ hi]; simpa using h2', ?_⟩
  intro q hq hq2
  rcases hor with rfl | ⟨rfl, _⟩
  · exact h3 q hq hq2
  · simp [blk] at hq2; have := (h1.row.ext hn).lt hq; omega

theorem marks_ok : sLawMarks.Ok Try.prog 7 := by
  refine marks_vc ⟨works_ok, cjoin_ok, jforms_ok, trivial⟩ ?_
  rintro g w ⟨⟨hl, hl1⟩, ⟨ha, ha1⟩, hln, han⟩
  have hmk : joinR g.m = 4 := by
    unfold GMarks.m; split
    · assumption
    · decide +kernel
  refine ⟨(), rfl, trivial, ?_⟩
  rintro _ w1 hw1
  refine ⟨⟨g.mark, rfl, trivial, ?_⟩, ?_⟩
  · rintro x w2 ⟨rfl, hw2⟩
    refine bcase_mk (fun h => ⟨(), ?_, hw2⟩) (fun h => ⟨(), ?_, hw2⟩)
    · have h' : joinR g.mark ≠ 4 := by simpa using h
      rw [GMarks.m, if_neg h']
    · have h' : joinR g.mark = 4 := by simpa using h
      rw [GMarks.m, if_pos h']
  rintro _ _ w2 hw2
  refine ⟨g.l, rfl, ⟨hl.ext (hw1.trans hw2), hl1⟩, ?_⟩
  rintro ⟨fa, fn, fc⟩ w3 ⟨hfn, hf⟩
  dsimp only at hfn hf ⊢
  have hfl := formsR_len g.l.xs
  have e3 : Ext w w3 := (hw1.trans hw2).trans hf.ext
  refine ⟨⟨⟨0, none, 0, none, 0⟩, rfl, rfl, by rw [ownL_zero]; rfl, Nat.zero_le _, Made.nil _ _ _, by rw [ownL_zero]; exact Made.nil _ _ _, by simp [blk]⟩, ?_⟩
  rintro _ ⟨i, wa, wc, oa, oc⟩ w4 ⟨hi, htr⟩
  dsimp only at hi htr ⊢
  refine bcase_mk (fun h => ?_) (fun h => ?_)
  · have hi1 : i ≤ g.l.xs.length := by simpa using h
    simp only [Int.toNat_natCast]
    refine ⟨⟨(0, wa, wc), rfl, by dsimp only; rw [wJ_zero], Nat.zero_le _, i, oa, oc, wa, wc, rfl, rfl, rfl, fun W2 h => by rw [wJ_zero]; exact h⟩, ?_⟩
    rintro _ ⟨j, ja, jc⟩ w5 ⟨hj, i', oa', oc', wa', wc', hi', ho', hw', htr5⟩
    dsimp only at hj htr5 ⊢
    obtain rfl : i = i' := by omega
    obtain ⟨rfl, rfl⟩ : oa = oa' ∧ oc = oc' := by simpa using ho'
    obtain ⟨rfl, rfl⟩ : wa = wa' ∧ wc = wc' := by simpa using hw'
    have ht5 := htr5 _ htr
    have e5 : Ext w w5 := e3.trans ht5.1.ext
    have hbj := wJ_bd (g := g) (j := j) hln han hi
    refine bcase_mk (fun h => ?_) (fun h => ?_)
    · have hj1 : j < g.at'.xs.length := by simpa using h
      refine ⟨j, rfl, hj1, (ha.ext e5).int hj1 fun b o hb => ⟨_, hb, bcase_mk (fun h => ?_) (fun h => ?_)⟩⟩
      · have hv : g.at'.xs.getD j 0 = i := by simpa using h
        intro b1 w6 hn6
        obtain ⟨a', c', w7, hr, hk, hrow, hg, hor, _⟩ := ht5.1.row.pushN (P := Try.prog) (ty := 22) elem32 (by decide) (m := 1) (news := [.int .i32 g.m]) hn6 rfl (by simp [Value.oneCell']) (by unfold maxLen; omega) (.inr (by omega))
        refine ⟨a', c', w7, hr, hk, inr_i64 (by omega) (by omega), (j + 1, a', c'), by simp, by dsimp only; rw [wJ_hit hj1 hv]; simp, ⟨hj1, i, oa, oc, wa, wc, rfl, rfl, rfl, fun W2 h => ?_⟩, by dsimp only; omega⟩
        dsimp only
        rw [wJ_hit hj1 hv]
        exact (htr5 W2 h).pushW hn6.ext hrow hg hor
      · have hv : ¬ g.at'.xs.getD j 0 = i := by simpa using h
        refine ⟨inr_i64 (by omega) (by omega), (j + 1, ja, jc), by simp, by dsimp only; rw [wJ_miss hj1 hv], ⟨hj1, i, oa, oc, wa, wc, rfl, rfl, rfl, fun W2 h => ?_⟩, by dsimp only; omega⟩
        dsimp only
        rw [wJ_miss hj1 hv]
        exact htr5 W2 h
    · have hj1 : j = g.at'.xs.length := by simp only [decide_eq_false_iff_not] at h; omega
      subst hj1
      refine bcase_mk (fun h => ?_) (fun h => ?_)
      · have hi2 : i < g.l.xs.length := by simpa using h
        intro b w6 hn6
        have hol := ownL_len (g := g) (i := i)
        obtain ⟨o', p', w7, hr, hk, hrow, hg, hor, _⟩ := ht5.2.1.row.pushN (P := Try.prog) (ty := 37) elem64 (by decide) (m := 1) (news := [.int .i64 (wJ g i g.at'.xs.length).length]) hn6 rfl (by simp [Value.oneCell']) (by unfold maxLen; omega) (.inr (by omega))
        rw [own_len] at hrow
        have ht7 := ht5.pushO hi2 hn6.ext hrow hg hor
        have e7 : Ext w w7 := e3.trans ht7.1.ext
        refine ⟨o', p', w7, hr, hk, i, rfl, hi2, (hl.ext e7).int hi2 fun b1 o1 hb1 => ⟨_, hb1, fun b2 w8 hn8 => ?_⟩⟩
        obtain ⟨a', c', w9, hr9, hk9, hrow9, hg9, hor9, _⟩ := ht7.1.row.pushN (P := Try.prog) (ty := 22) elem32 (by decide) (m := 1) (news := [.int .i32 (g.l.xs.getD i 0)]) hn8 rfl (by simp [Value.oneCell']) (by unfold maxLen; omega) (.inr (by omega))
        have ht9 := ht7.pushW hn8.ext hrow9 hg9 hor9
        rw [← wL_succ hi2] at ht9
        refine ⟨a', c', w9, hr9, hk9, inr_i64 (by omega) (by omega), ⟨i + 1, a', c', o', p'⟩, by simp, by dsimp only; rw [wL_succ hi2]; simp, by dsimp only; rw [ownL_succ hi2]; simp, ⟨by dsimp only; omega, ht9⟩, by dsimp only; omega⟩
      · have hi2 : i = g.l.xs.length := by simp only [decide_eq_false_iff_not] at h; omega
        subst hi2
        refine ⟨inr_i64 (by omega) (by omega), ⟨g.l.xs.length + 1, ja, jc, oa, oc⟩, by simp, by dsimp only; rw [wL_end], by dsimp only; rw [ownL_end], ⟨by dsimp only; omega, ?_⟩, by dsimp only; omega⟩
        dsimp only
        unfold TwoRows at ht5 ⊢
        rw [wL_end, ownL_end]
        exact ht5
  · have hi1 : i = g.l.xs.length + 1 := by simp only [decide_eq_false_iff_not] at h; omega
    subst hi1
    obtain ⟨hmw, hmo, hne⟩ := htr
    have hwl : (wL g (g.l.xs.length + 1)).length ≤ 1099514773505 := by
      have := wJ_bd (g := g) (j := g.at'.xs.length) (i := g.l.xs.length) hln han (by omega)
      rw [wL_end]; exact this
    refine ⟨⟨wa, wc, wL g (g.l.xs.length + 1)⟩, rfl, ⟨hmw.row.cells, by dsimp only; omega⟩, ?_⟩
    rintro ⟨ia, n', ic⟩ w5 ⟨hin, his⟩
    dsimp only at hin his ⊢
    have hisl := formsR_len (wL g (g.l.xs.length + 1))
    refine bcase_mk (fun h => by rw [hin, hfn, hisl, hfl] at h; simp at h) (fun _ => ?_)
    have e5 : Ext w w5 := (e3.trans hmw.ext).trans his.ext
    refine ⟨⟨0, rfl, Nat.zero_le _, Ext.refl _⟩, ?_⟩
    rintro _ k w6 ⟨hk, e6⟩
    refine bcase_mk (fun h w7 hd => ?_) (fun h => ?_)
    · have hk1 : k < g.l.xs.length := by simpa using h
      obtain ⟨o, ho, hol, hof⟩ := own_form (xs := g.l.xs) (at' := g.at'.xs) hmk (n := g.l.xs.length + 1) hk1 (by omega)
      have hkl : k < (ownL g (g.l.xs.length + 1)).length := by unfold ownL; simp; omega
      refine ⟨k, rfl, hkl, (hmo.row.cells.ext (his.ext.trans e6)).int hkl fun b o1 hb => ⟨_, hb, o, ?_, ?_, (his.row.cells.ext e6).int (i := o) ?_ fun b1 o2 hb1 => ⟨_, hb1, k, rfl, by omega, (hf.row.cells.ext ((hmw.ext.trans his.ext).trans e6)).int (by omega) fun b2 o3 hb2 => ⟨_, hb2, bcase_mk (fun h => ?_) (fun _ => ?_)⟩⟩⟩⟩
      · rw [ownL_at hk1]; exact ho
      · rw [hin, hisl]; exact hol
      · rw [hisl]; exact hol
      · exfalso
        rw [formsR_at (show o < (wL g (g.l.xs.length + 1)).length from hol), formsR_at hk1] at h
        have : formR (wL g (g.l.xs.length + 1)) o = formR g.l.xs k := hof
        rw [this] at h
        simp at h
      · exact ⟨inr_i64 (by omega) (by omega), k + 1, by simp, ⟨hk1, e6.trans hd.ext⟩, by omega⟩
    · refine ⟨⟨0, rfl, Nat.zero_le _, Ext.refl _⟩, ?_⟩
      rintro _ q w7 ⟨hq, e7⟩
      refine bcase_mk (fun h => ?_) (fun h => ⟨(), rfl, (e5.trans e6).trans e7⟩)
      have hq1 : q < (wL g (g.l.xs.length + 1)).length := by simpa using h
      have e57 := Ext.trans e6 e7
      have next : InR IntKind.i64 ((q : Int) + 1) ∧ ∃ y : Nat, Value.int IntKind.i64 ((q : Int) + 1) = Value.int IntKind.i64 (y : Int) ∧ (y ≤ (wL g (g.l.xs.length + 1)).length ∧ Ext w6 w7) ∧ (wL g (g.l.xs.length + 1)).length - y < (wL g (g.l.xs.length + 1)).length - q :=
        ⟨inr_i64 (by omega) (by omega), q + 1, by simp, ⟨hq1, e7⟩, by omega⟩
      refine ⟨q, rfl, hq1, (hmw.row.cells.ext (his.ext.trans e57)).int hq1 fun b o hb => ⟨_, hb, bcase_mk (fun h => ?_) (fun _ => next)⟩⟩
      have hv : (wL g (g.l.xs.length + 1)).getD q 0 = g.m := by simpa using h
      refine ⟨q, rfl, by omega, (his.row.cells.ext e57).int (by omega) fun b1 o1 hb1 => ⟨_, hb1, bcase_mk (fun h => ?_) (fun _ => next)⟩⟩
      rw [formsR_at hq1, mark_form (by rw [hv]; exact hmk)] at h
      simp at h

theorem is_ok : sIs.Ok Try.prog 27 := by
  refine is_vc ⟨jforms_ok, same8_ok, trivial⟩ ?_
  rintro ⟨⟨fa, fc, fs⟩, ⟨la, lc, xs⟩⟩ w ⟨hf, hl⟩
  dsimp only at hf hl ⊢
  refine ⟨⟨la, lc, xs⟩, rfl, hl, ?_⟩
  rintro ⟨a, n, c⟩ w1 ⟨hn, hm⟩
  dsimp only at hn hm ⊢
  subst hn
  refine ⟨⟨⟨a, c, formsR xs⟩, ⟨fa, fc, fs⟩⟩, rfl, ⟨at_made hm (by rw [formsR_len]; exact hl.2), GSl.at_ext hf hm.ext⟩, ?_⟩
  rintro x w2 ⟨hx, hw2⟩
  exact ⟨x, rfl, hx, hm.ext.trans hw2⟩

theorem known11_ok : sYes.Ok Try.prog 9 := by
  refine known11_vc ⟨works_ok, is_ok, shape_ok, plain_ok, shaped_ok, same32_ok, trivial⟩ ?_
  intro _ w _
  refine ⟨?_, ?_⟩
  · have e := Ext.refl w
    intro b1 w1 h1 b2 w2 h2
    refine ⟨⟨⟨_, 3, [1, 2, 3]⟩, ⟨_, 3, [1576, 1576, 1576]⟩⟩, rfl, ⟨GSl.at_ext (at_box h1 rfl (by decide)) h2.ext, at_box h2 rfl (by decide)⟩, ?_⟩
    rintro x w3 ⟨hx, hw⟩
    obtain rfl : x = true := by rw [show x = decide (formsR [1576, 1576, 1576] = [1, 2, 3]) from hx]; decide +kernel
    replace e := ((e.trans h1.ext).trans h2.ext).trans hw
    refine bcase_mk (fun _ => ?_) (fun h => by cases h)
    intro b1 w1 h1 b2 w2 h2
    refine ⟨⟨⟨_, 2, [0, 0]⟩, ⟨_, 2, [1575, 1576]⟩⟩, rfl, ⟨GSl.at_ext (at_box h1 rfl (by decide)) h2.ext, at_box h2 rfl (by decide)⟩, ?_⟩
    rintro x w3 ⟨hx, hw⟩
    obtain rfl : x = true := by rw [show x = decide (formsR [1575, 1576] = [0, 0]) from hx]; decide +kernel
    replace e := ((e.trans h1.ext).trans h2.ext).trans hw
    refine bcase_mk (fun _ => ?_) (fun h => by cases h)
    intro b1 w1 h1 b2 w2 h2
    refine ⟨⟨⟨_, 3, [1, 3, 0]⟩, ⟨_, 3, [1576, 1575, 1576]⟩⟩, rfl, ⟨GSl.at_ext (at_box h1 rfl (by decide)) h2.ext, at_box h2 rfl (by decide)⟩, ?_⟩
    rintro x w3 ⟨hx, hw⟩
    obtain rfl : x = true := by rw [show x = decide (formsR [1576, 1575, 1576] = [1, 3, 0]) from hx]; decide +kernel
    replace e := ((e.trans h1.ext).trans h2.ext).trans hw
    refine bcase_mk (fun _ => ?_) (fun h => by cases h)
    intro b1 w1 h1 b2 w2 h2
    refine ⟨⟨⟨_, 3, [1, 0, 0]⟩, ⟨_, 3, [1576, 1600, 65]⟩⟩, rfl, ⟨GSl.at_ext (at_box h1 rfl (by decide)) h2.ext, at_box h2 rfl (by decide)⟩, ?_⟩
    rintro x w3 ⟨hx, hw⟩
    obtain rfl : x = true := by rw [show x = decide (formsR [1576, 1600, 65] = [1, 0, 0]) from hx]; decide +kernel
    replace e := ((e.trans h1.ext).trans h2.ext).trans hw
    refine bcase_mk (fun _ => ?_) (fun h => by cases h)
    intro b1 w1 h1 b2 w2 h2
    refine ⟨⟨⟨_, 2, [0, 3]⟩, ⟨_, 2, [8205, 1575]⟩⟩, rfl, ⟨GSl.at_ext (at_box h1 rfl (by decide)) h2.ext, at_box h2 rfl (by decide)⟩, ?_⟩
    rintro x w3 ⟨hx, hw⟩
    obtain rfl : x = true := by rw [show x = decide (formsR [8205, 1575] = [0, 3]) from hx]; decide +kernel
    replace e := ((e.trans h1.ext).trans h2.ext).trans hw
    refine bcase_mk (fun _ => ?_) (fun h => by cases h)
    intro b1 w1 h1 b2 w2 h2
    refine ⟨⟨⟨_, 3, [0, 0, 0]⟩, ⟨_, 3, [1576, 8204, 1576]⟩⟩, rfl, ⟨GSl.at_ext (at_box h1 rfl (by decide)) h2.ext, at_box h2 rfl (by decide)⟩, ?_⟩
    rintro x w3 ⟨hx, hw⟩
    obtain rfl : x = true := by rw [show x = decide (formsR [1576, 8204, 1576] = [0, 0, 0]) from hx]; decide +kernel
    exact ⟨(), rfl, ((e.trans h1.ext).trans h2.ext).trans hw⟩
  rintro _ _ w0 e0
  refine ⟨?_, ?_⟩
  · have e := Ext.refl w0
    refine ⟨(1575, 1), rfl, trivial, ?_⟩
    rintro x w1 ⟨hx, hw⟩
    obtain rfl : x = 65165 := by rw [hx]; decide +kernel
    replace e := e.trans hw
    refine bcase_mk (fun _ => ?_) (fun h => by simp at h)
    refine ⟨(1569, 3), rfl, trivial, ?_⟩
    rintro x w1 ⟨hx, hw⟩
    obtain rfl : x = 65152 := by rw [hx]; decide +kernel
    replace e := e.trans hw
    refine bcase_mk (fun _ => ?_) (fun h => by simp at h)
    refine ⟨(65, 3), rfl, trivial, ?_⟩
    rintro x w1 ⟨hx, hw⟩
    obtain rfl : x = 65 := by rw [hx]; decide +kernel
    replace e := e.trans hw
    refine bcase_mk (fun _ => ?_) (fun h => by simp at h)
    refine ⟨(1576, 9), rfl, trivial, ?_⟩
    rintro x w1 ⟨hx, hw⟩
    obtain rfl : x = 65167 := by rw [hx]; decide +kernel
    replace e := e.trans hw
    refine bcase_mk (fun _ => ?_) (fun h => by simp at h)
    refine ⟨(-1, 0), rfl, trivial, ?_⟩
    rintro x w1 ⟨hx, hw⟩
    obtain rfl : x = -1 := by rw [hx]; decide +kernel
    exact ⟨(), rfl, e.trans hw⟩
  rintro _ _ w1 e1
  intro b6 w6 hn6
  refine ⟨⟨_, 2, [1581, 1576]⟩, rfl, at_box hn6 rfl (by decide), ?_⟩
  rintro ⟨a, n, c⟩ w7 ⟨rfl, hm7⟩ b8 w8 hn8
  dsimp only at hm7 ⊢
  refine ⟨⟨⟨a, c, shapedR [1581, 1576]⟩, ⟨_, 2, [65187, 65168]⟩⟩, rfl, ⟨GSl.at_ext (at_made hm7 (by rw [shapedR_len]; decide)) hn8.ext, at_box hn8 rfl (by decide)⟩, ?_⟩
  rintro x w9 ⟨hx, hw9⟩
  obtain rfl : x = true := by rw [show x = decide (shapedR [1581, 1576] = [65187, 65168]) from hx]; decide +kernel
  have e9 : Ext w w9 := ((((e0.trans e1).trans hn6.ext).trans hm7.ext).trans hn8.ext).trans hw9
  refine bcase_mk (fun _ => ?_) (fun h => by cases h)
  refine ⟨-1, rfl, trivial, ?_⟩
  rintro ⟨a, n, c⟩ w10 ⟨rfl, hm10⟩ b11 w11 hn11
  dsimp only at hm10 ⊢
  refine ⟨⟨⟨a, c, plainR (-1)⟩, ⟨_, 1, [-1]⟩⟩, rfl, ⟨GSl.at_ext (at_made hm10 (by have := plainR_len (-1); omega)) hn11.ext, at_box hn11 rfl (by decide)⟩, ?_⟩
  rintro x w12 ⟨hx, hw12⟩
  obtain rfl : x = true := by rw [show x = decide (plainR (-1) = [-1]) from hx]; decide +kernel
  have e12 : Ext w w12 := ((e9.trans hm10.ext).trans hn11.ext).trans hw12
  refine bcase_mk (fun _ => ?_) (fun h => by cases h)
  refine ⟨⟨none, 0, []⟩, rfl, ⟨CellsAt.nil _ _, by decide⟩, ?_⟩
  rintro ⟨a, n, c⟩ w13 ⟨hn, hm13⟩
  dsimp only at hn hm13 ⊢
  rw [shapedR_len] at hn
  refine bcase_mk (fun _ => ?_) (fun h => by rw [hn] at h; simp at h)
  refine ⟨(), rfl, trivial, ?_⟩
  rintro _ w14 hw14
  exact ⟨(), rfl, (e12.trans hm13.ext).trans hw14⟩

end Go.Proofs.Ytliihpdhoimmoaa
