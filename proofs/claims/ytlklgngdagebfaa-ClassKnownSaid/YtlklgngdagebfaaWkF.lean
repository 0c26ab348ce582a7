/-
  Chapter 2: the laws that hold the program against the document.
-/
import Derived.Test.YtlklgngdagebfaaWkE
import Derived.Test.YtlklgngdagebfaaVgC
import Derived.Test.YtlklgngdagebfaaGi
import Derived.Lib.TrimU
set_option linter.unusedVariables false
set_option linter.unusedSimpArgs false
namespace Go.Proofs.Ytlklgngdagebfaa
open Go Go.RowKit Vc Tb

theorem segs_len (T : List (Int × Int)) : ∀ (f : Nat) (r : Int), (segsF T f r).length ≤ f
  | 0, _ => by simp [segsF]
  | f + 1, r => by
    unfold segsF
    split
    · rw [List.length_cons]; have := segs_len T f (nxtF (capF r (findF T r).2)); omega
    · simp
theorem spansF_len (T : List (Int × Int)) (v : Int) : (spansF T v).length ≤ 300 := by
  unfold spansF pick
  exact Nat.le_trans (List.length_filterMap_le _ _) (segs_len T 300 0)
theorem spansT_len (t v : Int) : (spansT t v).length ≤ 300 := by
  unfold spansT
  repeat' split
  all_goals first | exact spansF_len _ _ | exact Nat.zero_le _

/-- How each closed example comes out. -/
theorem works_val : kindR 97 = 3 ∧ dirR 1488 = 1 ∧ wideR 19968 false = 2 ∧ markR 769 = 230 ∧ joinR 1576 = 2 ∧ brkR 32 = 1 ∧ mirF 40 = 41 ∧ pairF 41 = (40, false, true) ∧ (spansT 4 3).length = 2 ∧ (spansT 4 3)[1]? = some (8205, 8205) := by decide +kernel

theorem works_ok : sWorks.Ok Try.prog 23 := by
  refine works_vc ⟨pair_ok, spans_ok, ckind_ok, cdir_ok, cwide_ok, cmark_ok, cjoin_ok, cbrk_ok, mirror_ok, trivial⟩ ?_
  obtain ⟨v1, v2, v3, v4, v5, v6, v7, v8, v9, v10⟩ := works_val
  intro _ w _
  refine ⟨41, rfl, trivial, ?_⟩
  rintro x w1 ⟨rfl, e1⟩
  refine ⟨(4, 3), rfl, trivial, ?_⟩
  rintro ⟨a, n, c⟩ w2 ⟨hn, hm⟩
  dsimp only at hn hm ⊢
  refine ⟨97, rfl, trivial, ?_⟩
  rintro _ w3 ⟨rfl, e3⟩
  refine bcase_mk (fun _ => ?_) (fun h => by rw [v1] at h; cases h)
  refine ⟨1488, rfl, trivial, ?_⟩
  rintro _ w4 ⟨rfl, e4⟩
  refine bcase_mk (fun _ => ?_) (fun h => by rw [v2] at h; cases h)
  refine ⟨(19968, false), rfl, trivial, ?_⟩
  rintro _ w5 ⟨rfl, e5⟩
  refine bcase_mk (fun _ => ?_) (fun h => by rw [v3] at h; cases h)
  refine ⟨769, rfl, trivial, ?_⟩
  rintro _ w6 ⟨rfl, e6⟩
  refine bcase_mk (fun _ => ?_) (fun h => by rw [v4] at h; cases h)
  refine ⟨1576, rfl, trivial, ?_⟩
  rintro _ w7 ⟨rfl, e7⟩
  refine bcase_mk (fun _ => ?_) (fun h => by rw [v5] at h; cases h)
  refine ⟨32, rfl, trivial, ?_⟩
  rintro _ w8 ⟨rfl, e8⟩
  refine bcase_mk (fun _ => ?_) (fun h => by rw [v6] at h; cases h)
  refine ⟨40, rfl, trivial, ?_⟩
  rintro _ w9 ⟨rfl, e9⟩
  refine bcase_mk (fun _ => ?_) (fun h => by rw [v7] at h; cases h)
  refine bcase_mk (fun _ => ?_) (fun h => by rw [v8] at h; cases h)
  refine bcase_mk (fun _ => ?_) (fun h => by rw [v8] at h; cases h)
  refine bcase_mk (fun _ => ?_) (fun h => by rw [v8] at h; cases h)
  rw [v9] at hn
  subst hn
  refine bcase_mk (fun _ => ?_) (fun h => by cases h)
  have hm9 := hm.later ((((((e3.trans e4).trans e5).trans e6).trans e7).trans e8).trans e9)
  refine ⟨1, rfl, by decide, hm9.row.cells.elem (k := 1) (s := 2) (by decide) (by rw [spV_len, v9]; decide) fun b o hb => ⟨8205, ?_, 8205, ?_, (), rfl, e1.trans hm9.ext⟩⟩
  · exact hb 0 _ (by rw [flat_at (f := spV) (s := 2) (fun _ => rfl) v10 (by omega)]; rfl)
  · exact hb 1 _ (by rw [flat_at (f := spV) (s := 2) (fun _ => rfl) v10 (by omega)]; rfl)

theorem lawTells_ok : sLawRB.Ok Try.prog 3 := by
  refine lawTells_vc ⟨ckind_ok, rkind_ok, cdir_ok, rdir_ok, cwide_ok, rwide_ok, cmark_ok, rmark_ok, cjoin_ok, rjoin_ok, cbrk_ok, rbrk_ok, works_ok, trivial⟩ ?_
  rintro ⟨r, b⟩ w _
  refine ⟨r, rfl, trivial, ?_⟩
  rintro _ w1 ⟨rfl, e1⟩
  refine ⟨r, rfl, trivial, ?_⟩
  rintro _ _ ⟨rfl, rfl⟩
  refine bcase_mk (fun _ => ?_) (fun h => by simp at h)
  refine ⟨r, rfl, trivial, ?_⟩
  rintro _ w2 ⟨rfl, e2⟩
  refine ⟨r, rfl, trivial, ?_⟩
  rintro _ _ ⟨rfl, rfl⟩
  refine bcase_mk (fun _ => ?_) (fun h => by simp at h)
  refine ⟨(r, b), rfl, trivial, ?_⟩
  rintro _ w3 ⟨rfl, e3⟩
  refine ⟨(r, b), rfl, trivial, ?_⟩
  rintro _ _ ⟨rfl, rfl⟩
  refine bcase_mk (fun _ => ?_) (fun h => by simp at h)
  refine ⟨r, rfl, trivial, ?_⟩
  rintro _ w4 ⟨rfl, e4⟩
  refine ⟨r, rfl, trivial, ?_⟩
  rintro _ _ ⟨rfl, rfl⟩
  refine bcase_mk (fun _ => ?_) (fun h => by simp at h)
  refine ⟨r, rfl, trivial, ?_⟩
  rintro _ w5 ⟨rfl, e5⟩
  refine ⟨r, rfl, trivial, ?_⟩
  rintro _ _ ⟨rfl, rfl⟩
  refine bcase_mk (fun _ => ?_) (fun h => by simp at h)
  refine ⟨r, rfl, trivial, ?_⟩
  rintro _ w6 ⟨rfl, e6⟩
  refine ⟨r, rfl, trivial, ?_⟩
  rintro _ _ ⟨rfl, rfl⟩
  refine bcase_mk (fun _ => ?_) (fun h => by simp at h)
  refine ⟨(), rfl, trivial, ?_⟩
  rintro _ w7 e7
  exact ⟨(), rfl, (((((e1.trans e2).trans e3).trans e4).trans e5).trans e6).trans e7⟩

theorem lawMirrors_ok : sLawR.Ok Try.prog 4 := by
  refine lawMirrors_vc ⟨pair_ok, rpair_ok, mirror_ok, rmirror_ok, works_ok, trivial⟩ ?_
  intro r w _
  refine ⟨r, rfl, trivial, ?_⟩
  rintro _ w1 ⟨rfl, e1⟩
  refine ⟨r, rfl, trivial, ?_⟩
  rintro _ w2 ⟨rfl, e2⟩
  refine ⟨r, rfl, trivial, ?_⟩
  rintro _ w3 ⟨rfl, e3⟩
  refine ⟨r, rfl, trivial, ?_⟩
  rintro _ w4 ⟨rfl, e4⟩
  refine bcase_mk (fun _ => ?_) (fun h => by simp at h)
  refine bcase_mk (fun _ => ?_) (fun h => by simp at h)
  refine bcase_mk (fun _ => ?_) (fun h => by simp at h)
  refine bcase_mk (fun _ => ?_) (fun h => by simp at h)
  refine ⟨(), rfl, trivial, ?_⟩
  rintro _ w5 e5
  exact ⟨(), rfl, (((e1.trans e2).trans e3).trans e4).trans e5⟩

theorem decodeN_le4 (n b0 b1 b2 b3 : Nat) : (Lib.decodeN n b0 b1 b2 b3).2 ≤ 4 := by
  unfold Lib.decodeN
  repeat' split
  all_goals simp only
  all_goals omega
theorem dcN_le4 (s : ByteArray) (i : Nat) : dcN s i ≤ 4 := by
  unfold dcN; rw [Lib.decode_at]; exact decodeN_le4 _ _ _ _ _

theorem lawTexts_ok : sLawTx.Ok Try.prog 5 := by
  refine lawTexts_vc ⟨lawTells_ok, lawMirrors_ok, works_ok, trivial⟩ ?_
  rintro ⟨s, ⟨ad, c, xs⟩, bb⟩ w ⟨hc, hlen⟩
  dsimp only at hc hlen ⊢
  intro b w1 hn
  have e1 := hn.ext
  have hsz := hn.size
  refine ⟨⟨0, Nat.zero_le _, Fr.refl _ _, rfl, hn.heap⟩, ?_⟩
  rintro _ i w2 ⟨hi, hf, _, hh⟩
  change w2.heap[b]? = _ at hh
  refine ⟨s, i, hh, ?_⟩
  refine bcase_mk (fun h => ?_) (fun h => ?_)
  · have hlt : i < s.size := by simpa using h
    intro w3 hx
    refine ⟨⟨(dcR s i, bb), rfl, trivial, fun _ w4 e4 => ⟨dcR s i, rfl, trivial, fun _ w5 e5 => ⟨(), rfl, e4.trans e5⟩⟩⟩, ?_⟩
    rintro _ _ w4 e4
    have h4 := dcN_le4 s i
    have hp : 1 ≤ dcN s i := Lib.width_pos s i
    refine ⟨i + dcN s i, ⟨by omega, ?_, rfl, e4.heap (hx.heap hh)⟩, by omega⟩
    refine hf.trans (T := fun q => q = b) ?_ (fun _ _ h => h)
    refine Fr.trans (T := fun q => q = b) ?_ (Fr.of_ext e4) (fun _ _ h => h)
    refine ⟨by rw [hx]; rfl, by rw [hx]; rfl, by rw [hx]; rfl, by rw [hx.size]; exact Nat.le_refl _, fun q _ hq => hx.other hq⟩
  · have e2 : Ext w w2 := Ext.fr_new e1 hf (fun q hq => by have : q = b := hq; omega)
    have hc2 := hc.ext e2
    refine ⟨⟨0, rfl, Nat.zero_le _, Ext.refl _⟩, ?_⟩
    rintro _ k w3 ⟨hk, e3⟩
    refine bcase_mk (fun h => ?_) (fun h => ?_)
    · have hlt : k < xs.length := by simp only [decide_eq_true_eq] at h; omega
      refine ⟨k, rfl, hlt, (hc2.ext e3).int hlt fun b3 o3 hb3 => ⟨_, hb3, ⟨(_, bb), rfl, trivial, fun _ w4 e4 => ⟨_, rfl, trivial, fun _ w5 e5 => ⟨(), rfl, e4.trans e5⟩⟩⟩, ?_⟩⟩
      rintro _ _ w4 e4
      exact ⟨inr_i64 (by omega) (by omega), k + 1, by simp, ⟨hlt, e3.trans e4⟩, by omega⟩
    · refine ⟨(), rfl, trivial, ?_⟩
      rintro _ w4 e4
      exact ⟨(), rfl, (e2.trans e3).trans e4⟩

theorem blkN_iff {a : Option Addr} {n c g : Nat} : blkN (.slice a n c) g ↔ blk a = some g := by
  cases a with
  | none => simp [blkN, blk]
  | some p => simp only [blkN, blk, Option.map_some, Option.some.injEq]; exact eq_comm

theorem lawSp_ok : sLawTV.Ok Try.prog 6 := by
  refine lawSp_vc ⟨rspans_ok, spans_ok, sameSp_ok, works_ok, trivial⟩ ?_
  rintro ⟨t, v⟩ w _
  dsimp only
  have hL := spansT_len t v
  generalize hl : spansT t v = l at hL
  refine ⟨(t, v), rfl, trivial, ?_⟩
  rintro ⟨xa, xn, xc⟩ w1 ⟨hxn, mx⟩
  refine ⟨(t, v), rfl, trivial, ?_⟩
  rintro ⟨ya, yn, yc⟩ w2 ⟨hyn, my⟩
  refine ⟨(t, v), rfl, trivial, ?_⟩
  rintro ⟨za, zn, zc⟩ w3 ⟨hzn, mz⟩
  dsimp only at hxn mx hyn my hzn mz ⊢
  rw [hl] at hxn mx hyn my hzn mz
  subst hxn hyn hzn
  have e23 := mz.ext
  have e13 := my.ext.trans e23
  have cx := mx.row.cells
  have cy := my.row.cells
  have cz := mz.row.cells
  refine ⟨?_, ?_⟩
  · refine ⟨⟨ya, yc, l, xa, xc, l⟩, rfl, ⟨cy.ext e23, cx.ext e13, by dsimp only; omega⟩, ?_⟩
    rintro q w4 ⟨hq, e4⟩
    simp only [decide_true] at hq
    subst hq
    refine bcase_mk (fun h => by cases h) (fun _ => ?_)
    refine ⟨⟨za, zc, l, xa, xc, l⟩, rfl, ⟨cz.ext e4, (cx.ext e13).ext e4, by dsimp only; omega⟩, ?_⟩
    rintro q w5 ⟨hq, e5⟩
    simp only [decide_true] at hq
    subst hq
    exact ⟨(), rfl, e4.trans e5⟩
  rintro _ _ w4 e4
  have ry : Row w4 38 2 ya l.length (l.flatMap spV) yc := my.row.ext (e23.trans e4)
  refine ⟨⟨0, rfl, Nat.zero_le _, ⟨ya, yc, _, rfl, ry⟩, Fr.refl _ _⟩, ?_⟩
  rintro _ i w5 ⟨hi, ⟨a8, c8, vs, he, hrow⟩, hf⟩
  injection he with h1 _ h3
  subst h1 h3
  refine bcase_mk (fun h => ?_) (fun _ => ?_)
  · have hlt : i < l.length := by simp only [decide_eq_true_eq] at h; omega
    refine ⟨i, rfl, hlt, hrow.wr hlt fun g hg => ?_⟩
    subst hg
    have hst := Row.at_storeS (i := i * 2) hrow (by omega)
    refine ⟨rfl, hst.1, hst.2, ?_⟩
    intro w6 hs6
    have hrow6 := Row.storeS (i := i * 2) hrow hs6
    have hst6 := Row.at_storeS (i := i * 2 + 1) hrow6 (by omega)
    refine ⟨rfl, hst6.1, hst6.2, ?_⟩
    intro w7 hs7
    have hrow7 := Row.storeS (i := i * 2 + 1) hrow6 hs7
    refine ⟨inr_i64 (by omega) (by omega), i + 1, by simp, ⟨hlt, ⟨_, _, _, rfl, hrow7⟩, (hf.trans (Fr.stored hs6) (fun x _ hx => ?_)).trans (Fr.stored hs7) (fun x _ hx => ?_)⟩, by omega⟩
    · subst hx; exact blkN_iff.2 rfl
    · subst hx; exact blkN_iff.2 rfl
  intro b w6 hn6
  obtain ⟨a2, c2, w7, hr7, hk7, hrow7, hg7, hor7, _⟩ := hrow.pushN (P := Try.prog) (t := 34) (ty := 34) (m := 3) elemSp (by decide) hn6 rfl (by decide) (by unfold maxLen; omega) (.inr (by omega))
  refine ⟨a2, c2, w7, hr7, hk7, ?_⟩
  -- whose block is whose
  have sx := mx.ext.size
  have sy := my.ext.size
  have sz := mz.ext.size
  have s4 := e4.size
  have ly : ∀ g, blk ya = some g → g < w2.heap.size := fun g hg => my.row.lt hg
  have lx : ∀ g, blk xa = some g → g < w1.heap.size := fun g hg => mx.row.lt hg
  have hF : Fr (blkN (.slice ya l.length yc)) w4 w7 := by
    refine (hf.trans (Fr.new (S := blkN (.slice ya l.length yc)) hn6) (fun _ _ h => h)).trans (Fr.grown hg7) (fun x _ hx => ?_)
    exact blkN_iff.2 hx
  have cx7 : CellsAt w7 xa (l.flatMap spV) := (cx.ext (e13.trans e4)).fr hF (fun g hg h => by have := my.new g (blkN_iff.1 h); have := lx g hg; omega)
  have cz7 : CellsAt w7 za (l.flatMap spV) := (cz.ext e4).fr hF (fun g hg h => by have := ly g (blkN_iff.1 h); have := mz.new g hg; omega)
  have e07 : Ext w w7 := Ext.fr_new ((mx.ext.trans e13).trans e4) hF (fun q hq => by have := my.new q (blkN_iff.1 hq); omega)
  refine ⟨⟨za, zc, l, xa, xc, l⟩, rfl, ⟨cz7, cx7, by dsimp only; omega⟩, ?_⟩
  rintro q w8 ⟨hq, e8⟩
  simp only [decide_true] at hq
  subst hq
  refine bcase_mk (fun _ => ?_) (fun h => by cases h)
  refine ⟨(t, v), rfl, trivial, ?_⟩
  rintro ⟨ua, un, uc⟩ w9 ⟨hun, mu⟩
  dsimp only at hun mu ⊢
  rw [hl] at hun mu
  subst hun
  have e89 := mu.ext
  refine ⟨⟨ua, uc, l, xa, xc, l⟩, rfl, ⟨mu.row.cells, cx7.ext (e8.trans e89), by dsimp only; omega⟩, ?_⟩
  rintro q w10 ⟨hq, e10⟩
  simp only [decide_true] at hq
  subst hq
  refine bcase_mk (fun _ => ?_) (fun h => by cases h)
  refine ⟨inr_i64 (by omega) (by omega), ?_⟩
  refine bcase_mk (fun _ => ?_) (fun h => by simp at h)
  refine ⟨(), rfl, trivial, ?_⟩
  rintro _ w11 e11
  exact ⟨(), rfl, e07.trans (((e8.trans e89).trans e10).trans e11)⟩

end Go.Proofs.Ytlklgngdagebfaa
