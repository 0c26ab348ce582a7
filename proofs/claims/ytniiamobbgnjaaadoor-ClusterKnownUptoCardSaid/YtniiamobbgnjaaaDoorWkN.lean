/-
  Chapter 3: the program's step is the document's.
-/
import Derived.Test.YtniiamobbgnjaaaDoorVgN
import Derived.Test.YtniiamobbgnjaaaDoorWkP
import Derived.Test.YtniiamobbgnjaaaDoorEl
set_option linter.unusedVariables false
set_option linter.unusedSimpArgs false
namespace Go.Proofs.YtniiamobbgnjaaaDoor
open Go Go.RowKit Vc Ut Tb Cl

theorem next_first {s : ByteArray} (h : 0 < s.size) : nextL s = pos s (firstN s 0) := by
  have h0 : 0 < ncl s := Nat.pos_of_ne_zero (fun e => by have := ncl_zero.1 e; omega)
  unfold nextL bp
  rw [bk_succ h0]
  show pos s (bk s 0 + firstN s (bk s 0)) = _
  rw [show bk s 0 = 0 from rfl, Nat.zero_add]
theorem next_zero {s : ByteArray} (h : s.size = 0) : nextL s = 0 := by
  have := bp_le s 1
  unfold nextL; omega
theorem goB0 (s : ByteArray) (n : Nat) : goB s 0 n = (decide (n < cnt s) && (decide (n < 32) && (!isBad s n && takesB (sg s 0) (sg s (n - 1)) (sg s n) n))) := by
  unfold goB; rw [Nat.zero_add]

/-- Where the run stands with n signs taken. -/
structure At (s : ByteArray) (n : Nat) : Prop where
  pos : 1 ≤ n
  cnt : n ≤ cnt s
  most : n ≤ 32
  size : 0 < s.size
  go : goN s 0 (33 - n) n = firstN s 0
theorem At.stop {s : ByteArray} {n : Nat} (h : At s n) (hg : goB s 0 n = false) : Ut.pos s n = nextL s := by
  rw [next_first h.size, ← h.go, goN_stop hg]
theorem At.next {s : ByteArray} {n : Nat} (h : At s n) (hg : goB s 0 n = true) : At s (n + 1) := by
  have h1 := goN_step hg
  rw [goB0] at hg
  simp only [Bool.and_eq_true, decide_eq_true_eq] at hg
  exact ⟨by omega, by omega, by omega, h.size, by rw [← h1.2]; exact h.go⟩
/-- What the test says: the text's end, or a bad byte. -/
theorem At.test {s : ByteArray} {n : Nat} (h : At s n) {r : Int} {k : Nat} (hr : r = nxR (s.extract (Ut.pos s n) s.size)) (hk : k = nxN (s.extract (Ut.pos s n) s.size)) (hn : n < 32) :
    (((Ut.pos s n : Int) == (s.size : Int) || r == 65533 && (k : Int) == 1) = true → goB s 0 n = false) ∧
    (((Ut.pos s n : Int) == (s.size : Int) || r == 65533 && (k : Int) == 1) = false → Ut.pos s n < s.size ∧ r = sg s n ∧ k = dcN s (Ut.pos s n) ∧ goB s 0 n = takesB (sg s 0) (sg s (n - 1)) (sg s n) n) := by
  have hle := pos_le s n
  rw [goB0]
  by_cases hp : Ut.pos s n < s.size
  · obtain ⟨e1, e2⟩ := nx_drop hp
    rw [e1] at hr; rw [e2] at hk
    subst hr hk
    have hc := cnt_lt.2 hp
    have hne : ((Ut.pos s n : Int) == (s.size : Int)) = false := by rw [beq_eq_false_iff_ne]; omega
    have hb : (dcR s (Ut.pos s n) == 65533 && ((dcN s (Ut.pos s n) : Nat) : Int) == 1) = isBad s n := by
      unfold isBad
      rw [Bool.eq_iff_iff]
      simp only [Bool.and_eq_true, beq_iff_eq, decide_eq_true_eq]
      omega
    rw [hne, Bool.false_or, hb, decide_eq_true hc, decide_eq_true hn]
    refine ⟨fun h => by rw [h]; rfl, fun h => ⟨hp, rfl, rfl, by rw [h]; rfl⟩⟩
  · have he : Ut.pos s n = s.size := by omega
    have hc : ¬ n < Ut.cnt s := fun hh => hp (cnt_lt.1 hh)
    have h1 : ((Ut.pos s n : Int) == (s.size : Int)) = true := by rw [he]; exact beq_self_eq_true _
    rw [h1]
    refine ⟨fun _ => by rw [decide_eq_false hc]; rfl, fun h => by simp at h⟩

theorem cnext_ok : (sSN nextL).Ok Tryd.prog 14 := by
  refine cnext_vc ⟨next_ok, alone_ok, ckind_ok, joiner_ok, regional_ok, picture_ok, goesP_ok, trivial⟩ ?_
  rintro (s : ByteArray) w ⟨hU, hsm⟩
  have hp0 : pos s 0 = 0 := rfl
  refine ⟨?_, ?_, ?_, trivial⟩
  · refine ⟨s, rfl, ⟨hU, hsm⟩, ?_⟩
    rintro ⟨r, m⟩ w1 ⟨hr, hm, e1⟩
    dsimp only at hr hm ⊢
    refine bcase_mk (fun h => ?_) (fun h => ?_)
    · rw [str_nil] at h
      refine ⟨0, rfl, ?_, e1⟩
      rw [next_zero (of_decide_eq_true h)]
    rw [str_nil] at h
    have hz : 0 < s.size := Nat.pos_of_ne_zero (of_decide_eq_false h)
    have hc0 : 0 < cnt s := cnt_lt.2 (by rw [hp0]; exact hz)
    have hR : r = sg s 0 := by rw [hr]; unfold nxR sg; rw [if_neg (by omega), hp0]
    have hM : m = pos s 1 := by rw [hm, pos_succ (n := 0) (by rw [hp0]; exact hz), hp0]; unfold nxN; rw [if_neg (by omega), Nat.zero_add]
    have hMd : m = dcN s (pos s 0) := by rw [hM, pos_succ (n := 0) (by rw [hp0]; exact hz), hp0, Nat.zero_add]
    clear hr hm
    -- what follows where the first sign neither is bad nor stands alone
    have go : ∀ {w2 : World}, Ext w w2 → isBad s 0 = false → aloneB (sg s 0) = false → At s 1 := by
      intro w2 _ hb ha
      refine ⟨Nat.le_refl _, hc0, by decide, hz, ?_⟩
      have hcr : crB s 0 = false := by
        unfold crB
        by_cases h13 : sg s 0 = 13
        · rw [h13, alone_13] at ha; cases ha
        · rw [beq_eq_false_iff_ne.2 h13]; rfl
      unfold firstN
      rw [if_neg (by rw [hb]; decide), if_neg (by rw [hcr]; decide), if_neg (by rw [ha]; decide)]
    subst hR
    have key : ∀ {w2 : World}, Ext w w2 → At s 1 → ∀ (k : Nat), (m : Int) = (k : Int) → k = pos s 1 := fun _ _ k hk => by omega
    have hbad : isBad s 0 = (sg s 0 == 65533 && (m : Int) == 1) := by
      unfold isBad
      rw [Bool.eq_iff_iff]
      simp only [Bool.and_eq_true, beq_iff_eq, decide_eq_true_eq]
      unfold sg
      omega
    have single : ∀ {w2 : World}, Ext w w2 → (isBad s 0 = true ∨ aloneB (sg s 0) = true) → ∃ _ : Unit, Value.int .i32 (sg s 0) = .int .i32 (sg s 0) ∧ Value.int .i64 (m : Int) = .int .i64 (pos s 1 : Int) ∧ 0 < s.size ∧ (isBad s 0 = true ∨ aloneB (sg s 0) = true) ∧ Ext w w2 := fun e hh => ⟨(), rfl, by rw [hM], hz, hh, e⟩
    refine bcase_mk (fun h1 => bcase_mk (fun h2 => single e1 (.inl (by rw [hbad, h1, h2]; rfl))) (fun h2 => ?_)) (fun h1 => ?_)
    · have hb : isBad s 0 = false := by rw [hbad]; simp [h2]
      refine ⟨sg s 0, rfl, trivial, ?_⟩
      rintro _ w2 ⟨rfl, e2⟩
      refine bcase_mk (fun ha => single (e1.trans e2) (.inr ha)) (fun ha => ?_)
      have hA := go (e1.trans e2) hb ha
      have hple := pos_le s 1
      refine ⟨pos s 1, by rw [hM], hple, Nat.le_refl _, _, rfl, ⟨hU.ext (e1.trans e2), ext_size hsm⟩, ?_⟩
      rintro ⟨r', m'⟩ w3 ⟨hr', hm', e3⟩
      dsimp only at hr' hm' ⊢
      obtain ⟨t1, t2⟩ := hA.test hr' hm' (by decide)
      have E3 := (e1.trans e2).trans e3
      rw [hM]
      refine ⟨?_, ?_⟩
      · refine bcase_mk (fun h3 => ⟨_, rfl, hA.stop (t1 h3), E3⟩) (fun h3 => ?_)
        obtain ⟨hp, hr2, hm2, hgo⟩ := t2 h3
        clear t1 t2 h3 hr' hm'
        subst hr2
        have take : takesB (sg s 0) (sg s 0) (sg s 1) 1 = true → goB s 0 1 = true := fun h => by rw [hgo]; exact h
        have stop : takesB (sg s 0) (sg s 0) (sg s 1) 1 = false → pos s 1 = nextL s := fun h => hA.stop (by rw [hgo]; exact h)
        refine ⟨sg s 1, rfl, trivial, ?_⟩
        rintro _ w4 ⟨rfl, e4⟩
        clear hgo single hbad go key h1 hb ha
        have E := e4
        clear e4
        repeat' first
          | refine ⟨1, rfl, take ?_, E⟩
          | refine ⟨_, rfl, stop ?_, E3.trans E⟩
          | refine bcase_mk (fun h => ?_) (fun h => ?_)
          | (refine ⟨_, rfl, trivial, ?_⟩; rintro _ _ ⟨rfl, e⟩; replace E := E.trans e)
          | (refine ⟨(_, _), rfl, trivial, ?_⟩; rintro _ _ ⟨rfl, e⟩; replace E := E.trans e)
        all_goals (clear E take stop; first | (simp_all only [takesB, Bool.true_or, Bool.or_true, Bool.false_or, Bool.or_false, Bool.and_true, Bool.and_false, Bool.false_and, Bool.true_and, beq_self_eq_true, reduceCtorEq]; done) | (simp_all only [takesB, Bool.true_or, Bool.or_true, Bool.false_or, Bool.or_false, Bool.and_true, Bool.and_false, Bool.false_and, Bool.true_and, beq_self_eq_true, reduceCtorEq]; rename_i h; exact h))
      · rintro _ c w5 ⟨hc, hg, e5⟩
        have hc1 : c = 1 := by omega
        subst hc1
        have hN := hA.next hg
        have hp := cnt_lt.1 (show 1 < cnt s from hN.cnt)
        obtain ⟨x1, x2⟩ := nx_drop hp
        rw [x1] at hr'; rw [x2] at hm'
        have hdc := dcN_le hp
        have hps := pos_succ hp
        refine ⟨inr_i64 (by omega) (by omega), inr_i64 (by omega) (by omega), 2, rfl, by rw [hr']; rfl, rfl, ?_, hN.pos, hN.cnt, hN.most, hN.size, hN.go, E3.trans e5⟩
        rw [hps, hm']; simp
    · have hb : isBad s 0 = false := by rw [hbad]; simp [h1]
      refine ⟨sg s 0, rfl, trivial, ?_⟩
      rintro _ w2 ⟨rfl, e2⟩
      refine bcase_mk (fun ha => single (e1.trans e2) (.inr ha)) (fun ha => ?_)
      have hA := go (e1.trans e2) hb ha
      have hple := pos_le s 1
      refine ⟨pos s 1, by rw [hM], hple, Nat.le_refl _, _, rfl, ⟨hU.ext (e1.trans e2), ext_size hsm⟩, ?_⟩
      rintro ⟨r', m'⟩ w3 ⟨hr', hm', e3⟩
      dsimp only at hr' hm' ⊢
      obtain ⟨t1, t2⟩ := hA.test hr' hm' (by decide)
      have E3 := (e1.trans e2).trans e3
      rw [hM]
      refine ⟨?_, ?_⟩
      · refine bcase_mk (fun h3 => ⟨_, rfl, hA.stop (t1 h3), E3⟩) (fun h3 => ?_)
        obtain ⟨hp, hr2, hm2, hgo⟩ := t2 h3
        clear t1 t2 h3 hr' hm'
        subst hr2
        have take : takesB (sg s 0) (sg s 0) (sg s 1) 1 = true → goB s 0 1 = true := fun h => by rw [hgo]; exact h
        have stop : takesB (sg s 0) (sg s 0) (sg s 1) 1 = false → pos s 1 = nextL s := fun h => hA.stop (by rw [hgo]; exact h)
        refine ⟨sg s 1, rfl, trivial, ?_⟩
        rintro _ w4 ⟨rfl, e4⟩
        clear hgo single hbad go key h1 hb ha
        have E := e4
        clear e4
        repeat' first
          | refine ⟨1, rfl, take ?_, E⟩
          | refine ⟨_, rfl, stop ?_, E3.trans E⟩
          | refine bcase_mk (fun h => ?_) (fun h => ?_)
          | (refine ⟨_, rfl, trivial, ?_⟩; rintro _ _ ⟨rfl, e⟩; replace E := E.trans e)
          | (refine ⟨(_, _), rfl, trivial, ?_⟩; rintro _ _ ⟨rfl, e⟩; replace E := E.trans e)
        all_goals (clear E take stop; first | (simp_all only [takesB, Bool.true_or, Bool.or_true, Bool.false_or, Bool.or_false, Bool.and_true, Bool.and_false, Bool.false_and, Bool.true_and, beq_self_eq_true, reduceCtorEq]; done) | (simp_all only [takesB, Bool.true_or, Bool.or_true, Bool.false_or, Bool.or_false, Bool.and_true, Bool.and_false, Bool.false_and, Bool.true_and, beq_self_eq_true, reduceCtorEq]; rename_i h; exact h))
      · rintro _ c w5 ⟨hc, hg, e5⟩
        have hc1 : c = 1 := by omega
        subst hc1
        have hN := hA.next hg
        have hp := cnt_lt.1 (show 1 < cnt s from hN.cnt)
        obtain ⟨x1, x2⟩ := nx_drop hp
        rw [x1] at hr'; rw [x2] at hm'
        have hdc := dcN_le hp
        have hps := pos_succ hp
        refine ⟨inr_i64 (by omega) (by omega), inr_i64 (by omega) (by omega), 2, rfl, by rw [hr']; rfl, rfl, ?_, hN.pos, hN.cnt, hN.most, hN.size, hN.go, E3.trans e5⟩
        rw [hps, hm']; simp
  · rintro _ n w1 ⟨n1, n2, n3, n4, n5, e1⟩
    have hA : At s n := ⟨n1, n2, n3, n4, n5⟩
    refine bcase_mk (fun h => ⟨_, rfl, hA.stop ?_, e1⟩) (fun h => ?_)
    · have h : n = 32 := by simp only [beq_iff_eq] at h; omega
      rw [goB0, h]; simp
    have hn : n < 32 := by simp only [beq_eq_false_iff_ne, ne_eq] at h; omega
    have hple := pos_le s n
    refine ⟨pos s n, rfl, hple, Nat.le_refl _, _, rfl, ⟨hU.ext e1, ext_size hsm⟩, ?_⟩
    rintro ⟨r', m'⟩ w3 ⟨hr', hm', e3⟩
    dsimp only at hr' hm' ⊢
    obtain ⟨t1, t2⟩ := hA.test hr' hm' hn
    have E3 := e1.trans e3
    have hnb : ((n : Int) == 1) = (n == 1) := by
      rw [Bool.eq_iff_iff, beq_iff_eq, beq_iff_eq]; omega
    refine ⟨?_, ?_⟩
    · refine bcase_mk (fun h3 => ⟨_, rfl, hA.stop (t1 h3), E3⟩) (fun h3 => ?_)
      obtain ⟨hp, hr2, hm2, hgo⟩ := t2 h3
      clear t1 t2 h3 hr' hm'
      subst hr2
      have take : takesB (sg s 0) (sg s (n - 1)) (sg s n) n = true → goB s 0 n = true := fun h => by rw [hgo]; exact h
      have stop : takesB (sg s 0) (sg s (n - 1)) (sg s n) n = false → pos s n = nextL s := fun h => hA.stop (by rw [hgo]; exact h)
      refine ⟨sg s n, rfl, trivial, ?_⟩
      rintro _ w4 ⟨rfl, e4⟩
      rw [hnb]
      clear hgo hnb h
      have E := e4
      clear e4
      repeat' first
        | refine ⟨n, rfl, take ?_, E⟩
        | refine ⟨_, rfl, stop ?_, E3.trans E⟩
        | refine bcase_mk (fun h => ?_) (fun h => ?_)
        | (refine ⟨_, rfl, trivial, ?_⟩; rintro _ _ ⟨rfl, e⟩; replace E := E.trans e)
        | (refine ⟨(_, _), rfl, trivial, ?_⟩; rintro _ _ ⟨rfl, e⟩; replace E := E.trans e)
      all_goals (clear E take stop; first | (simp_all only [takesB, Bool.true_or, Bool.or_true, Bool.false_or, Bool.or_false, Bool.and_true, Bool.and_false, Bool.false_and, Bool.true_and, reduceCtorEq]; done) | (simp_all only [takesB, Bool.true_or, Bool.or_true, Bool.false_or, Bool.or_false, Bool.and_true, Bool.and_false, Bool.false_and, Bool.true_and, reduceCtorEq]; rename_i h; exact h))
    · rintro _ c w5 ⟨hc, hg, e5⟩
      have hc1 : c = n := by omega
      subst hc1
      have hN := hA.next hg
      have hp := cnt_lt.1 (show c < cnt s from hN.cnt)
      obtain ⟨x1, x2⟩ := nx_drop hp
      rw [x1] at hr'; rw [x2] at hm'
      have hdc := dcN_le hp
      have hps := pos_succ hp
      refine ⟨inr_i64 (by omega) (by omega), inr_i64 (by omega) (by omega), c + 1, rfl, by rw [hr']; rfl, by simp, ?_, ⟨hN.pos, hN.cnt, hN.most, hN.size, hN.go, E3.trans e5⟩, by omega⟩
      rw [hps, hm']; simp
  · rintro _ _ w1 ⟨hz, hs, e1⟩
    have hno : ∀ {w2 : World}, ¬ (crB s 0 = true) → pos s 1 = nextL s := by
      intro _ hcr
      rw [next_first hz]
      unfold firstN
      rcases hs with hs | hs
      · rw [if_pos hs]
      · split
        · rfl
        · simp only [if_neg hcr, if_pos hs]
    refine bcase_mk (fun h => ?_) (fun h => ⟨_, rfl, hno (w2 := w) ?_, e1⟩)
    · have h13 : sg s 0 = 13 := by simpa using h
      obtain ⟨c1, c2, c3⟩ := cr_is hz h13
      have hnb : ¬ isBad s 0 = true := by
        unfold isBad
        simp only [decide_eq_true_eq]
        unfold sg at h13
        omega
      refine bcase_mk (fun h1 => ?_) (fun h1 => ⟨_, rfl, hno (w2 := w) ?_, e1⟩)
      · have h1 := of_decide_eq_true h1
        refine ⟨1, rfl, by omega, bcase_mk (fun h2 => ⟨2, rfl, ?_, e1⟩) (fun h2 => ⟨_, rfl, hno (w2 := w) ?_, e1⟩)⟩
        · have hb : bt s 1 = 10 := by simp only [beq_iff_eq] at h2; unfold bt; omega
          have hcr := c2.2 ⟨by omega, hb⟩
          rw [next_first hz]
          unfold firstN
          rw [if_neg hnb, if_pos hcr, c3 hcr]
        · intro hcr
          have := (c2.1 hcr).2
          simp only [beq_eq_false_iff_ne, ne_eq] at h2
          unfold bt at this
          omega
      · have h1 := of_decide_eq_false h1
        intro hcr
        have := (c2.1 hcr).1
        omega
    · intro hcr
      unfold crB at hcr
      rw [h] at hcr
      cases hcr

end Go.Proofs.YtniiamobbgnjaaaDoor
