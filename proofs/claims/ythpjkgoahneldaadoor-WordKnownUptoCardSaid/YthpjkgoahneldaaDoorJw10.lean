/-
  Texts joined by program: El, WkN, Gi, Gg, WkO, WkI.
-/
import Derived.Test.YthpjkgoahneldaaDoorJw09
import Derived.Test.YthpjkgoahneldaaDoorJw08
import Derived.Test.YthpjkgoahneldaaDoorJw06
set_option linter.unusedVariables false
set_option linter.unusedSimpArgs false

section
/-
  Elements of slices; the rest of a text.
-/
namespace Go.Proofs.YthpjkgoahneldaaDoor
open Go Go.RowKit Vc Ut

theorem elem32 : ElemOk Tryd.prog 88 21 1 4 := elemOk_mk (.int .i32 0) (by kernel_rfl) (by kernel_rfl) rfl
theorem elem64 : ElemOk Tryd.prog 45 3 1 8 := elemOk_mk (.int .i64 0) (by kernel_rfl) (by kernel_rfl) rfl
theorem elem8 : ElemOk Tryd.prog 64 5 1 1 := elemOk_mk (.int .u8 0) (by kernel_rfl) (by kernel_rfl) rfl
theorem elemI8 : ElemOk Tryd.prog 22 25 1 1 := elemOk_mk (.int .i8 0) (by kernel_rfl) (by kernel_rfl) rfl
theorem ext_size {s : ByteArray} {n : Nat} (h : s.size ≤ 67108864) : (s.extract (pos s n) s.size).size ≤ 67108864 := by
  rw [size_ext (Nat.le_refl _)]; omega
theorem nx_drop {s : ByteArray} {n : Nat} (h : pos s n < s.size) : nxR (s.extract (pos s n) s.size) = dcR s (pos s n) ∧ nxN (s.extract (pos s n) s.size) = dcN s (pos s n) := by
  have hz : ¬ (s.extract (pos s n) s.size).size = 0 := by rw [size_ext (Nat.le_refl _)]; omega
  unfold nxR nxN dcR dcN
  rw [if_neg hz, if_neg hz, decode_drop s (by omega)]
  exact ⟨rfl, rfl⟩

end Go.Proofs.YthpjkgoahneldaaDoor
end

section
/-
  Chapter 3: the program's step is the document's.
-/
namespace Go.Proofs.YthpjkgoahneldaaDoor
open Go Go.RowKit Vc Ut Tb Cl

theorem next_first {s : ByteArray} (h : 0 < s.size) : nextL s = pos s (firstN s 0) := by
  have h0 : 0 < ncl s := Nat.pos_of_ne_zero (fun e => by have := ncl_zero.1 e; omega)
  unfold nextL bp
  rw [bk_succ h0]
  show pos s (bk s 0 + firstN s (bk s 0)) = _
  rw [show bk s 0 = 0 from rfl, Nat.zero_add]
theorem next_zero {s : ByteArray} (h : s.size = 0) : nextL s = 0 := by
  have := bp_le s 1
  unfold nextL; omega
theorem goB0 (s : ByteArray) (n : Nat) : goB s 0 n = (decide (n < cnt s) && (decide (n < 32) && (!isBad s n && takesB (sg s 0) (sg s (n - 1)) (sg s n) n))) := by
  unfold goB; rw [Nat.zero_add]

/-- Where the run stands with n signs taken. -/
structure At (s : ByteArray) (n : Nat) : Prop where
  pos : 1 ≤ n
  cnt : n ≤ cnt s
  most : n ≤ 32
  size : 0 < s.size
  go : goN s 0 (33 - n) n = firstN s 0
theorem At.stop {s : ByteArray} {n : Nat} (h : At s n) (hg : goB s 0 n = false) : Ut.pos s n = nextL s := by
  rw [next_first h.size, ← h.go, goN_stop hg]
theorem At.next {s : ByteArray} {n : Nat} (h : At s n) (hg : goB s 0 n = true) : At s (n + 1) := by
  have h1 := goN_step hg
  rw [goB0] at hg
  simp only [Bool.and_eq_true, decide_eq_true_eq] at hg
  exact ⟨by omega, by omega, by omega, h.size, by rw [← h1.2]; exact h.go⟩
/-- What the test says: the text's end, or a bad byte. -/
theorem At.test {s : ByteArray} {n : Nat} (h : At s n) {r : Int} {k : Nat} (hr : r = nxR (s.extract (Ut.pos s n) s.size)) (hk : k = nxN (s.extract (Ut.pos s n) s.size)) (hn : n < 32) :
    (((Ut.pos s n : Int) == (s.size : Int) || r == 65533 && (k : Int) == 1) = true → goB s 0 n = false) ∧
    (((Ut.pos s n : Int) == (s.size : Int) || r == 65533 && (k : Int) == 1) = false → Ut.pos s n < s.size ∧ r = sg s n ∧ k = dcN s (Ut.pos s n) ∧ goB s 0 n = takesB (sg s 0) (sg s (n - 1)) (sg s n) n) := by
  have hle := pos_le s n
  rw [goB0]
  by_cases hp : Ut.pos s n < s.size
  · obtain ⟨e1, e2⟩ := nx_drop hp
    rw [e1] at hr; rw [e2] at hk
    subst hr hk
    have hc := cnt_lt.2 hp
    have hne : ((Ut.pos s n : Int) == (s.size : Int)) = false := by rw [beq_eq_false_iff_ne]; omega
    have hb : (dcR s (Ut.pos s n) == 65533 && ((dcN s (Ut.pos s n) : Nat) : Int) == 1) = isBad s n := by
      unfold isBad
      rw [Bool.eq_iff_iff]
      simp only [Bool.and_eq_true, beq_iff_eq, decide_eq_true_eq]
      omega
    rw [hne, Bool.false_or, hb, decide_eq_true hc, decide_eq_true hn]
    refine ⟨fun h => by rw [h]; rfl, fun h => ⟨hp, rfl, rfl, by rw [h]; rfl⟩⟩
  · have he : Ut.pos s n = s.size := by omega
    have hc : ¬ n < Ut.cnt s := fun hh => hp (cnt_lt.1 hh)
    have h1 : ((Ut.pos s n : Int) == (s.size : Int)) = true := by rw [he]; exact beq_self_eq_true _
    rw [h1]
    refine ⟨fun _ => by rw [decide_eq_false hc]; rfl, fun h => by simp at h⟩

theorem cnext_ok : (sSN nextL).Ok Tryd.prog 76 := by
  refine cnext_vc ⟨next_ok, alone_ok, ckind_ok, joiner_ok, regional_ok, picture_ok, goesP_ok, trivial⟩ ?_
  rintro (s : ByteArray) w ⟨hU, hsm⟩
  have hp0 : pos s 0 = 0 := rfl
  refine ⟨?_, ?_, ?_, trivial⟩
  · refine ⟨s, rfl, ⟨hU, hsm⟩, ?_⟩
    rintro ⟨r, m⟩ w1 ⟨hr, hm, e1⟩
    dsimp only at hr hm ⊢
    refine bcase_mk (fun h => ?_) (fun h => ?_)
    · rw [str_nil] at h
      refine ⟨0, rfl, ?_, e1⟩
      rw [next_zero (of_decide_eq_true h)]
    rw [str_nil] at h
    have hz : 0 < s.size := Nat.pos_of_ne_zero (of_decide_eq_false h)
    have hc0 : 0 < cnt s := cnt_lt.2 (by rw [hp0]; exact hz)
    have hR : r = sg s 0 := by rw [hr]; unfold nxR sg; rw [if_neg (by omega), hp0]
    have hM : m = pos s 1 := by rw [hm, pos_succ (n := 0) (by rw [hp0]; exact hz), hp0]; unfold nxN; rw [if_neg (by omega), Nat.zero_add]
    have hMd : m = dcN s (pos s 0) := by rw [hM, pos_succ (n := 0) (by rw [hp0]; exact hz), hp0, Nat.zero_add]
    clear hr hm
    -- what follows where the first sign neither is bad nor stands alone
    have go : ∀ {w2 : World}, Ext w w2 → isBad s 0 = false → aloneB (sg s 0) = false → At s 1 := by
      intro w2 _ hb ha
      refine ⟨Nat.le_refl _, hc0, by decide, hz, ?_⟩
      have hcr : crB s 0 = false := by
        unfold crB
        by_cases h13 : sg s 0 = 13
        · rw [h13, alone_13] at ha; cases ha
        · rw [beq_eq_false_iff_ne.2 h13]; rfl
      unfold firstN
      rw [if_neg (by rw [hb]; decide), if_neg (by rw [hcr]; decide), if_neg (by rw [ha]; decide)]
    subst hR
    have key : ∀ {w2 : World}, Ext w w2 → At s 1 → ∀ (k : Nat), (m : Int) = (k : Int) → k = pos s 1 := fun _ _ k hk => by omega
    have hbad : isBad s 0 = (sg s 0 == 65533 && (m : Int) == 1) := by
      unfold isBad
      rw [Bool.eq_iff_iff]
      simp only [Bool.and_eq_true, beq_iff_eq, decide_eq_true_eq]
      unfold sg
      omega
    have single : ∀ {w2 : World}, Ext w w2 → (isBad s 0 = true ∨ aloneB (sg s 0) = true) → ∃ _ : Unit, Value.int .i32 (sg s 0) = .int .i32 (sg s 0) ∧ Value.int .i64 (m : Int) = .int .i64 (pos s 1 : Int) ∧ 0 < s.size ∧ (isBad s 0 = true ∨ aloneB (sg s 0) = true) ∧ Ext w w2 := fun e hh => ⟨(), rfl, by rw [hM], hz, hh, e⟩
    refine bcase_mk (fun h1 => bcase_mk (fun h2 => single e1 (.inl (by rw [hbad, h1, h2]; rfl))) (fun h2 => ?_)) (fun h1 => ?_)
    · have hb : isBad s 0 = false := by rw [hbad]; simp [h2]
      refine ⟨sg s 0, rfl, trivial, ?_⟩
      rintro _ w2 ⟨rfl, e2⟩
      refine bcase_mk (fun ha => single (e1.trans e2) (.inr ha)) (fun ha => ?_)
      have hA := go (e1.trans e2) hb ha
      have hple := pos_le s 1
      refine ⟨pos s 1, by rw [hM], hple, Nat.le_refl _, _, rfl, ⟨hU.ext (e1.trans e2), ext_size hsm⟩, ?_⟩
      rintro ⟨r', m'⟩ w3 ⟨hr', hm', e3⟩
      dsimp only at hr' hm' ⊢
      obtain ⟨t1, t2⟩ := hA.test hr' hm' (by decide)
      have E3 := (e1.trans e2).trans e3
      rw [hM]
      refine ⟨?_, ?_⟩
      · refine bcase_mk (fun h3 => ⟨_, rfl, hA.stop (t1 h3), E3⟩) (fun h3 => ?_)
        obtain ⟨hp, hr2, hm2, hgo⟩ := t2 h3
        clear t1 t2 h3 hr' hm'
        subst hr2
        have take : takesB (sg s 0) (sg s 0) (sg s 1) 1 = true → goB s 0 1 = true := fun h => by rw [hgo]; exact h
        have stop : takesB (sg s 0) (sg s 0) (sg s 1) 1 = false → pos s 1 = nextL s := fun h => hA.stop (by rw [hgo]; exact h)
        refine ⟨sg s 1, rfl, trivial, ?_⟩
        rintro _ w4 ⟨rfl, e4⟩
        clear hgo single hbad go key h1 hb ha
        have E := e4
        clear e4
        repeat' first
          | refine ⟨1, rfl, take ?_, E⟩
          | refine ⟨_, rfl, stop ?_, E3.trans E⟩
          | refine bcase_mk (fun h => ?_) (fun h => ?_)
          | (refine ⟨_, rfl, trivial, ?_⟩; rintro _ _ ⟨rfl, e⟩; replace E := E.trans e)
          | (refine ⟨(_, _), rfl, trivial, ?_⟩; rintro _ _ ⟨rfl, e⟩; replace E := E.trans e)
        all_goals (clear E take stop; first | (simp_all only [takesB, Bool.true_or, Bool.or_true, Bool.false_or, Bool.or_false, Bool.and_true, Bool.and_false, Bool.false_and, Bool.true_and, beq_self_eq_true, reduceCtorEq]; done) | (simp_all only [takesB, Bool.true_or, Bool.or_true, Bool.false_or, Bool.or_false, Bool.and_true, Bool.and_false, Bool.false_and, Bool.true_and, beq_self_eq_true, reduceCtorEq]; rename_i h; exact h))
      · rintro _ c w5 ⟨hc, hg, e5⟩
        have hc1 : c = 1 := by omega
        subst hc1
        have hN := hA.next hg
        have hp := cnt_lt.1 (show 1 < cnt s from hN.cnt)
        obtain ⟨x1, x2⟩ := nx_drop hp
        rw [x1] at hr'; rw [x2] at hm'
        have hdc := dcN_le hp
        have hps := pos_succ hp
        refine ⟨inr_i64 (by omega) (by omega), inr_i64 (by omega) (by omega), 2, rfl, by rw [hr']; rfl, rfl, ?_, hN.pos, hN.cnt, hN.most, hN.size, hN.go, E3.trans e5⟩
        rw [hps, hm']; simp
    · have hb : isBad s 0 = false := by rw [hbad]; simp [h1]
      refine ⟨sg s 0, rfl, trivial, ?_⟩
      rintro _ w2 ⟨rfl, e2⟩
      refine bcase_mk (fun ha => single (e1.trans e2) (.inr ha)) (fun ha => ?_)
      have hA := go (e1.trans e2) hb ha
      have hple := pos_le s 1
      refine ⟨pos s 1, by rw [hM], hple, Nat.le_refl _, _, rfl, ⟨hU.ext (e1.trans e2), ext_size hsm⟩, ?_⟩
      rintro ⟨r', m'⟩ w3 ⟨hr', hm', e3⟩
      dsimp only at hr' hm' ⊢
      obtain ⟨t1, t2⟩ := hA.test hr' hm' (by decide)
      have E3 := (e1.trans e2).trans e3
      rw [hM]
      refine ⟨?_, ?_⟩
      · refine bcase_mk (fun h3 => ⟨_, rfl, hA.stop (t1 h3), E3⟩) (fun h3 => ?_)
        obtain ⟨hp, hr2, hm2, hgo⟩ := t2 h3
        clear t1 t2 h3 hr' hm'
        subst hr2
        have take : takesB (sg s 0) (sg s 0) (sg s 1) 1 = true → goB s 0 1 = true := fun h => by rw [hgo]; exact h
        have stop : takesB (sg s 0) (sg s 0) (sg s 1) 1 = false → pos s 1 = nextL s := fun h => hA.stop (by rw [hgo]; exact h)
        refine ⟨sg s 1, rfl, trivial, ?_⟩
        rintro _ w4 ⟨rfl, e4⟩
        clear hgo single hbad go key h1 hb ha
        have E := e4
        clear e4
        repeat' first
          | refine ⟨1, rfl, take ?_, E⟩
          | refine ⟨_, rfl, stop ?_, E3.trans E⟩
          | refine bcase_mk (fun h => ?_) (fun h => ?_)
          | (refine ⟨_, rfl, trivial, ?_⟩; rintro _ _ ⟨rfl, e⟩; replace E := E.trans e)
          | (refine ⟨(_, _), rfl, trivial, ?_⟩; rintro _ _ ⟨rfl, e⟩; replace E := E.trans e)
        all_goals (clear E take stop; first | (simp_all only [takesB, Bool.true_or, Bool.or_true, Bool.false_or, Bool.or_false, Bool.and_true, Bool.and_false, Bool.false_and, Bool.true_and, beq_self_eq_true, reduceCtorEq]; done) | (simp_all only [takesB, Bool.true_or, Bool.or_true, Bool.false_or, Bool.or_false, Bool.and_true, Bool.and_false, Bool.false_and, Bool.true_and, beq_self_eq_true, reduceCtorEq]; rename_i h; exact h))
      · rintro _ c w5 ⟨hc, hg, e5⟩
        have hc1 : c = 1 := by omega
        subst hc1
        have hN := hA.next hg
        have hp := cnt_lt.1 (show 1 < cnt s from hN.cnt)
        obtain ⟨x1, x2⟩ := nx_drop hp
        rw [x1] at hr'; rw [x2] at hm'
        have hdc := dcN_le hp
        have hps := pos_succ hp
        refine ⟨inr_i64 (by omega) (by omega), inr_i64 (by omega) (by omega), 2, rfl, by rw [hr']; rfl, rfl, ?_, hN.pos, hN.cnt, hN.most, hN.size, hN.go, E3.trans e5⟩
        rw [hps, hm']; simp
  · rintro _ n w1 ⟨n1, n2, n3, n4, n5, e1⟩
    have hA : At s n := ⟨n1, n2, n3, n4, n5⟩
    refine bcase_mk (fun h => ⟨_, rfl, hA.stop ?_, e1⟩) (fun h => ?_)
    · have h : n = 32 := by simp only [beq_iff_eq] at h; omega
      rw [goB0, h]; simp
    have hn : n < 32 := by simp only [beq_eq_false_iff_ne, ne_eq] at h; omega
    have hple := pos_le s n
    refine ⟨pos s n, rfl, hple, Nat.le_refl _, _, rfl, ⟨hU.ext e1, ext_size hsm⟩, ?_⟩
    rintro ⟨r', m'⟩ w3 ⟨hr', hm', e3⟩
    dsimp only at hr' hm' ⊢
    obtain ⟨t1, t2⟩ := hA.test hr' hm' hn
    have E3 := e1.trans e3
    have hnb : ((n : Int) == 1) = (n == 1) := by
      rw [Bool.eq_iff_iff, beq_iff_eq, beq_iff_eq]; omega
    refine ⟨?_, ?_⟩
    · refine bcase_mk (fun h3 => ⟨_, rfl, hA.stop (t1 h3), E3⟩) (fun h3 => ?_)
      obtain ⟨hp, hr2, hm2, hgo⟩ := t2 h3
      clear t1 t2 h3 hr' hm'
      subst hr2
      have take : takesB (sg s 0) (sg s (n - 1)) (sg s n) n = true → goB s 0 n = true := fun h => by rw [hgo]; exact h
      have stop : takesB (sg s 0) (sg s (n - 1)) (sg s n) n = false → pos s n = nextL s := fun h => hA.stop (by rw [hgo]; exact h)
      refine ⟨sg s n, rfl, trivial, ?_⟩
      rintro _ w4 ⟨rfl, e4⟩
      rw [hnb]
      clear hgo hnb h
      have E := e4
      clear e4
      repeat' first
        | refine ⟨n, rfl, take ?_, E⟩
        | refine ⟨_, rfl, stop ?_, E3.trans E⟩
        | refine bcase_mk (fun h => ?_) (fun h => ?_)
        | (refine ⟨_, rfl, trivial, ?_⟩; rintro _ _ ⟨rfl, e⟩; replace E := E.trans e)
        | (refine ⟨(_, _), rfl, trivial, ?_⟩; rintro _ _ ⟨rfl, e⟩; replace E := E.trans e)
      all_goals (clear E take stop; first | (simp_all only [takesB, Bool.true_or, Bool.or_true, Bool.false_or, Bool.or_false, Bool.and_true, Bool.and_false, Bool.false_and, Bool.true_and, reduceCtorEq]; done) | (simp_all only [takesB, Bool.true_or, Bool.or_true, Bool.false_or, Bool.or_false, Bool.and_true, Bool.and_false, Bool.false_and, Bool.true_and, reduceCtorEq]; rename_i h; exact h))
    · rintro _ c w5 ⟨hc, hg, e5⟩
      have hc1 : c = n := by omega
      subst hc1
      have hN := hA.next hg
      have hp := cnt_lt.1 (show c < cnt s from hN.cnt)
      obtain ⟨x1, x2⟩ := nx_drop hp
      rw [x1] at hr'; rw [x2] at hm'
      have hdc := dcN_le hp
      have hps := pos_succ hp
      refine ⟨inr_i64 (by omega) (by omega), inr_i64 (by omega) (by omega), c + 1, rfl, by rw [hr']; rfl, by simp, ?_, ⟨hN.pos, hN.cnt, hN.most, hN.size, hN.go, E3.trans e5⟩, by omega⟩
      rw [hps, hm']; simp
  · rintro _ _ w1 ⟨hz, hs, e1⟩
    have hno : ∀ {w2 : World}, ¬ (crB s 0 = true) → pos s 1 = nextL s := by
      intro _ hcr
      rw [next_first hz]
      unfold firstN
      rcases hs with hs | hs
      · rw [if_pos hs]
      · split
        · rfl
        · simp only [if_neg hcr, if_pos hs]
    refine bcase_mk (fun h => ?_) (fun h => ⟨_, rfl, hno (w2 := w) ?_, e1⟩)
    · have h13 : sg s 0 = 13 := by simpa using h
      obtain ⟨c1, c2, c3⟩ := cr_is hz h13
      have hnb : ¬ isBad s 0 = true := by
        unfold isBad
        simp only [decide_eq_true_eq]
        unfold sg at h13
        omega
      refine bcase_mk (fun h1 => ?_) (fun h1 => ⟨_, rfl, hno (w2 := w) ?_, e1⟩)
      · have h1 := of_decide_eq_true h1
        refine ⟨1, rfl, by omega, bcase_mk (fun h2 => ⟨2, rfl, ?_, e1⟩) (fun h2 => ⟨_, rfl, hno (w2 := w) ?_, e1⟩)⟩
        · have hb : bt s 1 = 10 := by simp only [beq_iff_eq] at h2; unfold bt; omega
          have hcr := c2.2 ⟨by omega, hb⟩
          rw [next_first hz]
          unfold firstN
          rw [if_neg hnb, if_pos hcr, c3 hcr]
        · intro hcr
          have := (c2.1 hcr).2
          simp only [beq_eq_false_iff_ne, ne_eq] at h2
          unfold bt at this
          omega
      · have h1 := of_decide_eq_false h1
        intro hcr
        have := (c2.1 hcr).1
        omega
    · intro hcr
      unfold crB at hcr
      rw [h] at hcr
      cases hcr

end Go.Proofs.YthpjkgoahneldaaDoor
end

section
/-
  Facts on a function's own variables and on rounds of ranges over functions.
-/
namespace Go.Proofs.YthpjkgoahneldaaDoor.Vc
open Go Go.RowKit

theorem Stored.box {w w1 : World} {b : Nat} {u v : Value} {t : TypeId} (hs : Stored w ⟨b, 0, none⟩ v w1) (h : w.heap[b]? = some (.cells #[u] t)) : w1.heap[b]? = some (.cells #[v] t) := by
  have := hs.heap h
  simpa using this
theorem box_cell {w : World} {b : Nat} {v : Value} {t : TypeId} (h : w.heap[b]? = some (.cells #[v] t)) : w.cell? ⟨b, 0, none⟩ = some v := by
  rw [cell_of_heap h]; rfl
theorem box_old {w : World} {b : Nat} {v : Value} {t : TypeId} (h : w.heap[b]? = some (.cells #[v] t)) : ∃ old, w.cell? ⟨b, 0, none⟩ = some old := ⟨v, box_cell h⟩
theorem box_free {w : World} {b : Nat} {v : Value} {t : TypeId} (h : w.heap[b]? = some (.cells #[v] t)) : w.frozen? ⟨b, 0, none⟩ = false := frozen_of_heap h _
theorem heap_lt {w : World} {b : Nat} {o : Obj} (h : w.heap[b]? = some o) : b < w.heap.size := (Array.getElem?_eq_some_iff.1 h).1

theorem Step.stored {D : Nat → Prop} {W W1 : World} {p : Addr} {v : Value} (hs : Stored W p v W1) (hD : D p.block) (hdom : ∀ q, D q → q < W.heap.size) : Step D W W1 D :=
  ⟨(Fr.stored hs).mono (fun x _ hx => by subst hx; exact hD), fun q hq => ⟨by rw [hs.size]; exact hdom q hq, .inl hq⟩⟩
theorem Step.refl {D : Nat → Prop} {W : World} (hdom : ∀ q, D q → q < W.heap.size) : Step D W W D := ⟨Fr.refl _ _, fun q hq => ⟨hdom q hq, .inl hq⟩⟩
theorem Step.trans {D D1 D2 : Nat → Prop} {a b c : World} (h : Step D a b D1) (k : Step D1 b c D2) : Step D a c D2 :=
  ⟨h.fr.trans k.fr (fun x hx hd => ((h.dom x hd).2).elim id (fun h2 => by omega)), fun q hq => ⟨(k.dom q hq).1, (k.dom q hq).2.elim (fun h1 => ((h.dom q h1).2)) (fun h2 => .inr (Nat.le_trans h.fr.size h2))⟩⟩
theorem Step.ext {D : Nat → Prop} {W W1 : World} (hx : Ext W W1) (hdom : ∀ q, D q → q < W.heap.size) : Step D W W1 D := ⟨Fr.of_ext hx, fun q hq => ⟨Nat.lt_of_lt_of_le (hdom q hq) hx.size, .inl hq⟩⟩
theorem Mid.step {w W W1 : World} {D0 D D' : Nat → Prop} (h : Mid w D0 D W) (k : Step D W W1 D') : Mid w D0 D' W1 :=
  ⟨h.fr.trans k.fr (fun x hx hd => ((h.dom x hd).2).elim id (fun h2 => by omega)), fun q hq => ⟨(k.dom q hq).1, (k.dom q hq).2.elim (fun h1 => (h.dom q h1).2) (fun h2 => .inr (Nat.le_trans h.fr.size h2))⟩⟩
theorem Mid.lt {w W : World} {D0 D : Nat → Prop} (h : Mid w D0 D W) : ∀ q, D q → q < W.heap.size := fun q hq => (h.dom q hq).1
theorem Mid.old {w W : World} {D0 D : Nat → Prop} (h : Mid w D0 D W) {b : Nat} (hb : b < w.heap.size) (h0 : ¬ D0 b) : W.heap[b]? = w.heap[b]? := h.fr.block b hb h0
theorem Mid.start {w W : World} {D0 : Nat → Prop} (h : Ext w W) (hd : ∀ q, D0 q → q < w.heap.size) : Mid w D0 D0 W := ⟨Fr.of_ext h, fun q hq => ⟨Nat.lt_of_lt_of_le (hd q hq) h.size, .inl hq⟩⟩
/-- The iterator's own step. -/
theorem Mid.own {w W W1 : World} {D0 D : Nat → Prop} {S : Nat → Prop} (h : Mid w D0 D W) (hf : Fr S W W1) (hS : ∀ q, S q → w.heap.size ≤ q) : Mid w D0 D W1 :=
  ⟨h.fr.trans hf (fun x hx hs => by have := hS x hs; omega), fun q hq => ⟨Nat.lt_of_lt_of_le (h.dom q hq).1 hf.size, (h.dom q hq).2⟩⟩
theorem Nexted.fr {w w1 : World} {r i : Nat} {s : ByteArray} (h : Nexted w r s i w1) : Fr (fun q => q = r) w w1 := by
  subst h; exact Fr.putObj w r _
/-- What only new blocks and these have turned. -/
theorem Mid.ext {w0 w W : World} {D0 D : Nat → Prop} (h : Mid w D0 D W) (hx : Ext w0 w) (h0 : ∀ q, D0 q → w0.heap.size ≤ q) : Ext w0 W :=
  Below.trans hx (h.fr.below hx.size (fun q hq hd => by have := h0 q hd; omega))
theorem Ext.turn {w0 w w2 : World} (h : Ext w0 w) (ht : Turn w0.heap.size w w2) : Ext w0 w2 := Below.trans h ht.ext
theorem Ext.stored {w0 w w1 : World} {p : Addr} {v : Value} (h : Ext w0 w) (hs : Stored w p v w1) (hp : w0.heap.size ≤ p.block) : Ext w0 w1 := hs.below h hp
/-- A slice that was there, behind changes of blocks of one's own. -/
theorem CellsAt.mid {w0 w W : World} {S : Nat → Prop} {ad : Option Addr} {vs : List Value} (h : CellsAt w0 ad vs) (hx : Ext w0 w) (hf : Fr S w W) (hS : ∀ q, q < w0.heap.size → ¬ S q) : CellsAt W ad vs := by
  rcases h with h | ⟨b, o, h1, h2⟩
  · exact .inl h
  · refine .inr ⟨b, o, h1, fun j v hv => ?_⟩
    have hc := h2 j v hv
    have hb : b < w0.heap.size := World.block_lt_of_cell? w0 _ hc
    exact (World.cell?_of_block (w := w) (hf.block b (Nat.lt_of_lt_of_le hb hx.size) (hS b hb))).trans (hx.cell hc)

end Go.Proofs.YthpjkgoahneldaaDoor.Vc
end

section
/-
  A variable that holds a list of one's own, within rounds.
-/
namespace Go.Proofs.YthpjkgoahneldaaDoor.Vc
open Go Go.RowKit

/-- A variable of the function's own, filled at once. -/
theorem new_box {w w1 : World} {u : Value} {t : TypeId} {b : Nat} (h : New w (.cells #[u] t) b w1) :
    (∃ old, w1.cell? ⟨b, 0, none⟩ = some old) ∧ w1.frozen? ⟨b, 0, none⟩ = false ∧ ∀ {v : Value} {w2 : World}, Stored w1 ⟨b, 0, none⟩ v w2 → Ext w w2 ∧ w2.heap[b]? = some (.cells #[v] t) ∧ b = w.heap.size ∧ w2.heap.size = b + 1 := by
  refine ⟨box_old h.heap, box_free h.heap, fun {v w2} hs => ?_⟩
  have := h.size
  refine ⟨h.ext.stored hs (by show _ ≤ b; omega), hs.box h.heap, this.1, by rw [hs.size]; omega⟩

theorem _root_.Go.Proofs.YthpjkgoahneldaaDoor.Grow.keep {W W' : World} {box : Nat} {t e : TypeId} {a : Option Addr} {c : Nat} {vs : List Value} (h : Grow W box t e a c vs) (hk : ∀ q, q = box ∨ blk a = some q → W'.heap[q]? = W.heap[q]?) : Grow W' box t e a c vs :=
  ⟨(hk box (.inl rfl)).trans h.hb, h.row.keep fun g hg => hk g (.inr hg)⟩
/-- The blocks of such a variable hold no records. -/
theorem _root_.Go.Proofs.YthpjkgoahneldaaDoor.Grow.kept {W W' : World} {box q : Nat} {t e : TypeId} {a : Option Addr} {c n : Nat} {vs : List Value} (h : Grow W box t e a c vs) (hq : q = box ∨ blk a = some q) (hk : ∀ o, W.heap[q]? = some o → (isRec o = false ∨ q < n) → W'.heap[q]? = some o) : W'.heap[q]? = W.heap[q]? := by
  rcases hq with rfl | hq
  · rw [h.hb]; exact hk _ h.hb (.inl rfl)
  · rcases h.row.2 with ⟨rfl, _⟩ | ⟨g, cur, rfl, h1, _⟩
    · cases hq
    · cases hq
      rw [h1]; exact hk _ h1 (.inl rfl)
theorem _root_.Go.Proofs.YthpjkgoahneldaaDoor.Grow.fr {S : Nat → Prop} {W W' : World} {box : Nat} {t e : TypeId} {a : Option Addr} {c : Nat} {vs : List Value} (h : Grow W box t e a c vs) (hf : Fr S W W') (hS : ∀ q, q = box ∨ blk a = some q → ¬ S q) : Grow W' box t e a c vs :=
  h.keep fun q hq => hf.block q (hq.elim (fun e => by rw [e]; exact heap_lt h.hb) (fun e => h.row.lt e)) (hS q hq)
theorem _root_.Go.Proofs.YthpjkgoahneldaaDoor.Grow.ext {W W' : World} {box : Nat} {t e : TypeId} {a : Option Addr} {c : Nat} {vs : List Value} (h : Grow W box t e a c vs) (hx : Ext W W') : Grow W' box t e a c vs :=
  h.fr (Fr.of_ext (S := fun _ => False) hx) (fun _ _ h => h)
/-- What is of another type lies elsewhere. -/
theorem Row.off {W : World} {e t : TypeId} {n c q : Nat} {a : Option Addr} {vs : List Value} {cs : Array Value} (h : Row W e 1 a n vs c) (hq : W.heap[q]? = some (.cells cs t)) (hne : t ≠ e) : blk a ≠ some q := by
  intro he
  rcases h.2 with ⟨rfl, _⟩ | ⟨g, cur, rfl, h1, _⟩
  · cases he
  · cases he
    rw [hq] at h1
    simp only [Option.some.injEq, Obj.cells.injEq] at h1
    exact hne h1.2.1
theorem Row.off2 {W : World} {e t : TypeId} {n c n' c' : Nat} {a a' : Option Addr} {vs vs' : List Value} (h : Row W e 1 a n vs c) (h' : Row W t 1 a' n' vs' c') (hne : t ≠ e) {q : Nat} (h1 : blk a = some q) : blk a' ≠ some q := by
  intro he
  rcases h'.2 with ⟨rfl, _⟩ | ⟨g, cur, rfl, h2, _⟩
  · cases he
  · cases he
    exact h.off h2 hne h1

/-- v = append(v, x) -/
theorem _root_.Go.Proofs.YthpjkgoahneldaaDoor.Grow.push {P : Program} {W w1 : World} {box b : Nat} {t tt ty e : TypeId} {bytes c : Nat} {a : Option Addr} {vs : List Value} {v : Value} (hE : ElemOk P tt e 1 bytes) (h : Grow W box t e a c vs) (hne : t ≠ e) (hn : New W (.cells #[v] e) b w1)
    (hv : v.oneCell' = true) (h63 : vs.length + 1 ≤ maxLen) (hb : (vs.length + 1) * bytes ≤ 140737488355328) :
    ∃ a' c' w2, AppRun P #[tt, tt] ty (.slice a vs.length c) (.slice (some ⟨b, 0, none⟩) 1 1) w1 a' (vs.length + 1) c' w2 ∧ KO w1 w2 ∧ (∃ old, w2.cell? ⟨box, 0, none⟩ = some old) ∧ w2.frozen? ⟨box, 0, none⟩ = false ∧
      ∀ {w3 : World}, Stored w2 ⟨box, 0, none⟩ (.slice a' (vs.length + 1) c') w3 → Grow w3 box t e a' c' (vs ++ [v]) ∧ Fr (fun q => q = box ∨ blk a = some q) W w3 ∧ (∀ q, blk a' = some q → blk a = some q ∨ W.heap.size ≤ q) := by
  obtain ⟨a', c', w2, hr, hko, hrow, hg, hor, _⟩ := h.row.pushN (P := P) (ty := ty) hE (by decide) (m := 1) (news := [v]) hn rfl (by simp [hv]) h63 (.inr hb)
  have hb1 := hn.ext.heap h.hb
  have hoff := h.row.off h.hb hne
  have hb2 : w2.heap[box]? = some (.cells #[.slice a vs.length c] t) := (hg.block box (heap_lt hb1) (fun e => hoff e.symm)).trans hb1
  refine ⟨a', c', w2, hr, hko, box_old hb2, box_free hb2, fun {w3} hs => ?_⟩
  have hoff' : ∀ q, blk a' = some q → blk a = some q ∨ W.heap.size ≤ q := by
    intro q hq
    rcases hor with rfl | ⟨rfl, _⟩
    · exact .inl hq
    · simp [blk] at hq; subst hq; exact .inr hn.ext.size
  have hne' : blk a' ≠ some box := fun he => by
    rcases hoff' box he with h1 | h1
    · exact hoff h1
    · have := heap_lt h.hb; omega
  refine ⟨⟨?_, ?_⟩, ?_, hoff'⟩
  · have := hs.box hb2; simpa using this
  · have hl : (vs ++ [v]).length = vs.length + 1 := by simp
    rw [hl]
    exact hrow.keep fun g hg' => hs.other (by show g ≠ box; rintro rfl; exact hne' hg')
  · refine ((Fr.of_ext (S := fun q => q = box ∨ blk a = some q) hn.ext).trans (Fr.grown hg) (fun x _ hx => .inr hx)).trans (Fr.stored hs) (fun x _ hx => .inl hx)

theorem take_snoc {α β : Type} {f : α → β} {xs : List α} {k : Nat} {p : α} (h : xs[k]? = some p) : (xs.take (k + 1)).map f = (xs.take k).map f ++ [f p] := by
  rw [List.take_add_one, h]; simp

end Go.Proofs.YthpjkgoahneldaaDoor.Vc
end

section
/-
  Chapter 3: the document's lists.
-/
namespace Go.Proofs.YthpjkgoahneldaaDoor
open Go Go.RowKit Vc Ut Tb Cl Orb

theorem elemSign : ElemOk Tryd.prog 90 103 3 24 := elemOk_mk (.agg #[.int .i32 0, .int .i64 0, .bool false]) (by kernel_rfl) (by kernel_rfl) rfl
theorem elemPiece : ElemOk Tryd.prog 42 44 2 24 := elemOk_mk (.agg #[.int .i64 0, .string ⟨#[]⟩]) (by kernel_rfl) (by kernel_rfl) rfl

theorem sg_at {s : ByteArray} {k i : Nat} (h : k + i < cnt s) : ((List.range (cnt s)).drop k)[i]? = some (k + i) := by
  rw [List.getElem?_drop, List.getElem?_range h]
theorem sgn_at {s : ByteArray} {k i j : Nat} (h : k + i < cnt s) (hj : j < 3) : (((List.range (cnt s)).drop k).flatMap (sgnV s))[i * 3 + j]? = (sgnV s (k + i))[j]? := flat_at (f := sgnV s) (s := 3) (fun _ => rfl) (sg_at h) hj
theorem sgn_one (s : ByteArray) (n : Nat) : ∀ u ∈ sgnV s n, u.oneCell' = true := by
  intro u hu
  simp only [sgnV, List.mem_cons, List.not_mem_nil, or_false] at hu
  rcases hu with rfl | rfl | rfl <;> rfl
theorem pcV_one (s : ByteArray) (n : Nat) : ∀ u ∈ pcV s n, u.oneCell' = true := by
  intro u hu
  simp only [pcV, List.mem_cons, List.not_mem_nil, or_false] at hu
  rcases hu with rfl | rfl <;> rfl
theorem pc_at {s : ByteArray} {i j : Nat} (h : i < ncl s) (hj : j < 2) : ((List.range (ncl s)).flatMap (pcV s))[i * 2 + j]? = (pcV s i)[j]? := flat_at (f := pcV s) (s := 2) (fun _ => rfl) (List.getElem?_range h) hj
theorem flat_drop {α : Type} {f : α → List Value} {s : Nat} (hf : ∀ x, (f x).length = s) : ∀ (l : List α) (n : Nat), (l.flatMap f).drop (n * s) = (l.drop n).flatMap f
  | l, 0 => by simp
  | [], n + 1 => by simp
  | x :: l, n + 1 => by
    rw [List.flatMap_cons, List.drop_succ_cons, ← flat_drop hf l n, show (n + 1) * s = (f x).length + n * s from by rw [hf x, Nat.succ_mul]; omega, ← List.drop_drop, List.drop_left]

set_option maxRecDepth 10000 in
theorem signs_ok : sSigns.Ok Tryd.prog 80 := by
  refine signs_vc ⟨rnext_ok, trivial⟩ ?_
  rintro (s : ByteArray) w ⟨hU, hsm⟩
  have hcs := cnt_le s
  refine ⟨⟨(0, none, 0), rfl, rfl, Nat.zero_le _, Made.nil _ _ _⟩, ?_⟩
  rintro _ ⟨n, a, c⟩ w1 ⟨hn, hm⟩
  dsimp only at hn hm ⊢
  refine bcase_mk (fun h => ?_) (fun h => ?_)
  · have hp : pos s n < s.size := by simpa using h
    have hlt := cnt_lt.2 hp
    obtain ⟨e1, e2⟩ := nx_drop hp
    refine ⟨pos s n, rfl, by omega, Nat.le_refl _, _, rfl, ⟨hU.ext hm.ext, ext_size hsm⟩, ?_⟩
    rintro ⟨r, k⟩ w2 ⟨hr, hk, hw2⟩
    dsimp only at hr hk ⊢
    rw [e1] at hr; rw [e2] at hk
    subst hr hk
    have key : ∀ (b : Nat) (w3 : World) (v : Bool), v = isBad s n → New w2 (.cells #[.int .i32 (dcR s (pos s n)), .int .i64 (pos s n), .bool v] 103) b w3 →
        ∃ a' c' w4, AppRun Tryd.prog #[90, 90] 90 (.slice a n c) (.slice (some ⟨b, 0, none⟩) 1 1) w3 a' (n + 1) c' w4 ∧ KO w3 w4 ∧ InR IntKind.i64 ((pos s n : Int) + (dcN s (pos s n) : Int)) ∧
        ∃ y : Nat × Option Addr × Nat, Value.int IntKind.i64 ((pos s n : Int) + (dcN s (pos s n) : Int)) = Value.int IntKind.i64 (pos s y.1 : Int) ∧ Value.slice a' (n + 1) c' = Value.slice y.2.1 y.1 y.2.2 ∧
        (y.1 ≤ cnt s ∧ Made w w4 103 3 y.2.1 y.1 ((List.range y.1).flatMap (sgnV s)) y.2.2) ∧ cnt s - y.1 < cnt s - n := by
      intro b w3 v hv hnw
      obtain ⟨a', c', w4, hrun, hko, hm4, _⟩ := (hm.later hw2).pushN (P := Tryd.prog) (ty := 90) elemSign (by decide) (m := 1) (news := sgnV s n) (by unfold sgnV sg; rw [← hv]; exact hnw) rfl (sgn_one s n) (by unfold maxLen; omega) (.inr (by omega))
      have hle := dcN_le hp
      refine ⟨a', c', w4, hrun, hko, inr_i64 (by omega) (by omega), (n + 1, a', c'), ?_, rfl, ⟨by dsimp only; omega, ?_⟩, by dsimp only; omega⟩
      · dsimp only; rw [pos_succ hp]; simp
      · dsimp only; rw [List.range_succ, List.flatMap_append]; simpa using hm4
    refine bcase_mk (fun h => ?_) (fun h => ?_)
    · intro b w3 hnw
      refine key b w3 _ ?_ hnw
      have h5 : dcR s (pos s n) = 65533 := by simpa using h
      unfold isBad
      rw [Bool.eq_iff_iff, beq_iff_eq, decide_eq_true_eq]
      omega
    · intro b w3 hnw
      refine key b w3 _ ?_ hnw
      have h5 : dcR s (pos s n) ≠ 65533 := by simpa using h
      unfold isBad
      simp [h5]
  · have hn2 := cnt_end (s := s) (by simpa using h) hn
    subst hn2
    exact ⟨(a, cnt s, c), rfl, rfl, hm⟩

set_option maxRecDepth 10000 in
theorem first_ok : sFirst.Ok Tryd.prog 85 := by
  refine first_vc ⟨ralone_ok, takes_ok, trivial⟩ ?_
  rintro ⟨s, k, a, c⟩ w ⟨hk, hsm, hc⟩
  dsimp only at hk hsm hc ⊢
  have hcs := cnt_le s
  have rd : ∀ {w' : World} {i j : Nat} {v : Value} {K : Nat → Nat → Prop}, Ext w w' → k + i < cnt s → j < 3 → (sgnV s (k + i))[j]? = some v → (∀ b o, w'.cell? ⟨b, o + i * 3 + j, none⟩ = some v → K b o) → ptrE a K := fun e hi hj hv hK =>
    (hc.ext e).fld (by rw [sgn_at hi hj]; exact hv) hK
  have E0 := Ext.refl w
  refine ⟨0, rfl, by omega, rd E0 (i := 0) (j := 2) hk (by decide) rfl fun b o hb => ⟨_, hb, ?_⟩⟩
  change bcase (isBad s k) _ _
  refine bcase_mk (fun hbad => ⟨1, rfl, by unfold firstN; rw [if_pos hbad], E0⟩) (fun hbad => ?_)
  have hcr : ∀ n1 : Int, n1 = sg s (k + 1) → 1 < cnt s - k → (sg s k == 13) = true → (n1 == 10) = crB s k := by
    rintro n1 rfl h1 h2
    unfold crB
    rw [h2, decide_eq_true (show k + 1 < cnt s by omega)]; rfl
  refine ⟨?_, ?_⟩
  · refine ⟨0, rfl, by omega, rd E0 (i := 0) (j := 0) hk (by decide) rfl fun b o hb => ⟨_, hb, ?_⟩⟩
    change bcase (sg s k == 13) _ _
    refine bcase_mk (fun h1 => ?_) (fun h1 => ⟨(), ?_, E0⟩)
    · refine bcase_mk (fun h2 => ?_) (fun h2 => ⟨(), ?_, E0⟩)
      · have h2 : 1 < cnt s - k := by have := of_decide_eq_true h2; omega
        refine ⟨1, rfl, h2, rd E0 (i := 1) (j := 0) (by omega) (by decide) rfl fun b o hb => ⟨_, hb, (), ?_, E0⟩⟩
        rw [hcr _ rfl h2 h1]
      · have h2 : ¬ 1 < cnt s - k := by have := of_decide_eq_false h2; omega
        congr 1
        unfold crB
        rw [decide_eq_false (show ¬ k + 1 < cnt s by omega)]; simp
    · congr 1
      have h1 : (sg s k == 13) = false := h1
      unfold crB; rw [h1]; rfl
  rintro _ _ w1 e1
  refine bcase_mk (fun hC => ⟨2, rfl, by unfold firstN; rw [if_neg (by rw [hbad]; decide), if_pos hC], e1⟩) (fun hC => ?_)
  refine ⟨0, rfl, by omega, rd e1 (i := 0) (j := 0) hk (by decide) rfl fun b o hb => ⟨_, hb, sg s k, rfl, trivial, ?_⟩⟩
  rintro _ w2 ⟨rfl, e2⟩
  have E2 := e1.trans e2
  refine bcase_mk (fun hA => ⟨1, rfl, by unfold firstN; rw [if_neg (by rw [hbad]; decide), if_neg (by rw [hC]; decide), if_pos hA], E2⟩) (fun hA => ?_)
  have hF : firstN s k = goN s k 32 1 := by unfold firstN; rw [if_neg (by rw [hbad]; decide), if_neg (by rw [hC]; decide), if_neg (by rw [hA]; decide)]
  refine ⟨⟨1, rfl, Nat.le_refl _, by omega, by decide, by rw [hF], Ext.refl _⟩, ?_⟩
  rintro _ n w3 ⟨n1, n2, n3, n4, e3⟩ w4 hd
  have E3 := E2.trans e3
  have E4 := E3.trans hd.ext
  have stop : goB s k n = false → n = firstN s k := fun h => by rw [← n4, goN_stop h]
  refine bcase_mk (fun h1 => ?_) (fun h1 => ⟨n, rfl, stop ?_, E4⟩)
  · have h1 : k + n < cnt s := by have := of_decide_eq_true h1; omega
    refine bcase_mk (fun h2 => ?_) (fun h2 => ⟨n, rfl, stop ?_, E4⟩)
    · have h2 : n < 32 := by have := of_decide_eq_true h2; omega
      have hg : ∀ {b : Bool}, isBad s (k + n) = b → goB s k n = (!b && takesB (sg s k) (sg s (k + n - 1)) (sg s (k + n)) n) := fun hb => by
        unfold goB; rw [decide_eq_true h1, decide_eq_true h2, hb]; simp
      refine ⟨n, rfl, by omega, rd E3 (j := 2) h1 (by decide) rfl fun b o hb => ⟨_, hb, ?_⟩⟩
      refine bcase_mk (fun h3 => ?_) (fun h3 => ⟨n, rfl, stop ?_, E4⟩)
      · have h3 : isBad s (k + n) = false := by simpa using h3
        refine ⟨0, rfl, by omega, rd E3 (i := 0) (j := 0) hk (by decide) rfl fun b o hb => ⟨_, hb, inr_i64 (by omega) (by omega), n - 1, by omega, by omega, rd E3 (i := n - 1) (j := 0) (by omega) (by decide) rfl fun b o hb => ⟨_, hb, n, rfl, by omega, rd E3 (i := n) (j := 0) h1 (by decide) rfl fun b o hb => ⟨_, hb, ?_⟩⟩⟩⟩
        refine ⟨⟨sg s k, sg s (k + (n - 1)), sg s (k + n), n⟩, rfl, trivial, ?_⟩
        rintro _ w5 ⟨rfl, e5⟩
        dsimp only
        rw [show k + (n - 1) = k + n - 1 from by omega]
        have hg := hg h3
        refine bcase_mk (fun h4 => ?_) (fun h4 => ⟨n, rfl, stop (by rw [hg, h4]; rfl), E4.trans e5⟩)
        have hG : goB s k n = true := by rw [hg, h4]; rfl
        refine ⟨inr_i64 (by omega) (by omega), n + 1, by simp, ⟨by omega, by omega, by omega, ?_, (e3.trans hd.ext).trans e5⟩, by omega⟩
        rw [← (goN_step hG).2, n4]
      · have h3 : isBad s (k + n) = true := by simpa using h3
        rw [hg h3]; rfl
    · have h2 : ¬ n < 32 := by have := of_decide_eq_false h2; omega
      unfold goB; rw [decide_eq_false h2]; simp
  · have h1 : ¬ k + n < cnt s := by have := of_decide_eq_false h1; omega
    unfold goB; rw [decide_eq_false h1]; rfl

set_option maxRecDepth 10000 in
theorem rallP_ok : sRAllP.Ok Tryd.prog 56 := by
  refine rallP_vc ⟨signs_ok, first_ok, trivial⟩ ?_
  rintro (s : ByteArray) w ⟨hU, hsm⟩
  have hcs := cnt_le s
  have hncl := ncl_le s
  refine ⟨s, rfl, ⟨hU, hsm⟩, ?_⟩
  rintro ⟨a, n, c⟩ w1 ⟨hn, hm0⟩
  dsimp only at hn hm0 ⊢
  subst hn
  have hle := hm0.row.le
  have hb0 : bk s 0 = 0 := rfl
  refine ⟨⟨⟨0, a, c, none, 0⟩, by rw [hb0, Nat.sub_zero], rfl, Nat.zero_le _, by dsimp only; rw [hb0]; omega, by dsimp only; rw [hb0, List.drop_zero]; exact hm0.row.cells, Made.nil _ _ _⟩, ?_⟩
  rintro _ ⟨i, la, lc, oa, oc⟩ w2 ⟨hi, hlc, hcl, hm⟩
  dsimp only at hi hlc hcl hm ⊢
  refine bcase_mk (fun h => ?_) (fun h => ?_)
  · have hbk : bk s i < cnt s := by have := of_decide_eq_true h; omega
    have hlt := bk_lt.2 hbk
    have hsu := bk_succ hlt
    have hle1 := bk_le s (i + 1)
    have hc2 := hcl.ext hm.ext
    have hfit := first_fit s _ hbk
    refine ⟨⟨s, bk s i, la, lc⟩, rfl, ⟨hbk, hsm, hc2⟩, ?_⟩
    rintro _ w3 ⟨rfl, e3⟩
    dsimp only
    have hc3 := hc2.ext e3
    have rd : ∀ {j : Nat} {K : Nat → Nat → Prop}, bk s i + j < cnt s → (∀ b o, w3.cell? ⟨b, o + j * 3 + 1, none⟩ = some (.int .i64 (pos s (bk s i + j))) → K b o) → ptrE la K := fun hj hK =>
      hc3.fld (s := 3) (j := 1) (by rw [sgn_at hj (by decide)]; rfl) hK
    have e01 : ∀ {w4 : World}, Ext w3 w4 → Ext w1 w4 := fun e => (hm.ext.trans e3).trans e
    -- the piece is put behind
    have fin : ∀ {w4 w5 : World} {b q : Nat}, Drew w3 w4 → q = bp s (i + 1) → New w4 (.cells #[.int .i64 (pos s (bk s i) : Int), .string (s.extract (pos s (bk s i)) q)] 44) b w5 → Below w4.heap.size w4 w5 ∧ ∃ a' c' w6, AppRun Tryd.prog #[42, 42] 42 (.slice oa i oc) (.slice (some ⟨b, 0, none⟩) 1 1) w5 a' (i + 1) c' w6 ∧ KO w5 w6 ∧
        ∃ ln : Nat, ((firstN s (bk s i) : Nat) : Int) = (ln : Int) ∧ ln ≤ cnt s - bk s i ∧ ∀ ad' : Option Addr, SlAt la ad' lc ln 3 → ∃ y : GAl, Value.slice ad' (cnt s - bk s i - ln) (lc - ln) = .slice y.la (cnt s - bk s y.i) y.lc ∧ Value.slice a' (i + 1) c' = .slice y.oa y.i y.oc ∧
          (y.i ≤ ncl s ∧ cnt s - bk s y.i ≤ y.lc ∧ CellsAt w1 y.la (((List.range (cnt s)).drop (bk s y.i)).flatMap (sgnV s)) ∧ Made w1 w6 44 2 y.oa y.i ((List.range y.i).flatMap (pcV s)) y.oc) ∧ ncl s - y.i < ncl s - i := by
      rintro w4 w5 b q hd rfl hnw
      obtain ⟨a', c', w6, hrun, hko, hm6, _⟩ := (hm.later (e3.trans hd.ext)).pushN (P := Tryd.prog) (ty := 42) elemPiece (by decide) (m := 1) (news := pcV s i) hnw rfl (pcV_one s i) (by unfold maxLen; omega) (.inr (by omega))
      refine ⟨hnw.ext, a', c', w6, hrun, hko, firstN s (bk s i), rfl, by omega, fun ad' hsl => ?_⟩
      refine ⟨⟨i + 1, ad', lc - firstN s (bk s i), a', c'⟩, ?_, rfl, ⟨hlt, by dsimp only; omega, ?_, ?_⟩, by dsimp only; omega⟩
      · dsimp only; rw [hsu]; congr 1; omega
      · dsimp only
        have := hcl.drop hsl (by omega) (by rw [flat_len' (s := 3) (fun _ => rfl), List.length_drop, List.length_range]; exact Nat.mul_le_mul_right _ hlc)
        rw [flat_drop (f := sgnV s) (s := 3) (fun _ => rfl), List.drop_drop, ← hsu] at this
        exact this
      · dsimp only; rw [List.range_succ, List.flatMap_append]; simpa using hm6
    refine bcase_mk (fun h1 => ?_) (fun h1 => ?_)
    · have h1 : bk s i + firstN s (bk s i) < cnt s := by have := of_decide_eq_true h1; omega
      refine ⟨_, rfl, by omega, rd h1 fun b o hb => ⟨_, hb, fun w4 hd => ⟨0, rfl, by omega, rd (j := 0) (by omega) fun b1 o1 hb1 => ⟨_, hb1, 0, rfl, by omega, rd (j := 0) (by omega) fun b2 o2 hb2 => ⟨_, hb2, pos s (bk s i), rfl, pos s (bk s i + firstN s (bk s i)), rfl, ?_, pos_le s _, fun b3 w5 hnw => ?_⟩⟩⟩⟩⟩
      · exact pos_mono s (by omega)
      · exact fin hd (by unfold bp; rw [hsu]) hnw
    · have h1 : bk s i + firstN s (bk s i) = cnt s := by have := of_decide_eq_false h1; omega
      intro w4 hd
      refine ⟨0, rfl, by omega, rd (j := 0) (by omega) fun b1 o1 hb1 => ⟨_, hb1, 0, rfl, by omega, rd (j := 0) (by omega) fun b2 o2 hb2 => ⟨_, hb2, pos s (bk s i), rfl, s.size, rfl, pos_le s _, Nat.le_refl _, fun b3 w5 hnw => ?_⟩⟩⟩
      exact fin hd (by unfold bp; rw [hsu, h1, pos_cnt]) hnw
  · have hbk : ¬ bk s i < cnt s := by have := of_decide_eq_false h; omega
    have hie : i = ncl s := by
      by_cases hc : i < ncl s
      · exact absurd (bk_lt.1 hc) hbk
      · omega
    subst hie
    exact ⟨(oa, ncl s, oc), rfl, rfl, hm.earlier hm0.ext⟩

set_option maxRecDepth 10000 in
theorem rnextC_ok : (sSN nextL).Ok Tryd.prog 78 := by
  refine rnextC_vc ⟨signs_ok, first_ok, trivial⟩ ?_
  rintro (s : ByteArray) w ⟨hU, hsm⟩
  refine ⟨s, rfl, ⟨hU, hsm⟩, ?_⟩
  rintro ⟨a, n, c⟩ w1 ⟨hn, hm⟩
  dsimp only at hn hm ⊢
  subst hn
  refine bcase_mk (fun h => ⟨0, rfl, ?_, hm.ext⟩) (fun h => ?_)
  · have h : cnt s = 0 := by simp only [beq_iff_eq] at h; omega
    rw [next_zero (cnt_zero.1 h)]
  have h0 : 0 < cnt s := by simp only [beq_eq_false_iff_ne, ne_eq] at h; omega
  have hz : 0 < s.size := Nat.pos_of_ne_zero (fun e => by have := cnt_zero.2 e; omega)
  refine ⟨⟨s, 0, a, c⟩, by dsimp only; rw [Nat.sub_zero], ⟨h0, hsm, by dsimp only; rw [List.drop_zero]; exact hm.row.cells⟩, ?_⟩
  rintro _ w2 ⟨rfl, e2⟩
  dsimp only
  have hfit := first_fit s 0 h0
  refine bcase_mk (fun h1 => ⟨s.size, rfl, ?_, hm.ext.trans e2⟩) (fun h1 => ?_)
  · have h1 : firstN s 0 = cnt s := by simp only [beq_iff_eq] at h1; omega
    rw [next_first hz, h1, pos_cnt]
  · have h1 : firstN s 0 < cnt s := by simp only [beq_eq_false_iff_ne, ne_eq] at h1; omega
    refine ⟨firstN s 0, rfl, h1, (hm.row.cells.ext e2).fld (s := 3) (j := 1) (v := .int .i64 (pos s (firstN s 0))) ?_ fun b o hb => ⟨_, hb, _, rfl, (next_first hz).symm, hm.ext.trans e2⟩⟩
    rw [flat_at (f := sgnV s) (s := 3) (fun _ => rfl) (List.getElem?_range h1) (by decide)]; rfl

theorem ext_sz {s : ByteArray} {a b : Nat} (h : b ≤ s.size) (h2 : a ≤ b) : ((s.extract a b).size : Int) = (b : Int) - a := by rw [size_ext h]; omega

theorem bord_len (s : ByteArray) : (bordI s).length = ncl s + 1 := by simp [bordI]
theorem bord_at {s : ByteArray} {i : Nat} (h : i ≤ ncl s) : (bordI s)[i]? = some (bp s i : Int) := by
  unfold bordI
  rw [List.getElem?_map, List.getElem?_range (by omega)]; rfl

theorem isB_iff {s : ByteArray} {p : Int} : isB s p = true ↔ ∃ i, i ≤ ncl s ∧ (bp s i : Int) = p := by
  unfold isB
  rw [List.any_eq_true]
  constructor
  · rintro ⟨i, hi, h⟩; exact ⟨i, by have := List.mem_range.1 hi; omega, of_decide_eq_true h⟩
  · rintro ⟨i, hi, h⟩; exact ⟨i, List.mem_range.2 (by omega), decide_eq_true h⟩

set_option maxRecDepth 10000 in
theorem into_ok : sInto.Ok Tryd.prog 70 := by
  refine into_vc trivial ?_
  rintro ⟨n, lo, hi⟩ w _
  dsimp only
  refine bcase_mk (fun h => ⟨_, rfl, by rw [if_pos (of_decide_eq_true h)], rfl⟩) (fun h => ?_)
  have h := of_decide_eq_false h
  refine bcase_mk (fun h1 => ⟨_, rfl, by rw [if_neg h, if_pos (of_decide_eq_true h1)], rfl⟩) (fun h1 => ⟨_, rfl, by rw [if_neg h, if_neg (of_decide_eq_false h1)], rfl⟩)

theorem ix_of {s : ByteArray} {p i : Nat} (hi : i ≤ ncl s) (h1 : ∀ j, j < i → bp s (j + 1) ≤ p) (h2 : i = ncl s ∨ p < bp s (i + 1)) : ixP s p = i := by
  unfold ixP
  rcases Nat.lt_or_eq_of_le hi with hlt | he
  · have : (List.range (ncl s)).find? (fun i => decide (p < bp s (i + 1))) = some i := by
      rw [List.find?_range_eq_some]
      refine ⟨decide_eq_true (h2.resolve_left (by omega)), List.mem_range.2 hlt, fun j hj => ?_⟩
      have := h1 j hj
      simp; omega
    rw [this]; rfl
  · have : (List.range (ncl s)).find? (fun i => decide (p < bp s (i + 1))) = none := by
      rw [List.find?_range_eq_none]
      intro j hj
      have := h1 j (by omega)
      simp; omega
    rw [this, he]; rfl
theorem bp_out {s : ByteArray} {i : Nat} (h : ncl s ≤ i) : bp s i = s.size := by
  unfold bp bk; rw [orb_out (first_fit s) h, pos_cnt]
theorem clamp_eq (s : ByteArray) (p : Int) : (if p < 0 then (0 : Int) else if p > (s.size : Int) then (s.size : Int) else p) = (clampN s p : Int) := by
  unfold clampN
  split
  · rfl
  · split
    · rfl
    · omega

end Go.Proofs.YthpjkgoahneldaaDoor
end

section
/-
  Chapter 3: the program's iterators, and what is told by them.
-/
namespace Go.Proofs.YthpjkgoahneldaaDoor
open Go Go.RowKit Vc Ut Tb Cl Orb

theorem pc_get {s : ByteArray} {k : Nat} (h : k < ncl s) : (pcL s)[k]? = some (pcP s k) := by
  unfold pcL; rw [List.getElem?_map, List.getElem?_range h]; rfl
theorem pc_len (s : ByteArray) : (pcL s).length = ncl s := by simp [pcL]
theorem pcr_get {s : ByteArray} {k : Nat} (h : k < ncl s) : (pcR s)[k]? = some (pcP s (ncl s - 1 - k)) := by
  unfold pcR; rw [List.getElem?_map, List.getElem?_range h]; rfl
theorem pcr_len (s : ByteArray) : (pcR s).length = ncl s := by simp [pcR]
theorem xs_of {l : List (Nat × ByteArray)} {k : Nat} {p : Nat × ByteArray} (h : l[k]? = some p) : (l.map encPc).getD k [] = encPc p := by
  simp only [List.getD_eq_getElem?_getD, List.getElem?_map, h]; rfl
theorem next_drop {s : ByteArray} {i : Nat} (hi : i ≤ ncl s) : nextL (s.extract (bp s i) s.size) + bp s i = bp s (i + 1) := bp_drop hi 1

theorem itPc_ok : itPc.Ok Tryd.prog 101 := by
  refine itPc_vc ⟨cnext_ok, trivial⟩ ?_
  rintro ⟨s, bx⟩ i W ⟨hb, hU, hsm⟩ hi
  dsimp only at hb hU hsm hi ⊢
  have hlen : ((pcL s).map encPc).length = ncl s := by rw [List.length_map, pc_len]
  refine ⟨⟨(0, i.D0), rfl, Nat.zero_le _, hi.j0, Mid.start (Ext.refl _) hi.d0⟩, ?_⟩
  rintro _ ⟨k, D⟩ w1 ⟨hk, hJ, hM⟩
  dsimp only at hk hJ hM ⊢
  have hUw : U8 w1 := hU.fr hM.fr (hi.cd _ (.inr (.inl rfl))) (hi.cd _ (.inr (.inr rfl)))
  have hbw : w1.heap[bx]? = some (.cells #[.string s] 9) := (hM.old (heap_lt hb) (hi.cd bx (.inl rfl))).trans hb
  have hle := bp_le s k
  refine ⟨s, box_cell hbw, ?_⟩
  refine bcase_mk (fun h => ?_) (fun h => ?_)
  · have hlt : k < ncl s := bp_lt.2 (by have := of_decide_eq_true h; omega)
    refine ⟨s, box_cell hbw, bp s k, rfl, hle, Nat.le_refl _, _, rfl, ⟨hUw, ext_size (n := bk s k) hsm⟩, ?_⟩
    rintro _ w2 ⟨rfl, hw2⟩
    have hnd := next_drop hk
    have hle1 := bp_le s (k + 1)
    have hbw2 := hw2.heap hbw
    have e3 : (bp s k : Int) + (nextL (s.extract (bp s k) s.size) : Int) = (bp s (k + 1) : Int) := by omega
    rw [e3]
    have hJ2 := hi.stab.use hJ hw2.size (fun q hq => hw2.block q (hq.elim (fun h => Nat.lt_of_lt_of_le h hM.fr.size) (hM.lt q)))
    have hM2 := hM.own (Fr.of_ext (S := fun _ => False) hw2) (fun q hq => hq.elim)
    refine ⟨s, box_cell hbw2, inr_i64 (by omega) (by omega), bp s k, rfl, bp s (k + 1), rfl, by omega, hle1, rfl, (k, D), ?_, ⟨by dsimp only; rw [hlen]; exact hlt, hJ2, hM2⟩, ?_⟩
    · rw [xs_of (pc_get hlt)]; rfl
    rintro b1 w3 ⟨D', hst, h1, h2⟩
    dsimp only at hst h1 h2
    have hM3 := hM2.step hst
    refine bcase_mk (fun hb1 => ?_) (fun hb1 => ?_)
    · exact ⟨D', hM3, .inr (h2 (by simpa using hb1))⟩
    · exact ⟨inr_i64 (by omega) (by omega), (k + 1, D'), rfl, ⟨hlt, h1 (by simpa using hb1), hM3⟩, by dsimp only; omega⟩
  · have hk2 : k = ncl s := by
      by_cases hc : k < ncl s
      · have := bp_lt.1 hc; have := of_decide_eq_false h; omega
      · omega
    subst hk2
    exact ⟨D, hM, .inl (by rw [hlen]; exact hJ)⟩


theorem cpieces_ok : (sIter 101).Ok Tryd.prog 65 := by
  refine cpieces_vc trivial ?_
  rintro s w _ b w1 hn
  exact ⟨b, rfl, by have := hn.1; omega, hn.heap, hn.ext⟩
theorem call_ok : (sIter 101).Ok Tryd.prog 55 := by
  refine call_vc ⟨cpieces_ok, trivial⟩ ?_
  rintro s w _
  refine ⟨s, rfl, trivial, ?_⟩
  rintro x w1 ⟨h1, h2, h3⟩
  exact ⟨x, rfl, h1, h2, h3⟩

/-- The blocks that a text's iterator looks into. -/
def cC (x : Nat) : Nat → Prop := fun q => q = x ∨ q = 0 ∨ q = 1
theorem cC_lt {x : Nat} {w : World} (hx : x < w.heap.size) (hU : U8 w) : ∀ q, cC x q → q < w.heap.size := by
  rintro q (rfl | rfl | rfl)
  · exact hx
  · exact hU.lt.1
  · exact hU.lt.2
theorem pc_iter {s : ByteArray} {b : Nat} {w : World} (h : w.heap[b]? = some (.cells #[.string s] 9)) (hU : U8 w) (hs : s.size ≤ 67108864) : IterAt Tryd.prog (itV 101 b) ((pcL s).map encPc) (cC b) w := by
  refine itPc_ok (s, b) w ⟨h, hU, hs⟩ (cC_lt (heap_lt h) hU) (fun W hW hq => ⟨(hq b (.inl rfl)).trans h, ?_, hs⟩)
  have k : ∀ (g o : Nat) (v : Value), itPc.C (s, b) g → w.cell? ⟨g, o, none⟩ = some v → W.cell? ⟨g, o, none⟩ = some v := fun g o v hg hc =>
    (World.cell?_of_block (w := w) (hq g hg)).trans hc
  exact ⟨fun c hc => k _ _ _ (.inr (.inl rfl)) (hU.1 c hc), fun i hi => ⟨k _ _ _ (.inr (.inr rfl)) (hU.2 i hi).1, k _ _ _ (.inr (.inr rfl)) (hU.2 i hi).2⟩⟩
def cB (g : GBk) : Nat → Prop := fun q => q = g.bl ∨ q = g.bs ∨ blk g.a = some q
theorem cB_lt {g : GBk} {w : World} (h : BkAt g w) : ∀ q, cB g q → q < w.heap.size := by
  rintro q (rfl | rfl | hq)
  · exact heap_lt h.1
  · exact heap_lt h.2.2
  · exact h.2.1.lt hq

theorem ends_len (s : ByteArray) : (endsI s).length = ncl s := by simp [endsI]
theorem ends_at {s : ByteArray} {i : Nat} (h : i < ncl s) : (endsI s)[i]? = some (bp s (i + 1) : Int) := by
  unfold endsI
  rw [List.getElem?_map, List.getElem?_range h]; rfl


theorem ones_one {a q : Nat} : ones [a] q ↔ q = a := by simp [ones]
theorem ones_two {a b q : Nat} : ones [a, b] q ↔ q = a ∨ q = b := by simp [ones]


theorem cis_ok : sIsB.Ok Tryd.prog 28 := by
  refine cis_vc ⟨cpieces_ok, trivial⟩ ?_
  rintro ⟨s, p⟩ w ⟨hU, hsm⟩ b w1 hn1 b1 w2 hn2
  dsimp only at hU hsm ⊢
  have hut := hU.lt
  have hs1 := hn1.size; have hs2 := hn2.size
  refine ⟨s, rfl, trivial, ?_⟩
  rintro x w3 ⟨hx, hxs, e23⟩
  have e02 := hn1.ext.trans hn2.ext
  have e03 := e02.trans e23
  have hU3 := hU.ext e03
  have hp3 := (hn2.ext.trans e23).heap hn1.heap
  have hb3 := e23.heap hn2.heap
  dsimp only [ptrB]
  have nd : ∀ q, q ≠ b1 → ¬ ones [b1] q := fun q hq h => hq (ones_one.1 h)
  refine ⟨pcL s, cC x, ones [b1], pc_iter hxs hU3 hsm, ⟨?_, ?_⟩, ⟨rfl, fun j hj => by omega, _, hb3⟩, ?_, ?_, ?_, ?_, ?_⟩
  · intro q hq; rw [ones_one] at hq; subst hq; exact heap_lt hb3
  · intro q hq
    refine ⟨cC_lt (heap_lt hxs) hU3 q hq, nd q ?_⟩
    rcases hq with h' | h' | h' <;> omega
  · rintro k D W W' ⟨rfl, hj, v, ha⟩ hsz hq
    exact ⟨rfl, hj, v, hq b1 _ (.inr (ones_one.2 rfl)) ha (.inl rfl)⟩
  · rintro _ k D W W' ⟨rfl, ha⟩ hsz hq
    exact ⟨rfl, hq b1 _ (.inr (ones_one.2 rfl)) ha (.inl rfl)⟩
  · rintro k pp D W hp ⟨rfl, hj, v, ha⟩ hM
    have hkl : k < ncl s := by have := (List.getElem?_eq_some_iff.1 hp).1; rwa [pc_len] at this
    rw [pc_get hkl] at hp
    cases hp
    have hpW := (hM.old (heap_lt hp3) (nd b (by omega))).trans hp3
    refine ⟨p, box_cell hpW, ?_⟩
    refine bcase_mk (fun h => ?_) (fun h => ?_)
    · have h : p ≤ (bp s k : Int) := by have := of_decide_eq_true h; exact this
      refine ⟨p, box_cell hpW, rfl, box_old ha, box_free ha, fun w6 hs6 => ⟨_, Step.stored hs6 (ones_one.2 rfl) hM.lt, rfl, ?_⟩⟩
      have hh := hs6.box ha
      have hv : ((pcP s k).1 : Int) == p ↔ isB s p = true := by
        show ((bp s k : Int) == p) = true ↔ _
        rw [beq_iff_eq, isB_iff]
        constructor
        · intro e; exact ⟨k, by omega, e⟩
        · rintro ⟨i, hi, e⟩
          by_cases hik : i < k
          · have := hj i hik; omega
          · have := bp_mono s (show k ≤ i by omega); omega
      rw [show (((pcP s k).1 : Int) == p) = isB s p from Bool.eq_iff_iff.2 hv] at hh
      exact hh
    · have h : (bp s k : Int) < p := by have := of_decide_eq_false h; exact Int.not_le.1 this
      refine ⟨_, Step.refl hM.lt, rfl, fun j hj' => ?_, v, ha⟩
      by_cases hjk : j = k
      · subst hjk; exact h
      · exact hj j (by omega)
  · rintro D W ⟨rfl, hj, v, ha⟩ hM
    rw [lenX_eq, pc_len] at hj
    have hpW := (hM.old (heap_lt hp3) (nd b (by omega))).trans hp3
    have eW : Ext w W := hM.ext e03 (fun q hq => by rw [ones_one] at hq; omega)
    refine ⟨p, box_cell hpW, rfl, box_old ha, box_free ha, fun w6 hs6 => ⟨_, box_cell (hs6.box ha), fun w7 ht => ⟨_, rfl, ?_, Ext.turn (eW.stored hs6 (by show _ ≤ b1; omega)) ht⟩⟩⟩
    have hv : (p == (s.size : Int)) = true ↔ isB s p = true := by
      rw [beq_iff_eq, isB_iff]
      constructor
      · intro e; exact ⟨ncl s, Nat.le_refl _, by rw [bp_end]; exact e.symm⟩
      · rintro ⟨i, hi, e⟩
        by_cases hik : i < ncl s
        · have := hj i hik; omega
        · have : i = ncl s := by omega
          subst this; rw [bp_end] at e; exact e.symm
    exact Bool.eq_iff_iff.2 hv
  · rintro D W ⟨rfl, ha⟩ hM
    have eW : Ext w W := hM.ext e03 (fun q hq => by rw [ones_one] at hq; omega)
    exact ⟨_, box_cell ha, fun w7 ht => ⟨_, rfl, rfl, Ext.turn eW ht⟩⟩

theorem clamp_min (s : ByteArray) (p : Int) : (if (s.size : Int) < (if (0 : Int) > p then (0 : Int) else p) then (s.size : Int) else if (0 : Int) > p then (0 : Int) else p) = (clampN s p : Int) := by
  unfold clampN
  split <;> split <;> (try split) <;> (try split) <;> omega

theorem bord_cons (s : ByteArray) : bordI s = 0 :: endsI s := by
  unfold bordI endsI
  rw [List.range_succ_eq_map, List.map_cons, List.map_map]
  rfl

end Go.Proofs.YthpjkgoahneldaaDoor
end
