/-
  Chapter 1: whole texts: the document's lists and the program's say the same.
-/
import Derived.Test.YthkcphnkllnfcaaDoorVgB
import Derived.Test.YthkcphnkllnfcaaDoorWkA
set_option linter.unusedVariables false
set_option linter.unusedSimpArgs false
namespace Go.Proofs.YthkcphnkllnfcaaDoor
open Go Go.RowKit Vc Ut

theorem elem32 : ElemOk Tryd.prog 26 21 1 4 := elemOk_mk (.int .i32 0) (by kernel_rfl) (by kernel_rfl) rfl
theorem elem64 : ElemOk Tryd.prog 41 3 1 8 := elemOk_mk (.int .i64 0) (by kernel_rfl) (by kernel_rfl) rfl
theorem elem8 : ElemOk Tryd.prog 47 5 1 1 := elemOk_mk (.int .u8 0) (by kernel_rfl) (by kernel_rfl) rfl
theorem elemOne : ElemOk Tryd.prog 32 39 4 32 := elemOk_mk (.agg #[.int .i64 0, .int .i32 0, .int .i64 0, .bool false]) (by kernel_rfl) (by kernel_rfl) rfl

theorem oneV_len (s : ByteArray) (n : Nat) : (oneV s n).length = 4 := rfl
theorem oneV_one (s : ByteArray) (n : Nat) : ∀ u ∈ oneV s n, u.oneCell' = true := by
  intro u hu
  simp only [oneV, List.mem_cons, List.not_mem_nil, or_false] at hu
  rcases hu with rfl | rfl | rfl | rfl <;> rfl
theorem ones_len (s : ByteArray) (l : List Nat) : (l.flatMap (oneV s)).length = l.length * 4 := flat_len' (oneV_len s) l

theorem ext_size {s : ByteArray} {n : Nat} (h : s.size ≤ 67108864) : (s.extract (pos s n) s.size).size ≤ 67108864 := by
  rw [size_ext (Nat.le_refl _)]; omega
theorem nx_drop {s : ByteArray} {n : Nat} (h : pos s n < s.size) : nxR (s.extract (pos s n) s.size) = dcR s (pos s n) ∧ nxN (s.extract (pos s n) s.size) = dcN s (pos s n) := by
  have hz : ¬ (s.extract (pos s n) s.size).size = 0 := by rw [size_ext (Nat.le_refl _)]; omega
  unfold nxR nxN dcR dcN
  rw [if_neg hz, if_neg hz, decode_drop s (by omega)]
  exact ⟨rfl, rfl⟩

theorem all_ok : (sOnes allN).Ok Tryd.prog 27 := by
  refine all_vc ⟨rnext_ok, trivial⟩ ?_
  rintro (s : ByteArray) w ⟨hU, hsm⟩
  have hcs := cnt_le s
  refine ⟨⟨(0, none, 0), rfl, rfl, Nat.zero_le _, Made.nil _ _ _⟩, ?_⟩
  rintro _ ⟨n, a, c⟩ w1 ⟨hn, hm⟩
  dsimp only at hn hm ⊢
  refine bcase_mk (fun h => ?_) (fun h => ?_)
  · have hp : pos s n < s.size := by simpa using h
    have hlt := cnt_lt.2 hp
    obtain ⟨e1, e2⟩ := nx_drop hp
    refine ⟨pos s n, rfl, by omega, Nat.le_refl _, _, rfl, ⟨hU.ext hm.ext, ext_size hsm⟩, ?_⟩
    rintro ⟨r, k⟩ w2 ⟨hr, hk, hw2⟩
    dsimp only at hr hk ⊢
    rw [e1] at hr; rw [e2] at hk
    subst hr hk
    have key : ∀ (b : Nat) (w3 : World) (v : Bool), v = isBad s n → New w2 (.cells #[.int .i64 (pos s n), .int .i32 (dcR s (pos s n)), .int .i64 (dcN s (pos s n)), .bool v] 39) b w3 →
        ∃ a' c' w4, AppRun Tryd.prog #[32, 32] 32 (.slice a n c) (.slice (some ⟨b, 0, none⟩) 1 1) w3 a' (n + 1) c' w4 ∧ KO w3 w4 ∧ InR IntKind.i64 ((pos s n : Int) + (dcN s (pos s n) : Int)) ∧
        ∃ y : Nat × Option Addr × Nat, Value.int IntKind.i64 ((pos s n : Int) + (dcN s (pos s n) : Int)) = Value.int IntKind.i64 (pos s y.1 : Int) ∧ Value.slice a' (n + 1) c' = Value.slice y.2.1 y.1 y.2.2 ∧
        (y.1 ≤ cnt s ∧ Made w w4 39 4 y.2.1 y.1 ((List.range y.1).flatMap (oneV s)) y.2.2) ∧ cnt s - y.1 < cnt s - n := by
      intro b w3 v hv hnw
      obtain ⟨a', c', w4, hrun, hko, hm4, _⟩ := (hm.later hw2).pushN (P := Tryd.prog) (ty := 32) elemOne (by decide) (m := 1) (news := oneV s n) (by unfold oneV; rw [← hv]; exact hnw) rfl (oneV_one s n) (by unfold maxLen; omega) (.inr (by omega))
      have hle := dcN_le hp
      refine ⟨a', c', w4, hrun, hko, inr_i64 (by omega) (by omega), (n + 1, a', c'), ?_, rfl, ⟨by dsimp only; omega, ?_⟩, by dsimp only; omega⟩
      · dsimp only; rw [pos_succ hp]; simp
      · dsimp only; rw [List.range_succ, List.flatMap_append]; simpa using hm4
    refine bcase_mk (fun h => ?_) (fun h => ?_)
    · have hd : dcN s (pos s n) = 1 := by simp only [beq_iff_eq] at h; omega
      intro b w3 hnw
      refine key b w3 _ ?_ hnw
      unfold isBad
      by_cases h5 : dcR s (pos s n) = 65533 <;> simp [hd, h5]
    · have hd : ¬ dcN s (pos s n) = 1 := by simp only [beq_eq_false_iff_ne, ne_eq] at h; omega
      intro b w3 hnw
      refine key b w3 _ ?_ hnw
      unfold isBad; simp [hd]
  · have hn1 := cnt_end (s := s) (by simpa using h) hn
    subst hn1
    exact ⟨(a, cnt s, c), rfl, by simp [allN], hm⟩

theorem one_cell {s : ByteArray} {l : List Nat} {k j n : Nat} {v : Value} (hk : l[k]? = some n) (hj : (oneV s n)[j]? = some v) : (l.flatMap (oneV s))[k * 4 + j]? = some v := by
  rw [flat_at (oneV_len s) hk (by have := (List.getElem?_eq_some_iff.1 hj).1; simpa [oneV] using this)]; exact hj
theorem all_at {s : ByteArray} {k : Nat} (h : k < cnt s) : (allN s)[k]? = some k := by simp [allN, List.getElem?_range, h]

theorem rlast_ok : (sDec lsR lsN).Ok Tryd.prog 17 := by
  refine rlast_vc ⟨all_ok, trivial⟩ ?_
  rintro (s : ByteArray) w ⟨hU, hsm⟩
  refine ⟨s, rfl, ⟨hU, hsm⟩, ?_⟩
  rintro ⟨a, n, c⟩ w1 ⟨hn, hm⟩
  dsimp only at hn hm ⊢
  have hcn : n = cnt s := by rw [hn]; simp [allN]
  subst hcn
  have hcs := cnt_le s
  refine bcase_mk (fun h => ?_) (fun h => ?_)
  · have h0 : cnt s = 0 := by simp only [beq_iff_eq] at h; omega
    exact ⟨(65533, 0), rfl, by unfold lsR; rw [if_pos h0], by unfold lsN; rw [if_pos h0], hm.ext⟩
  · have h0 : ¬ cnt s = 0 := by simp only [beq_eq_false_iff_ne, ne_eq] at h; omega
    intro w2 hd
    have hat := all_at (s := s) (k := cnt s - 1) (by omega)
    refine ⟨inr_i64 (by omega) (by omega), cnt s - 1, by omega, by omega, hm.row.cells.fld (one_cell (j := 1) hat rfl) fun b o hb => ⟨_, hb, inr_i64 (by omega) (by omega), cnt s - 1, by omega, by omega, hm.row.cells.fld (one_cell (j := 2) hat rfl) fun b1 o1 hb1 => ⟨_, hb1, (_, _), rfl, ?_, ?_, Ext.trans hm.ext hd.ext⟩⟩⟩
    · show dcR s _ = lsR s; unfold lsR; rw [if_neg h0]
    · show dcN s _ = lsN s; unfold lsN; rw [if_neg h0]

theorem back_at {s : ByteArray} {k : Nat} (h : k < cnt s) : (backN s)[k]? = some (cnt s - 1 - k) := by
  simp [backN, List.getElem?_map, List.getElem?_range, h]
theorem back_len (s : ByteArray) : (backN s).length = cnt s := by simp [backN]

theorem rback_ok : (sOnes backN).Ok Tryd.prog 28 := by
  refine rback_vc ⟨all_ok, trivial⟩ ?_
  rintro (s : ByteArray) w ⟨hU, hsm⟩
  have hcs := cnt_le s
  refine ⟨s, rfl, ⟨hU, hsm⟩, ?_⟩
  rintro ⟨la, n, lc⟩ w1 ⟨hn, hl⟩
  dsimp only at hn hl ⊢
  have hcn : n = cnt s := by rw [hn]; simp [allN]
  subst hcn
  refine ⟨inr_i64 (by omega) (by omega), ⟨(0, none, 0), by simp, rfl, Nat.zero_le _, Made.nil _ _ _⟩, ?_⟩
  rintro _ ⟨k, a, c⟩ w2 ⟨hk, hm⟩
  dsimp only at hk hm ⊢
  refine bcase_mk (fun h => ?_) (fun h => ?_)
  · have hk1 : k < cnt s := by simp only [ge_iff_le, decide_eq_true_eq] at h; omega
    have hat := all_at (s := s) (k := cnt s - 1 - k) (by omega)
    refine ⟨cnt s - 1 - k, by omega, by omega, (hl.row.cells.ext hm.ext).elem (s := 4) (k := cnt s - 1 - k) (by decide) (by rw [ones_len]; simp [allN]; omega) fun b o hb => ?_⟩
    have c0 := hb 0 _ (one_cell (j := 0) hat rfl)
    have c1 := hb 1 _ (one_cell (j := 1) hat rfl)
    have c2 := hb 2 _ (one_cell (j := 2) hat rfl)
    have c3 := hb 3 _ (one_cell (j := 3) hat rfl)
    rw [Nat.add_zero] at c0
    refine ⟨_, c0, _, c1, _, c2, _, c3, fun b2 w3 hnw => ?_⟩
    obtain ⟨a', c', w4, hrun, hko, hm4, _⟩ := hm.pushN (P := Tryd.prog) (ty := 32) elemOne (by decide) (m := 1) (news := oneV s (cnt s - 1 - k)) hnw rfl (oneV_one s _) (by unfold maxLen; omega) (.inr (by omega))
    refine ⟨a', c', w4, hrun, hko, inr_i64 (by omega) (by omega), (k + 1, a', c'), ?_, rfl, ⟨by dsimp only; omega, ?_⟩, by dsimp only; omega⟩
    · dsimp only; congr 1; omega
    · dsimp only
      rw [List.take_add_one, back_at hk1, List.flatMap_append]
      simpa using hm4
  · have hk1 : k = cnt s := by simp only [ge_iff_le, decide_eq_false_iff_not] at h; omega
    subst hk1
    rw [List.take_of_length_le (by rw [back_len]; exact Nat.le_refl _)] at hm
    exact ⟨(a, cnt s, c), rfl, (back_len s).symm, hm.earlier hl.ext⟩

theorem rrunes_ok : (sSL .i32 21 runes).Ok Tryd.prog 34 := by
  refine rrunes_vc ⟨all_ok, trivial⟩ ?_
  rintro (s : ByteArray) w ⟨hU, hsm⟩
  have hcs := cnt_le s
  refine ⟨s, rfl, ⟨hU, hsm⟩, ?_⟩
  rintro ⟨la, n, lc⟩ w1 ⟨hn, hl⟩
  dsimp only at hn hl ⊢
  have hcn : n = cnt s := by rw [hn]; simp [allN]
  subst hcn
  refine ⟨⟨(0, none, 0), rfl, rfl, Nat.zero_le _, Made.nil _ _ _⟩, ?_⟩
  rintro _ ⟨k, a, c⟩ w2 ⟨hk, hm⟩
  dsimp only at hk hm ⊢
  refine bcase_mk (fun h => ?_) (fun h => ?_)
  · have hk1 : k < cnt s := by simpa using h
    have hat := all_at hk1
    refine ⟨k, rfl, hk1, (hl.row.cells.ext hm.ext).fld (one_cell (j := 1) hat rfl) fun b o hb => ⟨_, hb, fun b2 w3 hnw => ?_⟩⟩
    obtain ⟨a', c', w4, hrun, hko, hm4, _⟩ := hm.pushN (P := Tryd.prog) (ty := 26) elem32 (by decide) (m := 1) (news := [.int .i32 (dcR s (pos s k))]) hnw rfl (by simp [Value.oneCell']) (by unfold maxLen; omega) (.inr (by omega))
    refine ⟨a', c', w4, hrun, hko, inr_i64 (by omega) (by omega), (k + 1, a', c'), by simp, rfl, ⟨by dsimp only; omega, ?_⟩, by dsimp only; omega⟩
    dsimp only
    rw [getD_take_map (by rw [runes_len]; exact hk1), runes_at hk1]
    exact hm4
  · have hk1 : k = cnt s := by simp only [decide_eq_false_iff_not] at h; omega
    subst hk1
    rw [List.take_of_length_le (by rw [runes_len]; exact Nat.le_refl _)] at hm
    exact ⟨(a, cnt s, c), rfl, (runes_len s).symm, hm.earlier hl.ext⟩

theorem badT_succ (s : ByteArray) (n : Nat) : badT s (n + 1) = badT s n ++ (if isBad s n then [(pos s n : Int)] else []) := by
  unfold badT
  rw [List.range_succ, List.filter_append, List.map_append]
  congr 1
  by_cases h : isBad s n = true <;> simp [h]
theorem badT_len (s : ByteArray) (n : Nat) : (badT s n).length ≤ n := by
  unfold badT; rw [List.length_map]; have := List.length_filter_le (isBad s) (List.range n); simpa using this

theorem rbad_ok : (sSL .i64 3 badL).Ok Tryd.prog 33 := by
  refine rbad_vc ⟨all_ok, trivial⟩ ?_
  rintro (s : ByteArray) w ⟨hU, hsm⟩
  have hcs := cnt_le s
  refine ⟨s, rfl, ⟨hU, hsm⟩, ?_⟩
  rintro ⟨la, n, lc⟩ w1 ⟨hn, hl⟩
  dsimp only at hn hl ⊢
  have hcn : n = cnt s := by rw [hn]; simp [allN]
  subst hcn
  refine ⟨⟨(0, none, 0), rfl, rfl, Nat.zero_le _, Made.nil _ _ _⟩, ?_⟩
  rintro _ ⟨k, a, c⟩ w2 ⟨hk, hm⟩
  dsimp only at hk hm ⊢
  have hbl := badT_len s k
  refine bcase_mk (fun h => ?_) (fun h => ?_)
  · have hk1 : k < cnt s := by simpa using h
    have hat := all_at hk1
    have hl2 := hl.row.cells.ext hm.ext
    refine ⟨k, rfl, hk1, hl2.fld (one_cell (j := 3) hat rfl) fun b o hb => ⟨_, hb, ?_⟩⟩
    refine bcase_mk (fun hbad => ?_) (fun hbad => ?_)
    · have c0 := one_cell (s := s) (j := 0) hat rfl
      refine ⟨k, rfl, hk1, hl2.fld (j := 0) c0 fun b1 o1 hb1 => ⟨_, hb1, fun b2 w3 hnw => ?_⟩⟩
      obtain ⟨a', c', w4, hrun, hko, hm4, _⟩ := hm.pushN (P := Tryd.prog) (ty := 41) elem64 (by decide) (m := 1) (news := [.int .i64 (pos s k)]) hnw rfl (by simp [Value.oneCell']) (by unfold maxLen; omega) (.inr (by omega))
      refine ⟨a', c', w4, hrun, hko, inr_i64 (by omega) (by omega), (k + 1, a', c'), by simp, ?_, ⟨by dsimp only; omega, ?_⟩, by dsimp only; omega⟩
      · dsimp only; rw [badT_succ, if_pos hbad]; simp
      · dsimp only; rw [badT_succ, if_pos hbad]; simpa using hm4
    · refine ⟨inr_i64 (by omega) (by omega), (k + 1, a, c), by simp, ?_, ⟨by dsimp only; omega, ?_⟩, by dsimp only; omega⟩
      · dsimp only; rw [badT_succ, if_neg (by simp [hbad])]; simp
      · dsimp only; rw [badT_succ, if_neg (by simp [hbad])]; simpa using hm
  · have hk1 : k = cnt s := by simp only [decide_eq_false_iff_not] at h; omega
    subst hk1
    exact ⟨(a, _, c), rfl, rfl, hm.earlier hl.ext⟩

theorem grown_heap {w w1 : World} {a : Option Addr} {b : Nat} {o : Obj} (h : w.grownBy w1 (blk a)) (hb : w.heap[b]? = some o) (hne : blk a ≠ some b) : w1.heap[b]? = some o :=
  (h.block b (Array.getElem?_eq_some_iff.1 hb).1 (fun e => hne e.symm)).trans hb
theorem row_apart {w : World} {e : TypeId} {s n c b : Nat} {ad : Option Addr} {vs : List Value} {t : ByteArray} {i : Nat} (h : Row w e s ad n vs c) (hb : w.heap[b]? = some (.stringIter t i)) : blk ad ≠ some b := by
  rcases h.2 with ⟨rfl, _⟩ | ⟨g, cur, rfl, h1, _⟩
  · simp [blk]
  · intro hh
    simp only [blk, Option.map_some, Option.some.injEq] at hh
    subst hh; rw [hb] at h1; cases h1

theorem bad_ok : (sSL .i64 3 badL).Ok Tryd.prog 35 := by
  refine bad_vc ⟨dec_ok, trivial⟩ ?_
  rintro (s : ByteArray) w ⟨hU, hsm⟩
  have hcs := cnt_le s
  rintro b w1 hn
  have hb0 : b = w.heap.size := hn.1
  refine ⟨⟨(0, none, 0), rfl, Nat.zero_le _, (Made.nil w _ _).later hn.ext, b, rfl, by omega, hn.heap⟩, ?_⟩
  rintro _ ⟨k, a, c⟩ w2 ⟨hk, hm, b', hb', hB, hit⟩
  dsimp only at hk hm hit ⊢
  obtain rfl : b = b' := by simpa using hb'
  have hbl := badT_len s k
  refine ⟨s, pos s k, hit, ?_⟩
  refine bcase_mk (fun h => ?_) (fun h => ?_)
  · have hp : pos s k < s.size := by simpa using h
    have hlt := cnt_lt.2 hp
    obtain ⟨e1, e2⟩ := nx_drop hp
    intro w3 hnx
    have hm3 := hm.nexted hnx ⟨_, _, hit⟩ hB
    have hit3 := hnx.heap hit
    rw [← pos_succ hp] at hit3
    refine ⟨pos s k, rfl, by omega, Nat.le_refl _, _, rfl, ⟨hU.ext hm3.ext, ext_size hsm⟩, ?_⟩
    rintro ⟨r, m⟩ w4 ⟨hr, hmm, hw4⟩
    dsimp only at hr hmm ⊢
    rw [e1] at hr; rw [e2] at hmm
    subst hr hmm
    have hm4 := hm3.later hw4
    have hit4 := hw4.heap hit3
    refine bcase_mk (fun h => ?_) (fun h => ?_)
    · have hnb : isBad s k = false := by
        unfold isBad
        simp only [Bool.or_eq_true, bne_iff_ne, ne_eq] at h
        simp only [decide_eq_false_iff_not]; omega
      refine ⟨(k + 1, a, c), ?_, ⟨by dsimp only; omega, ?_, b, rfl, hB, hit4⟩, by dsimp only; omega⟩
      · dsimp only; rw [badT_succ, if_neg (by simp [hnb])]; simp
      · dsimp only; rw [badT_succ, if_neg (by simp [hnb])]; simpa using hm4
    · have hbd : isBad s k = true := by
        unfold isBad
        simp only [Bool.or_eq_false_iff, bne_eq_false_iff_eq] at h
        simp only [decide_eq_true_eq]; omega
      intro b1 w5 hnw
      obtain ⟨a', c', w6, hrun, hko, hrow, hg, hor, _⟩ := hm4.row.pushN (P := Tryd.prog) (ty := 41) elem64 (by decide) (m := 1) (news := [.int .i64 (pos s k)]) hnw rfl (by simp [Value.oneCell']) (by unfold maxLen; omega) (.inr (by omega))
      have hit5 := hnw.ext.heap hit4
      have hit6 := grown_heap hg hit5 (row_apart (hm4.row.ext hnw.ext) hit5)
      have hm6 := (hm4.later hnw.ext).grown hrow hg hor
      refine ⟨a', c', w6, hrun, hko, (k + 1, a', c'), ?_, ⟨by dsimp only; omega, ?_, b, rfl, hB, hit6⟩, by dsimp only; omega⟩
      · dsimp only; rw [badT_succ, if_pos hbd]; simp
      · dsimp only; rw [badT_succ, if_pos hbd]; simpa using hm6
  · have hk1 := cnt_end (s := s) (by simpa using h) hk
    subst hk1
    exact ⟨(a, _, c), rfl, rfl, hm⟩

theorem newRunes_made {w w1 : World} {s : ByteArray} {e c b : Nat} (h : NewRunes w s e c b w1) : Made w w1 e 1 (some ⟨b, 0, none⟩) (runesV s).length ((runes s).map (Value.int .i32)) c := by
  obtain ⟨h1, h2, rfl, rfl⟩ := h
  have hext : Ext w (w.drew.alloc (.cells (runesV s ++ List.replicate (c - (runesV s).length) (Value.int .i32 0)).toArray e)) := ((Below.refl w.heap.size w).drew).alloc (Nat.le_refl _) _
  refine ⟨⟨by rw [runesV_eq, Nat.mul_one], .inr ⟨w.heap.size, (runesV s ++ List.replicate (c - (runesV s).length) (Value.int .i32 0)).toArray, rfl, ?_, h1, h2, ?_, ?_⟩⟩, ?_, hext⟩
  · show (w.heap.push _)[w.heap.size]? = _
    simp
  · simp; omega
  · rw [Nat.mul_one, List.take_left' rfl, runesV_eq]
  · intro g hg; simp [blk] at hg; omega

theorem runesV_len (s : ByteArray) : (runesV s).length = cnt s := by rw [runesV_eq, List.length_map, runes_len]

theorem runes_ok : (sSL .i32 21 runes).Ok Tryd.prog 24 := by
  refine runes_vc trivial ?_
  rintro (s : ByteArray) w ⟨hU, hsm⟩
  have hcs := cnt_le s
  refine ⟨by rw [runesV_len]; omega, fun c b w1 hn => ⟨(_, _, _), rfl, by rw [runesV_len, runes_len], newRunes_made hn⟩⟩
theorem count_ok : (sSN cnt).Ok Tryd.prog 37 := by
  refine count_vc trivial ?_
  rintro (s : ByteArray) w ⟨hU, hsm⟩
  have hcs := cnt_le s
  refine ⟨by rw [runesV_len]; omega, fun c b w1 hn => ⟨_, rfl, runesV_len s, (newRunes_made hn).ext⟩⟩

theorem runesIn_of {w : World} {ad : Option Addr} {xs : List Int} (h : CellsAt w ad (xs.map (Value.int .i32))) : RunesIn w ad xs.length xs := by
  refine ⟨rfl, ?_⟩
  rcases h with h | ⟨b, o, rfl, h⟩
  · left; simpa using h
  · right
    refine ⟨b, o, rfl, fun j hj => h j _ ?_⟩
    simp [List.getD, hj]
theorem bytesIn_of {w : World} {ad : Option Addr} {n : Nat} {s : ByteArray} (hn : n = s.size) (h : CellsAt w ad (s.data.toList.map fun b => Value.int .u8 (b.toNat : Int))) : BytesIn w ad n s := by
  refine ⟨hn.symm, ?_⟩
  rcases h with h | ⟨b, o, rfl, h⟩
  · left; have := size_list s; rw [List.map_eq_nil_iff] at h; rw [h] at this; simp at this; omega
  · right
    refine ⟨b, o, rfl, fun j hj => h j _ ?_⟩
    have hl := size_list s
    rw [List.getElem?_map, List.getD_eq_getElem?_getD, List.getElem?_eq_getElem (by omega)]; rfl

theorem text_ok : (sLS runesBytes).Ok Tryd.prog 21 := by
  refine text_vc trivial ?_
  rintro ⟨ad, c, xs⟩ w ⟨⟨hc, hl⟩, hsm⟩
  exact ⟨xs, runesIn_of hc, _, rfl, rfl, Ext.refl _⟩
theorem clean_ok : (sSS (fun s => runesBytes (runes s))).Ok Tryd.prog 38 := by
  refine clean_vc trivial ?_
  rintro (s : ByteArray) w ⟨hU, hsm⟩
  have hcs := cnt_le s
  refine ⟨by rw [runesV_len]; omega, fun c b w1 hn => ⟨runes s, ?_, _, rfl, rfl, (newRunes_made hn).ext⟩⟩
  have := runesIn_of (newRunes_made hn).row.cells
  rwa [runes_len, ← runesV_len] at this

set_option maxRecDepth 1000000 in
theorem put_ok : sPut.Ok Tryd.prog 52 := by
  refine put_vc trivial ?_
  rintro ⟨W, ad, c, vs, r⟩ w ⟨hm, hsm⟩
  dsimp only at hm hsm ⊢
  have hle := encC_le r
  refine ⟨bcase_mk (fun h => ⟨(), ?_, rfl⟩) (fun h => ⟨(), ?_, rfl⟩), ?_⟩
  · simp only [Bool.or_eq_true, Bool.and_eq_true, decide_eq_true_eq] at h
    unfold encC; rw [if_neg (by omega)]; rfl
  · simp only [Bool.or_eq_false_iff, Bool.and_eq_false_iff, decide_eq_false_iff_not] at h
    unfold encC; rw [if_pos (by omega)]; congr 1; omega
  rintro _ _ w' hw'; replace hw' := hw'.symm; subst hw'
  have fin : ∀ (m : Nat) (b : Nat) (w1 : World) (news : List Int), encL r = news → news.length = m → m ≤ 4 → New w (.cells (news.map (Value.int .u8)).toArray 5) b w1 →
      ∃ a' c' w2, AppRun Tryd.prog #[47, 47] 47 (.slice ad vs.length c) (.slice (some ⟨b, 0, none⟩) m m) w1 a' (vs.length + m) c' w2 ∧ KO w1 w2 ∧
      ∃ x : Option Addr × Nat × Nat, Value.slice a' (vs.length + m) c' = Value.slice x.1 x.2.1 x.2.2 ∧ x.2.1 = (vs ++ encL r).length ∧ Made W w2 5 1 x.1 x.2.1 ((vs ++ encL r).map (Value.int .u8)) x.2.2 := by
    intro m b w1 news he hl hm4 hnw
    obtain ⟨a', c', w2, hrun, hko, hm2, _⟩ := hm.pushN (P := Tryd.prog) (ty := 47) elem8 (by decide) (m := m) (news := news.map (Value.int .u8)) hnw (by rw [List.length_map, hl, Nat.mul_one]) (one_ints _ _) (by unfold maxLen; omega) (.inr (by omega))
    refine ⟨a', c', w2, hrun, hko, (a', _, c'), rfl, by rw [he, List.length_append, hl], ?_⟩
    rw [he, List.map_append]; exact hm2
  refine bcase_mk (fun h => ?_) (fun h => ?_)
  · have h1 : encC r < 128 := by simp only [decide_eq_true_eq] at h; omega
    refine ⟨inr_u8 (by omega) (by omega), fun b w1 hnw => fin 1 b w1 [(encC r : Int)] ?_ rfl (by omega) hnw⟩
    unfold encL encN; rw [if_pos h1]; rfl
  have h1 : ¬ encC r < 128 := by simp only [decide_eq_false_iff_not] at h; omega
  refine bcase_mk (fun h => ?_) (fun h => ?_)
  · have h2 : encC r < 2048 := by simp only [decide_eq_true_eq] at h; omega
    refine ⟨by omega, by omega, inr_i32 (by omega) (by omega), inr_i32 (by omega) (by omega), inr_u8 (by omega) (by omega), by omega, by omega, inr_i32 (by omega) (by omega), inr_u8 (by omega) (by omega), fun b w1 hnw => fin 2 b w1 [192 + (encC r : Int) / 64, 128 + (encC r : Int) % 64] ?_ rfl (by omega) hnw⟩
    unfold encL encN; rw [if_neg h1, if_pos h2]; simp
  have h2 : ¬ encC r < 2048 := by simp only [decide_eq_false_iff_not] at h; omega
  refine bcase_mk (fun h => ?_) (fun h => ?_)
  · have h3 : encC r < 65536 := by simp only [decide_eq_true_eq] at h; omega
    refine ⟨by omega, by omega, inr_i32 (by omega) (by omega), inr_i32 (by omega) (by omega), inr_u8 (by omega) (by omega), by omega, by omega, inr_i32 (by omega) (by omega), by omega, by omega, inr_i32 (by omega) (by omega), inr_u8 (by omega) (by omega), by omega, by omega, inr_i32 (by omega) (by omega), inr_u8 (by omega) (by omega),
      fun b w1 hnw => fin 3 b w1 [224 + (encC r : Int) / 4096, 128 + (encC r : Int) / 64 % 64, 128 + (encC r : Int) % 64] ?_ rfl (by omega) hnw⟩
    unfold encL encN; rw [if_neg h1, if_neg h2, if_pos h3]; simp
  · have h3 : ¬ encC r < 65536 := by simp only [decide_eq_false_iff_not] at h; omega
    refine ⟨by omega, by omega, inr_i32 (by omega) (by omega), inr_i32 (by omega) (by omega), inr_u8 (by omega) (by omega), by omega, by omega, inr_i32 (by omega) (by omega), by omega, by omega, inr_i32 (by omega) (by omega), inr_u8 (by omega) (by omega), by omega, by omega, inr_i32 (by omega) (by omega), by omega, by omega, inr_i32 (by omega) (by omega), inr_u8 (by omega) (by omega), by omega, by omega, inr_i32 (by omega) (by omega), inr_u8 (by omega) (by omega),
      fun b w1 hnw => fin 4 b w1 [240 + (encC r : Int) / 262144, 128 + (encC r : Int) / 4096 % 64, 128 + (encC r : Int) / 64 % 64, 128 + (encC r : Int) % 64] ?_ rfl (by omega) hnw⟩
    unfold encL encN; rw [if_neg h1, if_neg h2, if_neg h3]; simp

theorem bytes_list (xs : List Int) : (runesBytes xs).data.toList.map (fun b => Value.int .u8 (b.toNat : Int)) = (xs.flatMap encL).map (Value.int .u8) := by
  apply List.ext_getElem?
  intro j
  have hsz := runesBytes_size xs
  have hl := size_list (runesBytes xs)
  rw [List.getElem?_map, List.getElem?_map]
  by_cases h : j < (xs.flatMap encL).length
  · have e := runesBytes_bt xs j h
    have hnn := flat_encL_nonneg xs _ (List.getElem_mem h)
    rw [List.getD_eq_getElem?_getD, List.getD_eq_getElem?_getD, List.getElem?_eq_getElem h, List.getElem?_eq_getElem (by omega)] at e
    rw [List.getElem?_eq_getElem h, List.getElem?_eq_getElem (by omega)]
    simp only [Option.map_some, Option.getD_some] at e ⊢
    congr 2; omega
  · rw [List.getElem?_eq_none (by omega), List.getElem?_eq_none (by omega)]; rfl

theorem rtext_ok : (sLS runesBytes).Ok Tryd.prog 23 := by
  refine rtext_vc ⟨put_ok, trivial⟩ ?_
  rintro ⟨ad, c0, xs⟩ w ⟨⟨hc, hl⟩, hsm⟩
  dsimp only at hc hl hsm ⊢
  refine ⟨⟨(0, none, 0), rfl, rfl, Nat.zero_le _, Made.nil _ _ _⟩, ?_⟩
  rintro _ ⟨i, a, c⟩ w1 ⟨hi, hm⟩
  dsimp only at hi hm ⊢
  have hfl := flat_encL_len (xs.take i)
  have htl : (xs.take i).length ≤ xs.length := by rw [List.length_take]; omega
  refine bcase_mk (fun h => ?_) (fun h => ?_)
  · have hi1 : i < xs.length := by simpa using h
    refine ⟨i, rfl, hi1, (hc.ext hm.ext).int hi1 fun b o hb => ⟨_, hb, ⟨w, a, c, (xs.take i).flatMap encL, xs.getD i 0⟩, rfl, ⟨hm, by dsimp only; omega⟩, ?_⟩⟩
    rintro ⟨pa, pn, pc⟩ w2 ⟨hpn, hp⟩
    dsimp only at hpn hp ⊢
    have e : (xs.take (i + 1)).flatMap encL = (xs.take i).flatMap encL ++ encL (xs.getD i 0) := by rw [take_succ0 hi1, List.flatMap_append]; simp
    refine ⟨inr_i64 (by omega) (by omega), (i + 1, pa, pc), by simp, by dsimp only; rw [e, hpn], ⟨hi1, ?_⟩, by dsimp only; omega⟩
    dsimp only; rw [e, ← hpn]; exact hp
  · have hi1 : i = xs.length := by simp only [decide_eq_false_iff_not] at h; omega
    subst hi1
    rw [List.take_length] at hm ⊢
    refine ⟨runesBytes xs, bytesIn_of (runesBytes_size xs).symm ?_, _, rfl, rfl, hm.ext⟩
    rw [bytes_list]; exact hm.row.cells

theorem rclean_ok : (sSS (fun s => runesBytes (runes s))).Ok Tryd.prog 39 := by
  refine rclean_vc ⟨rrunes_ok, rtext_ok, trivial⟩ ?_
  rintro (s : ByteArray) w ⟨hU, hsm⟩
  have hcs := cnt_le s
  refine ⟨s, rfl, ⟨hU, hsm⟩, ?_⟩
  rintro ⟨a, n, c⟩ w1 ⟨hn, hm⟩
  dsimp only at hn hm ⊢
  subst hn
  have hl := runes_len s
  refine ⟨⟨a, c, runes s⟩, rfl, ⟨at_made hm (by omega), by dsimp only; omega⟩, ?_⟩
  rintro x w2 ⟨hx, hw2⟩
  exact ⟨x, rfl, hx, hm.ext.trans hw2⟩

theorem sameR_ok : (sSame .i32).Ok Tryd.prog 22 := by
  refine sameR_vc trivial ?_
  rintro ⟨⟨aa, ac, xs⟩, ⟨ba, bc, ys⟩⟩ w ⟨⟨ha, hal⟩, ⟨hb, hbl⟩⟩
  dsimp only at ha hal hb hbl ⊢
  rw [bne_nat]
  refine bcase_mk (fun h => ⟨false, rfl, ?_, Ext.refl _⟩) (fun h => ?_)
  · have hne : xs.length ≠ ys.length := by simpa using h
    symm; simp only [decide_eq_false_iff_not]; intro e; exact hne (by rw [e])
  have hlen : xs.length = ys.length := by simpa using h
  refine ⟨⟨0, rfl, Nat.zero_le _, rfl, Ext.refl _⟩, ?_⟩
  rintro _ i w1 ⟨hi, ht, hw1⟩
  refine bcase_mk (fun h => ?_) (fun h => ?_)
  · have hi1 : i < xs.length := by simpa using h
    intro w2 hd
    refine ⟨i, rfl, hi1, (ha.ext hw1).int hi1 fun b o hb1 => ⟨_, hb1, i, rfl, by omega, (hb.ext hw1).int (by omega) fun b2 o2 hb2 => ⟨_, hb2, ?_⟩⟩⟩
    refine bcase_mk (fun h => ⟨false, rfl, ?_, Ext.trans hw1 hd.ext⟩) (fun h => ⟨inr_i64 (by omega) (by omega), i + 1, by simp, ⟨hi1, ?_, Ext.trans hw1 hd.ext⟩, by omega⟩)
    · have hne : xs.getD i 0 ≠ ys.getD i 0 := by simpa using h
      symm; simp only [decide_eq_false_iff_not]; intro e; exact hne (by rw [e])
    · have he : xs.getD i 0 = ys.getD i 0 := by simpa using h
      exact take_eq_step hi1 (by omega) ht he
  · have hi1 : i = xs.length := by simp only [decide_eq_false_iff_not] at h; omega
    subst hi1
    refine ⟨true, rfl, ?_, hw1⟩
    rw [List.take_length, hlen, List.take_length] at ht
    symm; simpa using ht

theorem sameI_ok : (sSame .i64).Ok Tryd.prog 36 := by
  refine sameI_vc trivial ?_
  rintro ⟨⟨aa, ac, xs⟩, ⟨ba, bc, ys⟩⟩ w ⟨⟨ha, hal⟩, ⟨hb, hbl⟩⟩
  dsimp only at ha hal hb hbl ⊢
  rw [bne_nat]
  refine bcase_mk (fun h => ⟨false, rfl, ?_, Ext.refl _⟩) (fun h => ?_)
  · have hne : xs.length ≠ ys.length := by simpa using h
    symm; simp only [decide_eq_false_iff_not]; intro e; exact hne (by rw [e])
  have hlen : xs.length = ys.length := by simpa using h
  refine ⟨⟨0, rfl, Nat.zero_le _, rfl, Ext.refl _⟩, ?_⟩
  rintro _ i w1 ⟨hi, ht, hw1⟩
  refine bcase_mk (fun h => ?_) (fun h => ?_)
  · have hi1 : i < xs.length := by simpa using h
    intro w2 hd
    refine ⟨i, rfl, hi1, (ha.ext hw1).int hi1 fun b o hb1 => ⟨_, hb1, i, rfl, by omega, (hb.ext hw1).int (by omega) fun b2 o2 hb2 => ⟨_, hb2, ?_⟩⟩⟩
    refine bcase_mk (fun h => ⟨false, rfl, ?_, Ext.trans hw1 hd.ext⟩) (fun h => ⟨inr_i64 (by omega) (by omega), i + 1, by simp, ⟨hi1, ?_, Ext.trans hw1 hd.ext⟩, by omega⟩)
    · have hne : xs.getD i 0 ≠ ys.getD i 0 := by simpa using h
      symm; simp only [decide_eq_false_iff_not]; intro e; exact hne (by rw [e])
    · have he : xs.getD i 0 = ys.getD i 0 := by simpa using h
      exact take_eq_step hi1 (by omega) ht he
  · have hi1 : i = xs.length := by simp only [decide_eq_false_iff_not] at h; omega
    subst hi1
    refine ⟨true, rfl, ?_, hw1⟩
    rw [List.take_length, hlen, List.take_length] at ht
    symm; simpa using ht

theorem same_ok : (sSame .i32).Ok Tryd.prog 32 := by
  refine same_vc trivial ?_
  rintro ⟨⟨aa, ac, xs⟩, ⟨ba, bc, ys⟩⟩ w ⟨⟨ha, hal⟩, ⟨hb, hbl⟩⟩
  dsimp only at ha hal hb hbl ⊢
  rw [bne_nat]
  refine bcase_mk (fun h => ⟨false, rfl, ?_, Ext.refl _⟩) (fun h => ?_)
  · have hne : xs.length ≠ ys.length := by simpa using h
    symm; simp only [decide_eq_false_iff_not]; intro e; exact hne (by rw [e])
  have hlen : xs.length = ys.length := by simpa using h
  refine ⟨⟨0, rfl, Nat.zero_le _, rfl, Ext.refl _⟩, ?_⟩
  rintro _ i w1 ⟨hi, ht, hw1⟩
  refine bcase_mk (fun h => ?_) (fun h => ?_)
  · have hi1 : i < xs.length := by simpa using h
    intro w2 hd
    refine ⟨i, rfl, hi1, (ha.ext hw1).int hi1 fun b o hb1 => ⟨_, hb1, i, rfl, by omega, (hb.ext hw1).int (by omega) fun b2 o2 hb2 => ⟨_, hb2, ?_⟩⟩⟩
    refine bcase_mk (fun h => ⟨false, rfl, ?_, Ext.trans hw1 hd.ext⟩) (fun h => ⟨inr_i64 (by omega) (by omega), i + 1, by simp, ⟨hi1, ?_, Ext.trans hw1 hd.ext⟩, by omega⟩)
    · have hne : xs.getD i 0 ≠ ys.getD i 0 := by simpa using h
      symm; simp only [decide_eq_false_iff_not]; intro e; exact hne (by rw [e])
    · have he : xs.getD i 0 = ys.getD i 0 := by simpa using h
      exact take_eq_step hi1 (by omega) ht he
  · have hi1 : i = xs.length := by simp only [decide_eq_false_iff_not] at h; omega
    subst hi1
    refine ⟨true, rfl, ?_, hw1⟩
    rw [List.take_length, hlen, List.take_length] at ht
    symm; simpa using ht

end Go.Proofs.YthkcphnkllnfcaaDoor
