/-
  Clusters in plain words, second part: a text cut at a border; a bad byte stands alone; a cluster by itself.
-/
import Derived.Test.YtniiamobbgnjaaaDoorSpI
set_option linter.unusedVariables false
set_option linter.unusedSimpArgs false
namespace Go.Proofs.YtniiamobbgnjaaaDoor
open Go Go.RowKit Vc Ut Tb Cl Orb

theorem ee {s : ByteArray} {a b c d : Nat} (h : a + d ≤ b) : (s.extract a b).extract c d = s.extract (a + c) (a + d) := by
  rw [ByteArray.extract_extract, Nat.min_eq_left h]
theorem pcl_at (s : ByteArray) (k : Nat) : (pcL s)[k]? = if k < ncl s then some (pcP s k) else none := by
  unfold pcL
  rw [List.getElem?_map]
  split
  · rename_i h; rw [List.getElem?_range h]; rfl
  · rename_i h; rw [List.getElem?_eq_none (by simp; omega)]; rfl
theorem pcL_take {s : ByteArray} {n : Nat} (hn : n ≤ ncl s) : (pcL s).take n = pcL (s.extract 0 (bp s n)) := by
  apply List.ext_getElem?
  intro k
  rw [pcl_at, ncl_take hn, List.getElem?_take]
  split
  · rename_i h
    rw [pcl_at, if_pos (by omega)]
    unfold pcP
    rw [bp_take hn (by omega), bp_take hn (by omega), ee (by have := bp_mono s (show k + 1 ≤ n by omega); omega), Nat.zero_add, Nat.zero_add]
  · rfl
def upBy (k : Nat) (p : Nat × ByteArray) : Nat × ByteArray := (p.1 + k, p.2)
theorem pcL_drop {s : ByteArray} {n : Nat} (hn : n ≤ ncl s) : (pcL s).drop n = (pcL (s.extract (bp s n) s.size)).map (upBy (bp s n)) := by
  apply List.ext_getElem?
  intro k
  have h1 := ncl_drop hn
  rw [List.getElem?_drop, List.getElem?_map, pcl_at, pcl_at]
  by_cases h : n + k < ncl s
  · rw [if_pos h, if_pos (by omega)]
    have h2 := bp_drop hn k
    have h3 := bp_drop hn (k + 1)
    have h4 := bp_le s (n + (k + 1))
    unfold pcP upBy
    simp only [Option.map_some]
    rw [ee (by omega), h2, show bp s n + bp (s.extract (bp s n) s.size) k = bp s (n + k) from by omega, show bp s n + bp (s.extract (bp s n) s.size) (k + 1) = bp s (n + k + 1) from by rw [Nat.add_assoc]; omega]
  · rw [if_neg h, if_neg (by omega)]; rfl
theorem pcR_rev (s : ByteArray) : pcR s = (pcL s).reverse := by
  apply List.ext_getElem?
  intro k
  by_cases h : k < ncl s
  · rw [List.getElem?_reverse (by simp [pcL]; omega)]
    rw [pcl_at, if_pos (by simp [pcL]; omega)]
    unfold pcR
    rw [List.getElem?_map, List.getElem?_range h]
    simp [pcL]
  · rw [List.getElem?_eq_none (by simp [pcR]; omega), List.getElem?_eq_none (by simp [pcL]; omega)]
theorem pcV_flat (s : ByteArray) : (List.range (ncl s)).flatMap (pcV s) = (pcL s).flatMap encPc := by
  unfold pcL
  rw [List.flatMap_map]
  rfl

/-! ### Bad bytes -/

theorem goN_mem {s : ByteArray} {k : Nat} : ∀ {f n m : Nat}, n ≤ m → m < goN s k f n → goB s k m = true
  | 0, n, m, h1, h2 => by simp only [goN] at h2; omega
  | f + 1, n, m, h1, h2 => by
    simp only [goN] at h2
    split at h2
    · rename_i hg
      by_cases he : m = n
      · subst he; exact hg
      · exact goN_mem (by omega) h2
    · omega
/-- A bad byte is a cluster by itself. -/
theorem bad_alone {s : ByteArray} {k m : Nat} (h : m < firstN s k) (hb : isBad s (k + m) = true) : m = 0 ∧ firstN s k = 1 := by
  by_cases h0 : isBad s k = true
  · have : firstN s k = 1 := by unfold firstN; rw [if_pos h0]
    omega
  · have hm : m ≠ 0 := by rintro rfl; exact h0 hb
    exfalso
    unfold firstN at h
    rw [if_neg h0] at h
    split at h
    · rename_i hc
      have hm1 : m = 1 := by omega
      subst hm1
      simp only [crB, Bool.and_eq_true, beq_iff_eq] at hc
      have h10 := hc.2.2
      unfold sg at h10
      simp only [isBad, decide_eq_true_eq] at hb
      omega
    · split at h
      · omega
      · have := goN_mem (show 1 ≤ m by omega) h
        simp only [goB, Bool.and_eq_true] at this
        rw [hb] at this
        simp at this
theorem decodeN_high (n b0 b1 b2 b3 : Nat) (h : 245 ≤ b0) (hn : 1 ≤ n) : Lib.decodeN n b0 b1 b2 b3 = (65533, 1) := by
  unfold Lib.decodeN
  repeat' split
  all_goals first | rfl | omega
/-- A byte that belongs to no character. -/
theorem high_bad {s : ByteArray} {q : Nat} (h : q < s.size) (hb : 245 ≤ bt s q) : ∃ n, n < cnt s ∧ pos s n = q ∧ isBad s n = true := by
  obtain ⟨n, h1, h2⟩ := pos_lead h (by unfold cont; have := bt_lt s q; omega)
  refine ⟨n, h1, h2, ?_⟩
  unfold isBad dcN dcR
  rw [h2, dc_eq, decodeN_high _ _ _ _ _ hb (by omega)]
  rfl
theorem high_border {s : ByteArray} {q : Nat} (h : q < s.size) (hb : 245 ≤ bt s q) : ∃ i, i < ncl s ∧ bp s i = q ∧ bp s (i + 1) = q + 1 := by
  obtain ⟨k, h1, h2, h3⟩ := high_bad h hb
  obtain ⟨i, g1, g2, g3⟩ := orb_cover (first_fit s) h1
  have g1' : i < ncl s := g1
  have g2' : bk s i ≤ k := g2
  have g3' : k < bk s (i + 1) := g3
  rw [bk_succ g1'] at g3'
  obtain ⟨e1, e2⟩ := bad_alone (s := s) (k := bk s i) (m := k - bk s i) (by omega) (by rw [show bk s i + (k - bk s i) = k from by omega]; exact h3)
  have hk : bk s i = k := by omega
  refine ⟨i, g1', by unfold bp; rw [hk, h2], ?_⟩
  unfold bp
  rw [bk_succ g1', e2, hk, pos_succ (by rw [h2]; exact h), h2]
  simp only [isBad, decide_eq_true_eq] at h3
  rw [h2] at h3
  rw [h3.1]

/-! ### A cluster by itself -/

theorem pc_own {s : ByteArray} {i : Nat} (hi : i < ncl s) : ∃ t, (pcP s i).2 = t.extract 0 (bp t 1) ∧ 1 ≤ ncl t ∧ 0 < cnt t := by
  have h1 := ncl_drop (s := s) (k := i) (by omega)
  have h2 := bp_drop (s := s) (k := i) (by omega) 1
  have h3 := bp_le s (i + 1)
  refine ⟨s.extract (bp s i) s.size, ?_, by omega, ?_⟩
  · unfold pcP
    rw [ee (by omega), show bp s i + bp (s.extract (bp s i) s.size) 1 = bp s (i + 1) from by omega]
    rfl
  · have := (bk_lt (s := s.extract (bp s i) s.size) (i := 0)).1 (by omega)
    omega
theorem own_laws {t : ByteArray} (h1 : 1 ≤ ncl t) (h0 : 0 < cnt t) : ncl (t.extract 0 (bp t 1)) = 1 ∧ bp (t.extract 0 (bp t 1)) 1 = (t.extract 0 (bp t 1)).size ∧
    1 ≤ cnt (t.extract 0 (bp t 1)) ∧ cnt (t.extract 0 (bp t 1)) ≤ 32 ∧ (badL (t.extract 0 (bp t 1)) ≠ [] → (t.extract 0 (bp t 1)).size = 1) := by
  have hf := first_fit t 0 h0
  have hk : bk t 1 = firstN t 0 := by
    have := bk_succ (s := t) (i := 0) (by omega)
    rw [show bk t 0 = 0 from rfl] at this
    simpa using this
  refine ⟨ncl_take h1, ?_, ?_, ?_, ?_⟩
  · rw [bp_take h1 (by omega), size_ext (bp_le t 1)]; omega
  · rw [cnt_cut, hk]; omega
  · rw [cnt_cut, hk]; exact first_le t h0
  · intro hb
    have hc := cnt_cut (s := t) 1
    obtain ⟨p, hp⟩ := List.exists_mem_of_ne_nil _ hb
    unfold badL at hp
    obtain ⟨n, hn, _⟩ := List.mem_map.1 hp
    obtain ⟨hn1, hn2⟩ := List.mem_filter.1 hn
    rw [List.mem_range, hc] at hn1
    have hb2 : isBad t n = true := by
      have := bad_take (s := t) hn1 (bk_le t 1)
      rw [← this]; exact hn2
    have := bad_alone (s := t) (k := 0) (m := n) (by omega) (by simpa using hb2)
    have hn0 : n = 0 := this.1
    subst hn0
    rw [size_ext (bp_le t 1)]
    unfold bp
    rw [hk, this.2, pos_succ (n := 0) (cnt_lt.1 h0)]
    simp only [isBad, decide_eq_true_eq] at hb2
    rw [hb2.1]; rfl

/-! ### Places -/

theorem at_in {s : ByteArray} {i q : Nat} (hi : i < ncl s) (h1 : bp s i ≤ q) (h2 : q < bp s (i + 1)) : ixP s (clampN s (q : Int)) = i := by
  have hc : clampN s (q : Int) = q := by
    have := bp_le s (i + 1)
    unfold clampN
    rw [if_neg (by omega), if_neg (by omega)]; rfl
  rw [hc]
  unfold ixP
  rw [List.find?_range_eq_some.2 ⟨by simpa using h2, by simpa using hi, fun j hj => by have := bp_mono s (show j + 1 ≤ i by omega); simp; omega⟩]
  rfl
theorem at_end {s : ByteArray} {p : Int} (h : (s.size : Int) ≤ p) : ixP s (clampN s p) = ncl s := by
  have hc : clampN s p = s.size := by
    unfold clampN
    rw [if_neg (by omega)]
    split
    · rfl
    · omega
  rw [hc]
  unfold ixP
  rw [List.find?_eq_none.2 (fun j hj => by have := bp_le s (j + 1); simp; omega)]
  rfl

end Go.Proofs.YtniiamobbgnjaaaDoor
