/-
  Chapter 1: one step of the decoders: the document's and the library's say the same.
-/
import Derived.Test.YthkcphnkllnfcaaDoorVgA
import Derived.Test.YthkcphnkllnfcaaDoorSh
import Derived.Test.YthkcphnkllnfcaaDoorGn
set_option linter.unusedVariables false
set_option linter.unusedSimpArgs false
namespace Go.Proofs.YthkcphnkllnfcaaDoor
open Go Go.RowKit Vc Ut

theorem U8.ext {w w' : World} (h : U8 w) (hx : Ext w w') : U8 w' := ⟨fun c hc => hx.cell (h.1 c hc), fun i hi => ⟨hx.cell (h.2 i hi).1, hx.cell (h.2 i hi).2⟩⟩
theorem U8.fr {S : Nat → Prop} {w w' : World} (h : U8 w) (hf : Fr S w w') (h0 : ¬ S 0) (h1 : ¬ S 1) : U8 w' := by
  have k : ∀ (g o : Nat) (v : Value), ¬ S g → w.cell? ⟨g, o, none⟩ = some v → w'.cell? ⟨g, o, none⟩ = some v := fun g o v hg hc =>
    (World.cell?_of_block (w := w) (hf.block g (World.block_lt_of_cell? w _ hc) hg)).trans hc
  exact ⟨fun c hc => k _ _ _ h0 (h.1 c hc), fun i hi => ⟨k _ _ _ h1 (h.2 i hi).1, k _ _ _ h1 (h.2 i hi).2⟩⟩
theorem U8.lt {w : World} (h : U8 w) : 0 < w.heap.size ∧ 1 < w.heap.size :=
  ⟨World.block_lt_of_cell? w _ (h.1 0 (by decide)), World.block_lt_of_cell? w _ (h.2 0 (by decide)).1⟩

theorem str_eq (a b : ByteArray) : (a.toList == b.toList) = decide (a = b) := by
  rw [ByteArray.toList_eq, ByteArray.toList_eq]
  by_cases h : a = b
  · subst h; simp
  · rw [decide_eq_false h]
    have : ¬ a.data.toList = b.data.toList := fun hh => h (ByteArray.ext (Array.ext' hh))
    simpa using this
theorem size_zero {a : ByteArray} (h : a.size = 0) : a = ByteArray.mk #[] := by
  apply ByteArray.ext
  exact Array.eq_empty_of_size_eq_zero h
theorem str_nil (a : ByteArray) : (a.toList == (ByteArray.mk #[]).toList) = decide (a.size = 0) := by
  rw [str_eq]
  exact decide_eq_decide.2 ⟨fun h => by rw [h]; rfl, size_zero⟩

theorem within_ok : sWithin.Ok Tryd.prog 63 := by
  refine within_vc trivial ?_
  rintro ⟨c, a, b⟩ w _
  refine ⟨_, rfl, ?_, rfl⟩
  dsimp only
  rw [Bool.decide_and]
  congr 1 <;> exact decide_eq_decide.2 (by omega)

theorem second_ok : sSecond.Ok Tryd.prog 62 := by
  refine second_vc ⟨within_ok, trivial⟩ ?_
  rintro c w _
  refine ⟨(c, 194, 223), rfl, trivial, ?_⟩
  rintro x w1 ⟨rfl, rfl⟩
  dsimp only
  refine bcase_mk (fun h => ⟨(128, 191, 2), rfl, ?_, rfl⟩) (fun h1 => ?_)
  · simp only [decide_eq_true_eq] at h; unfold secN; rw [if_pos h]
  simp only [decide_eq_false_iff_not] at h1
  refine bcase_mk (fun h => ⟨(160, 191, 3), rfl, ?_, rfl⟩) (fun h2 => ?_)
  · simp only [beq_iff_eq] at h; unfold secN; rw [if_neg h1, if_pos (by omega)]
  simp only [beq_eq_false_iff_ne, ne_eq] at h2
  refine bcase_mk (fun h => ⟨(128, 159, 3), rfl, ?_, rfl⟩) (fun h3 => ?_)
  · simp only [beq_iff_eq] at h; unfold secN; rw [if_neg h1, if_neg (by omega), if_pos (by omega)]
  simp only [beq_eq_false_iff_ne, ne_eq] at h3
  refine ⟨(c, 225, 239), rfl, trivial, ?_⟩
  rintro x w2 ⟨rfl, rfl⟩
  refine bcase_mk (fun h => ⟨(128, 191, 3), rfl, ?_, rfl⟩) (fun h4 => ?_)
  · simp only [decide_eq_true_eq] at h; unfold secN; rw [if_neg h1, if_neg (by omega), if_neg (by omega), if_pos h]
  simp only [decide_eq_false_iff_not] at h4
  refine bcase_mk (fun h => ⟨(144, 191, 4), rfl, ?_, rfl⟩) (fun h5 => ?_)
  · simp only [beq_iff_eq] at h; unfold secN; rw [if_neg h1, if_neg (by omega), if_neg (by omega), if_neg h4, if_pos (by omega)]
  simp only [beq_eq_false_iff_ne, ne_eq] at h5
  refine ⟨(c, 241, 243), rfl, trivial, ?_⟩
  rintro x w3 ⟨rfl, rfl⟩
  refine bcase_mk (fun h => ⟨(128, 191, 4), rfl, ?_, rfl⟩) (fun h6 => ?_)
  · simp only [decide_eq_true_eq] at h; unfold secN; rw [if_neg h1, if_neg (by omega), if_neg (by omega), if_neg h4, if_neg (by omega), if_pos h]
  simp only [decide_eq_false_iff_not] at h6
  refine bcase_mk (fun h => ⟨(128, 143, 4), rfl, ?_, rfl⟩) (fun h7 => ⟨(0, 0, 0), rfl, ?_, rfl⟩)
  · simp only [beq_iff_eq] at h; unfold secN; rw [if_neg h1, if_neg (by omega), if_neg (by omega), if_neg h4, if_neg (by omega), if_neg h6, if_pos (by omega)]
  · simp only [beq_eq_false_iff_ne, ne_eq] at h7; unfold secN; rw [if_neg h1, if_neg (by omega), if_neg (by omega), if_neg h4, if_neg (by omega), if_neg h6, if_neg (by omega)]

theorem runB_stop {s : ByteArray} {f n : Nat} (h : ¬ okB s n) : runB s f n = n := by
  cases f with
  | zero => rfl
  | succ f => unfold runB; rw [if_neg h]
theorem runB_go {s : ByteArray} {k n : Nat} (h : okB s n) (hk : n < k) : runB s (k - n) n = runB s (k - (n + 1)) (n + 1) := by
  rw [show k - n = k - (n + 1) + 1 from by omega]
  unfold runB
  rw [if_pos h]
  cases k - (n + 1) <;> rfl

set_option maxRecDepth 20000 in
theorem begins_ok : sBegins.Ok Tryd.prog 49 := by
  refine begins_vc ⟨second_ok, within_ok, trivial⟩ ?_
  rintro s w hsm
  rw [str_nil]
  refine bcase_mk (fun h => ?_) (fun h => ?_)
  · have h0 : s.size = 0 := by simpa using h
    exact ⟨(0, 0), rfl, by unfold begN; rw [if_pos h0], by unfold begS; rw [if_pos h0], rfl⟩
  have h0 : ¬ s.size = 0 := by simpa using h
  refine ⟨0, rfl, by omega, ?_⟩
  refine bcase_mk (fun h => ?_) (fun h => ?_)
  · have h1 : bt s 0 < 128 := by simp only [decide_eq_true_eq] at h; unfold bt; omega
    exact ⟨(1, 1), rfl, by unfold begN; rw [if_neg h0, if_pos h1], by unfold begS; rw [if_neg h0, if_pos h1], rfl⟩
  have h1 : ¬ bt s 0 < 128 := by simp only [decide_eq_false_iff_not] at h; unfold bt; omega
  refine ⟨0, rfl, by omega, bt s 0, rfl, trivial, ?_⟩
  rintro x w1 ⟨rfl, rfl⟩
  have hS : begS s = (secN (bt s 0)).2.2 := by unfold begS; rw [if_neg h0, if_neg h1]
  refine bcase_mk (fun h => ?_) (fun h => ?_)
  · have h2 : (secN (bt s 0)).2.2 = 0 := by simp only [beq_iff_eq] at h; omega
    exact ⟨(0, 0), rfl, by unfold begN; rw [if_neg h0, if_neg h1, if_pos h2], by rw [hS, h2], rfl⟩
  have h2 : ¬ (secN (bt s 0)).2.2 = 0 := by simp only [beq_eq_false_iff_ne, ne_eq] at h; omega
  have hN : begN s = runB s ((secN (bt s 0)).2.2 - 1) 1 := by unfold begN; rw [if_neg h0, if_neg h1, if_neg h2]
  have hbd := secN_bd (bt s 0)
  refine ⟨⟨1, rfl, rfl, rfl, rfl, Nat.le_refl _, by omega, by omega, rfl⟩, ?_⟩
  rintro _ n w2 ⟨rfl, hn1, hn2, hn3, hrun⟩
  have done : runB s ((secN (bt s 0)).2.2 - n) n = n → ∃ x2 : Nat × Nat, Value.tuple #[.int .i64 n, .int .i64 (secN (bt s 0)).2.2] = Value.tuple #[.int .i64 x2.1, .int .i64 x2.2] ∧ x2.1 = begN s ∧ x2.2 = begS s ∧ w2 = w2 :=
    fun hd => ⟨(n, (secN (bt s 0)).2.2), rfl, by rw [hN, ← hrun, hd], hS.symm, rfl⟩
  refine bcase_mk (fun h => ?_) (fun h => ?_)
  · have hk : n < (secN (bt s 0)).2.2 := by simp only [decide_eq_true_eq] at h; omega
    refine bcase_mk (fun h => ?_) (fun h => ?_)
    · have hs : n < s.size := by simp only [decide_eq_true_eq] at h; omega
      refine ⟨n, rfl, hs, (bt s n, loB s n, hiB s n), rfl, trivial, ?_⟩
      rintro x w3 ⟨rfl, rfl⟩
      dsimp only
      refine bcase_mk (fun h => ?_) (fun h => ?_)
      · have hok : okB s n := by simp only [decide_eq_true_eq] at h; exact ⟨hs, h⟩
        refine ⟨inr_i64 (by omega) (by omega), n + 1, by simp, ?_, ?_, ⟨rfl, by omega, by omega, by omega, by rw [← hrun, runB_go hok hk]⟩, by omega⟩
        · unfold loB; rw [if_neg (by omega)]; rfl
        · unfold hiB; rw [if_neg (by omega)]; rfl
      · exact done (runB_stop (fun hok => by simp only [decide_eq_false_iff_not] at h; exact h hok.2))
    · exact done (runB_stop (fun hok => by simp only [decide_eq_false_iff_not] at h; have := hok.1; omega))
  · have hk : n = (secN (bt s 0)).2.2 := by simp only [decide_eq_false_iff_not] at h; omega
    refine done ?_
    rw [← hk, Nat.sub_self]; rfl

set_option maxRecDepth 100000 in
theorem and_masks : ∀ x : Fin 256, IntKind.u8.wrap ((BitVec.ofInt IntKind.u8.bits ((x.val : Nat) : Int) &&& BitVec.ofInt IntKind.u8.bits 127).toNat : Int) = ((x.val % 128 : Nat) : Int) ∧
    IntKind.u8.wrap ((BitVec.ofInt IntKind.u8.bits ((x.val : Nat) : Int) &&& BitVec.ofInt IntKind.u8.bits 31).toNat : Int) = ((x.val % 32 : Nat) : Int) ∧
    IntKind.u8.wrap ((BitVec.ofInt IntKind.u8.bits ((x.val : Nat) : Int) &&& BitVec.ofInt IntKind.u8.bits 15).toNat : Int) = ((x.val % 16 : Nat) : Int) ∧
    IntKind.u8.wrap ((BitVec.ofInt IntKind.u8.bits ((x.val : Nat) : Int) &&& BitVec.ofInt IntKind.u8.bits 7).toNat : Int) = ((x.val % 8 : Nat) : Int) ∧
    IntKind.u8.wrap ((BitVec.ofInt IntKind.u8.bits ((x.val : Nat) : Int) &&& BitVec.ofInt IntKind.u8.bits 63).toNat : Int) = ((x.val % 64 : Nat) : Int) := by decide
theorem and_mask (s : ByteArray) (i : Nat) {m : Int} {k : Nat} (h : (m = 127 ∧ k = 128) ∨ (m = 31 ∧ k = 32) ∨ (m = 15 ∧ k = 16) ∨ (m = 7 ∧ k = 8) ∨ (m = 63 ∧ k = 64)) :
    IntKind.u8.wrap ((BitVec.ofInt IntKind.u8.bits ((s.data.toList.getD i 0).toNat : Int) &&& BitVec.ofInt IntKind.u8.bits m).toNat : Int) = ((bt s i % k : Nat) : Int) := by
  have := and_masks ⟨bt s i, bt_lt s i⟩
  dsimp only at this
  rcases h with ⟨rfl, rfl⟩ | ⟨rfl, rfl⟩ | ⟨rfl, rfl⟩ | ⟨rfl, rfl⟩ | ⟨rfl, rfl⟩
  · exact this.1
  · exact this.2.1
  · exact this.2.2.1
  · exact this.2.2.2.1
  · exact this.2.2.2.2

theorem number_ok : sNumber.Ok Tryd.prog 50 := by
  refine number_vc trivial ?_
  rintro s w ⟨h1, h4⟩ b w1 hn w2 hd
  have hcell : ∃ m : Int, w1.cell? ⟨b, 0 + (s.size - 1), none⟩ = some (.int .u8 m) ∧ ((m = 127 ∧ maskN s.size = 128) ∨ (m = 31 ∧ maskN s.size = 32) ∨ (m = 15 ∧ maskN s.size = 16) ∨ (m = 7 ∧ maskN s.size = 8) ∨ (m = 63 ∧ maskN s.size = 64)) := by
    rw [Nat.zero_add, hn.cell]
    have : s.size = 1 ∨ s.size = 2 ∨ s.size = 3 ∨ s.size = 4 := by omega
    rcases this with h | h | h | h <;> rw [h]
    · exact ⟨127, rfl, .inl ⟨rfl, rfl⟩⟩
    · exact ⟨31, rfl, .inr (.inl ⟨rfl, rfl⟩)⟩
    · exact ⟨15, rfl, .inr (.inr (.inl ⟨rfl, rfl⟩))⟩
    · exact ⟨7, rfl, .inr (.inr (.inr (.inl ⟨rfl, rfl⟩)))⟩
  obtain ⟨m, hc, hm⟩ := hcell
  have hmod := and_mask s 0 hm
  have hb := bt_lt s 0
  have hml : bt s 0 % maskN s.size ≤ bt s 0 := Nat.mod_le _ _
  refine ⟨0, rfl, by omega, inr_i64 (by omega) (by omega), s.size - 1, by omega, by omega, m, hc, ?_, ⟨0, rfl, ?_, by omega, Ext.refl _⟩, ?_⟩
  · rw [hmod]; exact inr_i32 (by omega) (by omega)
  · rw [hmod]; rfl
  rintro _ n w3 ⟨hn1, hw3⟩
  refine bcase_mk (fun h => ?_) (fun h => ?_)
  · have hn2 : n + 1 < s.size := by simp only [decide_eq_true_eq] at h; omega
    have hp := numP_le s s.size n
    have hp64 : (64 : Nat) ^ n ≤ 64 ^ 2 := Nat.pow_le_pow_right (by omega) (by omega)
    have hm63 := and_mask s (n + 1) (m := 63) (k := 64) (.inr (.inr (.inr (.inr ⟨rfl, rfl⟩))))
    have h64 : bt s (n + 1) % 64 < 64 := Nat.mod_lt _ (by omega)
    refine ⟨inr_i32 (by omega) (by omega), n + 1, by omega, hn2, ?_, ?_, inr_i64 (by omega) (by omega), n + 1, by simp, ?_, ⟨by omega, hw3⟩, by omega⟩
    · rw [hm63]; exact inr_i32 (by omega) (by omega)
    · rw [hm63]; exact inr_i32 (by omega) (by omega)
    · rw [hm63]; simp only [numP]; simp
  · have hn2 : n = s.size - 1 := by simp only [decide_eq_false_iff_not] at h; omega
    refine ⟨numP s s.size n, rfl, by unfold numR; rw [hn2], ?_⟩
    exact Ext.trans hn.ext (Ext.trans hd.ext hw3)

theorem numP_ext {s : ByteArray} {k a n : Nat} (hk : k ≤ s.size) (hn : n < k) : numP (s.extract 0 k) a n = numP s a n := by
  induction n with
  | zero => simp only [numP]; rw [bt_ext (by omega)]
  | succ n ih => simp only [numP]; rw [ih (by omega), bt_ext (by omega), Nat.zero_add]

theorem rnext_ok : (sDec nxR nxN).Ok Tryd.prog 16 := by
  refine rnext_vc ⟨begins_ok, number_ok, trivial⟩ ?_
  rintro s w ⟨hU, hsm⟩
  refine ⟨s, rfl, hsm, ?_⟩
  rintro ⟨n, k⟩ w1 ⟨hn, hk, rfl⟩
  dsimp only at hn hk ⊢
  have hx := nextR_nx s
  rw [str_nil]
  refine bcase_mk (fun h => ?_) (fun h => ?_)
  · have h0 : s.size = 0 := by simpa using h
    exact ⟨(65533, 0), rfl, by unfold nxR; rw [if_pos h0], by unfold nxN; rw [if_pos h0], Ext.refl _⟩
  have h0 : ¬ s.size = 0 := by simpa using h
  unfold nextR at hx
  rw [if_neg h0] at hx
  refine bcase_mk (fun h => ?_) (fun h => ?_)
  · have hb : begN s = 0 ∨ begN s < begS s := by simp only [Bool.or_eq_true, beq_iff_eq, decide_eq_true_eq] at h; omega
    rw [if_pos hb] at hx
    exact ⟨(65533, 1), rfl, hx.1, hx.2, Ext.refl _⟩
  · have hb : ¬ (begN s = 0 ∨ begN s < begS s) := by simp only [Bool.or_eq_false_iff, beq_eq_false_iff_ne, ne_eq, decide_eq_false_iff_not] at h; omega
    rw [if_neg hb] at hx
    have hle := begN_le s
    have hsz : (s.extract 0 k).size = k := by rw [size_ext (by omega)]; rfl
    refine ⟨k, rfl, Nat.zero_le _, by omega, _, rfl, by rw [hsz]; omega, ?_⟩
    rintro x w2 ⟨hx2, hw2⟩
    refine ⟨(x, k), rfl, ?_, by rw [hk]; exact hx.2, hw2⟩
    dsimp only
    rw [hx2, hsz, ← hx.1, hk]
    unfold numR
    rw [numP_ext (by omega) (by omega)]

theorem rwhole_ok : (sTest wholeB).Ok Tryd.prog 19 := by
  refine rwhole_vc ⟨begins_ok, trivial⟩ ?_
  rintro s w ⟨hU, hsm⟩
  refine ⟨s, rfl, hsm, ?_⟩
  rintro ⟨n, k⟩ w1 ⟨hn, hk, rfl⟩
  dsimp only at hn hk ⊢
  refine ⟨_, rfl, ?_, Ext.refl _⟩
  subst hn hk
  rw [str_nil, bne_nat, beq_nat]
  unfold wholeB
  by_cases h0 : s.size = 0 <;> by_cases h1 : begN s = s.size <;> by_cases h2 : begN s = begS s <;> simp_all

theorem dec_ok : (sDec nxR nxN).Ok Tryd.prog 48 := by
  rintro (s : ByteArray) w ⟨hU, hsm⟩
  refine (Tryd.utf8_DecodeRuneInString s w hU).mono fun e w' ⟨he, hx⟩ => ⟨(nxR s, nxN s), ?_, ⟨rfl, rfl, hx⟩, KO.below hx (Nat.le_refl _)⟩
  have := decodeGo_eq s
  rw [he, this.1, this.2]; rfl
theorem decl_ok : (sDec lsR lsN).Ok Tryd.prog 56 := by
  rintro (s : ByteArray) w ⟨hU, hsm⟩
  refine (Tryd.utf8_DecodeLastRuneInString s w (by omega) hU).mono fun e w' ⟨he, hx⟩ => ⟨(lsR s, lsN s), ?_, ⟨rfl, rfl, hx⟩, KO.below hx (Nat.le_refl _)⟩
  have := decodeLast_eq s
  rw [he, this.1, this.2]; rfl
theorem uvalid_ok : (sTest validB).Ok Tryd.prog 53 := by
  rintro (s : ByteArray) w ⟨hU, hsm⟩
  refine (Tryd.utf8_ValidString s w (by omega) hU).mono fun e w' ⟨he, hx⟩ => ⟨validB s, ?_, ⟨rfl, hx⟩, KO.below hx (Nat.le_refl _)⟩
  rw [he, validD_eq]; rfl

theorem next_ok : (sDec nxR nxN).Ok Tryd.prog 14 := by
  refine next_vc ⟨dec_ok, trivial⟩ ?_
  rintro s w hp
  refine ⟨s, rfl, hp, ?_⟩
  rintro x w1 ⟨h1, h2, h3⟩
  exact ⟨x, rfl, h1, h2, h3⟩
theorem valid_ok : (sTest validB).Ok Tryd.prog 25 := by
  refine valid_vc ⟨uvalid_ok, trivial⟩ ?_
  rintro s w hp
  refine ⟨s, rfl, hp, ?_⟩
  rintro x w1 ⟨h1, h3⟩
  exact ⟨x, rfl, h1, h3⟩

/-! ### FullRuneInString -/

theorem wholeB_cases (s : ByteArray) (h0 : s.size ≠ 0) : wholeB s = if begS s ≤ s.size then true else if 1 < s.size ∧ ¬ okB s 1 then true else if 2 < s.size ∧ ¬ okB s 2 then true else false := by
  have hle := begN_le s
  unfold wholeB
  by_cases h1 : begS s ≤ s.size
  · rw [if_pos h1]; simp only [decide_eq_true_eq]; omega
  · rw [if_neg h1]
    have hS : begS s = (secN (bt s 0)).2.2 ∧ ¬ bt s 0 < 128 := by
      unfold begS at h1 ⊢
      rw [if_neg h0] at h1 ⊢
      by_cases h : bt s 0 < 128
      · rw [if_pos h] at h1; omega
      · exact ⟨if_neg h, h⟩
    have hN : begN s = runB s (begS s - 1) 1 := by
      unfold begN; rw [if_neg h0, if_neg hS.2, ← hS.1, if_neg (by omega)]
    have : s.size = 1 ∨ s.size = 2 ∨ s.size = 3 := by omega
    rcases this with h | h | h
    · have : ¬ okB s 1 := fun hh => by have := hh.1; omega
      rw [runB_stop this] at hN
      rw [if_neg (by omega), if_neg (by omega)]; simp only [decide_eq_false_iff_not]; omega
    · have n2 : ¬ okB s 2 := fun hh => by have := hh.1; omega
      by_cases k1 : okB s 1
      · rw [runB_go k1 (by omega), runB_stop n2] at hN
        rw [if_neg (fun hh => hh.2 k1), if_neg (by omega)]; simp only [decide_eq_false_iff_not]; omega
      · rw [runB_stop k1] at hN
        rw [if_pos ⟨by omega, k1⟩]; simp only [decide_eq_true_eq]; omega
    · have n3 : ¬ okB s 3 := fun hh => by have := hh.1; omega
      by_cases k1 : okB s 1
      · rw [runB_go k1 (by omega)] at hN
        rw [if_neg (fun hh => hh.2 k1)]
        by_cases k2 : okB s 2
        · rw [runB_go k2 (by omega), runB_stop n3] at hN
          rw [if_neg (fun hh => hh.2 k2)]; simp only [decide_eq_false_iff_not]; omega
        · rw [runB_stop k2] at hN
          rw [if_pos ⟨by omega, k2⟩]; simp only [decide_eq_true_eq]; omega
      · rw [runB_stop k1] at hN
        rw [if_pos ⟨by omega, k1⟩]; simp only [decide_eq_true_eq]; omega

set_option maxRecDepth 100000 in
theorem first_sec : ∀ c : Fin 256, IntKind.u8.wrap ((BitVec.ofInt IntKind.u8.bits ((Lib.firstT c.val : Nat) : Int) &&& BitVec.ofInt IntKind.u8.bits 7).toNat : Int) = (if c.val < 128 then 0 else if (secN c.val).2.2 = 0 then 1 else ((secN c.val).2.2 : Int)) ∧
    ((Lib.firstT c.val : Nat) : Int).fdiv (2 ^ min (Int.toNat 4) IntKind.u8.bits) = ((Lib.firstT c.val / 16 : Nat) : Int) ∧ Lib.firstT c.val / 16 < 16 ∧
    ((secN c.val).2.2 ≠ 0 → Lib.accLo (Lib.firstT c.val / 16) = (secN c.val).1 ∧ Lib.accHi (Lib.firstT c.val / 16) = (secN c.val).2.1) := by decide

set_option maxRecDepth 20000 in
theorem full_ok : (sTest wholeB).Ok Tryd.prog 51 := by
  refine full_vc trivial ?_
  rintro s w ⟨hU, hsm⟩
  refine bcase_mk (fun h => ?_) (fun h => ?_)
  · have h0 : s.size = 0 := by simp only [beq_iff_eq] at h; omega
    exact ⟨false, rfl, by unfold wholeB; simp [h0], Ext.refl _⟩
  have h0 : ¬ s.size = 0 := by simp only [beq_eq_false_iff_ne, ne_eq] at h; omega
  have hw := wholeB_cases s h0
  have hf := first_sec ⟨bt s 0, bt_lt s 0⟩
  dsimp only at hf
  obtain ⟨hf1, hf2, hf3, hf4⟩ := hf
  have hbd := secN_bd (bt s 0)
  have hc := hU.1 (bt s 0) (bt_lt s 0)
  refine ⟨0, rfl, by omega, bt s 0, rfl, bt_lt s 0, Lib.firstT (bt s 0), by rw [Nat.zero_add]; exact hc, ?_, ?_⟩
  · rw [hf1]; repeat' split
    all_goals exact inr_i64 (by omega) (by omega)
  rw [hf1]
  refine bcase_mk (fun h => ⟨true, rfl, ?_, Ext.refl _⟩) (fun h => ?_)
  · rw [hw, if_pos]
    simp only [ge_iff_le, decide_eq_true_eq] at h
    unfold begS; rw [if_neg h0]
    split at h
    · rename_i h1; rw [if_pos h1]; omega
    · rename_i h1; rw [if_neg h1]
      split at h <;> omega
  simp only [ge_iff_le, decide_eq_false_iff_not] at h
  have h1 : ¬ bt s 0 < 128 := fun hh => by rw [if_pos hh] at h; omega
  rw [if_neg h1] at h
  have h2 : ¬ (secN (bt s 0)).2.2 = 0 := fun hh => by rw [if_pos hh] at h; omega
  rw [if_neg h2] at h
  have hS : begS s = (secN (bt s 0)).2.2 := by unfold begS; rw [if_neg h0, if_neg h1]
  rw [if_neg (by omega)] at hw
  obtain ⟨hlo, hhi⟩ := hf4 h2
  have hacc := hU.2 (Lib.firstT (bt s 0) / 16) hf3
  rw [hlo, hhi] at hacc
  have o1 : 1 < s.size → (okB s 1 ↔ (secN (bt s 0)).1 ≤ bt s 1 ∧ bt s 1 ≤ (secN (bt s 0)).2.1) := fun hh => by unfold okB loB hiB; simp [hh]
  have o2 : 2 < s.size → (okB s 2 ↔ 128 ≤ bt s 2 ∧ bt s 2 ≤ 191) := fun hh => by unfold okB loB hiB; simp [hh]
  refine ⟨Lib.firstT (bt s 0) / 16, hf2, hf3, (secN (bt s 0)).1, by rw [Nat.zero_add, Nat.mul_comm]; exact hacc.1, (secN (bt s 0)).2.1, by rw [Nat.zero_add, Nat.mul_comm]; exact hacc.2, ?_⟩
  intro b w1 hn w2 hd
  have hx : Ext w w2 := Ext.trans hn.ext hd.ext
  refine bcase_mk (fun h3 => ?_) (fun h3 => ?_)
  · have h3 : 1 < s.size := by simp only [gt_iff_lt, decide_eq_true_eq] at h3; omega
    have o1 := o1 h3
    refine ⟨1, rfl, h3, (secN (bt s 0)).1, by rw [hn.cell]; rfl, bcase_mk (fun h4 => ⟨true, rfl, ?_, hx⟩) (fun h4 => ?_)⟩
    · have : ¬ okB s 1 := fun hh => by have := o1.1 hh; have h4' : ((bt s 1 : Nat) : Int) < (((secN (bt s 0)).1 : Nat) : Int) := of_decide_eq_true h4; omega
      rw [hw, if_pos ⟨h3, this⟩]
    refine ⟨(secN (bt s 0)).2.1, by rw [hn.cell]; rfl, 1, rfl, h3, bcase_mk (fun h5 => ⟨true, rfl, ?_, hx⟩) (fun h5 => ?_)⟩
    · have : ¬ okB s 1 := fun hh => by have := o1.1 hh; have h5' : (((secN (bt s 0)).2.1 : Nat) : Int) < ((bt s 1 : Nat) : Int) := of_decide_eq_true h5; omega
      rw [hw, if_pos ⟨h3, this⟩]
    have k1 : okB s 1 := o1.2 (by have h4' : ¬ ((bt s 1 : Nat) : Int) < (((secN (bt s 0)).1 : Nat) : Int) := of_decide_eq_false h4; have h5' : ¬ (((secN (bt s 0)).2.1 : Nat) : Int) < ((bt s 1 : Nat) : Int) := of_decide_eq_false h5; omega)
    rw [if_neg (fun hh => hh.2 k1)] at hw
    refine bcase_mk (fun h6 => ?_) (fun h6 => ⟨false, rfl, ?_, hx⟩)
    · have h6 : 2 < s.size := by simp only [gt_iff_lt, decide_eq_true_eq] at h6; omega
      have o2 := o2 h6
      refine ⟨2, rfl, h6, ?_⟩
      refine bcase_mk (fun h7 => ⟨true, rfl, ?_, hx⟩) (fun h7 => ⟨2, rfl, h6, ?_⟩)
      rotate_left
      refine bcase_mk (fun h8 => ⟨true, rfl, ?_, hx⟩) (fun h8 => ⟨false, rfl, ?_, hx⟩)
      rotate_right
      · have : ¬ okB s 2 := fun hh => by have := o2.1 hh; have h7' : ((bt s 2 : Nat) : Int) < 128 := of_decide_eq_true h7; omega
        rw [hw, if_pos ⟨h6, this⟩]
      · have : ¬ okB s 2 := fun hh => by have := o2.1 hh; have h8' : (191 : Int) < ((bt s 2 : Nat) : Int) := of_decide_eq_true h8; omega
        rw [hw, if_pos ⟨h6, this⟩]
      · have : okB s 2 := o2.2 (by have h7' : ¬ ((bt s 2 : Nat) : Int) < 128 := of_decide_eq_false h7; have h8' : ¬ (191 : Int) < ((bt s 2 : Nat) : Int) := of_decide_eq_false h8; omega)
        rw [hw, if_neg (fun hh => hh.2 this)]
    · have h6 : ¬ 2 < s.size := by simp only [gt_iff_lt, decide_eq_false_iff_not] at h6; omega
      rw [hw, if_neg (fun hh => h6 hh.1)]
  · have h3 : ¬ 1 < s.size := by simp only [gt_iff_lt, decide_eq_false_iff_not] at h3; omega
    refine bcase_mk (fun h6 => by simp only [gt_iff_lt, decide_eq_true_eq] at h6; omega) (fun h6 => ⟨false, rfl, ?_, hx⟩)
    rw [hw, if_neg (fun hh => h3 hh.1), if_neg (by omega)]

theorem whole_ok : (sTest wholeB).Ok Tryd.prog 18 := by
  refine whole_vc ⟨full_ok, trivial⟩ ?_
  rintro s w hp
  rw [str_nil]
  refine bcase_mk (fun h => ?_) (fun h => ⟨false, rfl, ?_, Ext.refl _⟩)
  · refine ⟨s, rfl, hp, ?_⟩
    rintro x w1 ⟨h1, h3⟩
    exact ⟨x, rfl, h1, h3⟩
  · have h0 : s.size = 0 := by simpa using h
    unfold wholeB; simp [h0]

end Go.Proofs.YthkcphnkllnfcaaDoor
