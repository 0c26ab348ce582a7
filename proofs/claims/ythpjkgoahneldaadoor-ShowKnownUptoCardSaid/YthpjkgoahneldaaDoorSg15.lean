/-
  Texts joined by program: Sv, WkSg, Lw, Bulk, U8, U9.
-/
import Derived.Test.YthpjkgoahneldaaDoorSg07
import Derived.Test.YthpjkgoahneldaaDoorSg14
import Derived.Test.YthpjkgoahneldaaDoorRows
import Derived.Test.YthpjkgoahneldaaDoorSg03
import Derived.WalkKit
import Derived.ProofKit
import Derived.OpenShut
import Derived.JoinedCond
import Derived.SizedLaws
import Derived.Carry
import Derived.Test.YthpjkgoahneldaaDoorSg09
import Derived.Lib.LaidIn
import Derived.Lib.LaidU8
import Derived.Test.YthpjkgoahneldaaDoorSg10
set_option linter.unusedVariables false
set_option linter.unusedSimpArgs false

section
/-
  Chapter 6: widths add up at borders; the last border that has place; single bytes: the plain laws.
-/
namespace Go.Proofs.YthpjkgoahneldaaDoor
open Go Vc Ut Tb Cl Orb

theorem pre_piece {s : ByteArray} {k i : Nat} (hk : k ≤ ncl s) (hi : i < k) : (pcP (s.extract 0 (bp s k)) i).2 = (pcP s i).2 := by
  unfold pcP
  dsimp only
  rw [bp_take hk (by omega), bp_take hk (by omega)]
  have h1 := bp_mono s (show i + 1 ≤ k by omega)
  rw [ee (by omega), Nat.zero_add, Nat.zero_add]
theorem suf_piece {s : ByteArray} {k j : Nat} (hk : k ≤ ncl s) : (pcP (s.extract (bp s k) s.size) j).2 = (pcP s (k + j)).2 := by
  unfold pcP
  dsimp only
  have h1 := bp_drop hk j
  have h2 := bp_drop hk (j + 1)
  have h3 := bp_le s (k + (j + 1))
  rw [ee (by omega), show bp s k + bp (s.extract (bp s k) s.size) j = bp s (k + j) from by omega, show bp s k + bp (s.extract (bp s k) s.size) (j + 1) = bp s (k + j + 1) from by rw [Nat.add_assoc]; omega]
theorem wdU_pre {s : ByteArray} {k : Nat} (hk : k ≤ ncl s) (c : Int) (l : Lk) : ∀ i, i ≤ k → wdU (s.extract 0 (bp s k)) c l i = wdU s c l i
  | 0, _ => rfl
  | i + 1, h => by
    simp only [wdU]
    rw [wdU_pre hk c l i (by omega), pre_piece hk (by omega)]
theorem wide_pre {s : ByteArray} {k : Nat} (hk : k ≤ ncl s) (col : Int) (l : Lk) : wideS (s.extract 0 (bp s k)) col l = wdU s (redC col l) l k := by
  unfold wideS
  rw [ncl_take hk]
  exact wdU_pre hk _ _ k (Nat.le_refl _)
theorem wdU_suf {s : ByteArray} {k : Nat} (hk : k ≤ ncl s) {c0 : Int} (h0 : 0 ≤ c0) (l : Lk) : ∀ j, wdU s (redC c0 l) l k + wdU (s.extract (bp s k) s.size) (redC (c0 + wdU s (redC c0 l) l k) l) l j = wdU s (redC c0 l) l (k + j)
  | 0 => rfl
  | j + 1 => by
    have ih := wdU_suf hk h0 l j
    rw [show k + (j + 1) = (k + j) + 1 from rfl]
    simp only [wdU]
    rw [suf_piece hk]
    have hc : (redC (c0 + wdU s (redC c0 l) l k) l + wdU (s.extract (bp s k) s.size) (redC (c0 + wdU s (redC c0 l) l k) l) l j).toNat % tabN l.tab = (redC c0 l + wdU s (redC c0 l) l (k + j)).toNat % tabN l.tab := by
      generalize wdU (s.extract (bp s k) s.size) (redC (c0 + wdU s (redC c0 l) l k) l) l j = x at ih ⊢
      generalize hA : wdU s (redC c0 l) l (k + j) = A at ih ⊢
      generalize hB : wdU s (redC c0 l) l k = B at ih ⊢
      unfold redC
      rw [show (c0 + (B : Int)).toNat = c0.toNat + B from by omega]
      rw [show ((((c0.toNat + B) % tabN l.tab : Nat) : Int) + (x : Int)).toNat = (c0.toNat + B) % tabN l.tab + x from by omega, show (((c0.toNat % tabN l.tab : Nat) : Int) + (A : Int)).toNat = c0.toNat % tabN l.tab + A from by omega]
      rw [Nat.mod_add_mod, Nat.mod_add_mod, ← ih, Nat.add_assoc]
    rw [oneC_col hc]
    omega
theorem wide_suf {s : ByteArray} {k : Nat} (hk : k ≤ ncl s) {c0 : Int} (h0 : 0 ≤ c0) (l : Lk) : wdU s (redC c0 l) l k + wideS (s.extract (bp s k) s.size) (c0 + wdU s (redC c0 l) l k) l = wideS s c0 l := by
  have h1 := ncl_drop hk
  have h2 := wdU_suf hk h0 l (ncl (s.extract (bp s k) s.size))
  rw [show k + ncl (s.extract (bp s k) s.size) = ncl s from by omega] at h2
  exact h2
theorem red_zero (l : Lk) : redC 0 l = 0 := by
  unfold redC
  rw [show (0 : Int).toNat = 0 from rfl, Nat.zero_mod]; rfl
theorem colA_bd (c : Int) : 0 ≤ colA c ∧ colA c ≤ 1073741824 := by unfold colA; split <;> omega
theorem last_le (s : ByteArray) (c : Int) (l : Lk) (k : Nat) : lastA s c l k ≤ wdU s c l k := by
  cases k with
  | zero => exact Nat.zero_le _
  | succ k => exact wdU_mono s c l (by omega)
theorem best_low {s : ByteArray} {l : Lk} {w : Int} {i : Nat} (h : ∀ k, i < k → w < (wdU s 0 l k : Int)) : ∀ k, i < k → bestA s l w k = bestA s l w (i + 1)
  | 0, hk => by omega
  | k + 1, hk => by
    rcases Nat.lt_or_ge i k with h1 | h1
    · have := h k h1
      simp only [bestA]
      rw [if_neg (by omega)]
      exact best_low h k h1
    · have : i = k := by omega
      subst this; rfl
theorem best_neg {s : ByteArray} {l : Lk} {w : Int} (h : w < 0) : ∀ k, bestA s l w k = 0
  | 0 => rfl
  | k + 1 => by
    simp only [bestA]
    rw [if_neg (by omega)]
    exact best_neg h k
/-- Cut is the last border that has place. -/
theorem cut_best (s : ByteArray) (l : Lk) (w : Int) : cutP s w l = if (wdU s 0 l (ncl s) : Int) ≤ w then s.size else bestA s l w (ncl s) := by
  by_cases h : ∃ i, i < ncl s ∧ w < (wdU s 0 l (i + 1) : Int)
  · obtain ⟨i, ⟨hi, hw⟩, hmin⟩ : ∃ i, (i < ncl s ∧ w < (wdU s 0 l (i + 1) : Int)) ∧ ∀ j, j < i → ¬ (j < ncl s ∧ w < (wdU s 0 l (j + 1) : Int)) := by
      obtain ⟨i, hi⟩ := h
      have : ∀ n, ∀ i, i ≤ n → (i < ncl s ∧ w < (wdU s 0 l (i + 1) : Int)) → ∃ i, (i < ncl s ∧ w < (wdU s 0 l (i + 1) : Int)) ∧ ∀ j, j < i → ¬ (j < ncl s ∧ w < (wdU s 0 l (j + 1) : Int)) := by
        intro n
        induction n with
        | zero => intro i h0 hi; have : i = 0 := by omega
                  subst this; exact ⟨0, hi, fun j hj => by omega⟩
        | succ n ih =>
          intro i h0 hi
          by_cases hx : ∃ j, j < i ∧ (j < ncl s ∧ w < (wdU s 0 l (j + 1) : Int))
          · obtain ⟨j, hj, hj2⟩ := hx
            exact ih j (by omega) hj2
          · exact ⟨i, hi, fun j hj h => hx ⟨j, hj, h⟩⟩
      exact this i i (Nat.le_refl _) hi
    have hn : ∀ j, j < i → ¬ w < (wdU s 0 l (j + 1) : Int) := fun j hj h => hmin j hj ⟨by omega, h⟩
    rw [cutP_at hi hn hw]
    have hm := wdU_mono s 0 l (show i + 1 ≤ ncl s by omega)
    rw [if_neg (by omega)]
    have hup : ∀ k, i < k → w < (wdU s 0 l k : Int) := fun k hk => by
      have := wdU_mono s 0 l (show i + 1 ≤ k by omega); omega
    rw [best_low hup (ncl s) hi]
    by_cases h0 : w < 0
    · rw [best_neg h0]
      have : i = 0 := by
        rcases Nat.eq_zero_or_pos i with h' | h'
        · exact h'
        · exact absurd (show w < (wdU s 0 l (0 + 1) : Int) by omega) (hn 0 h')
      subst this; rfl
    · simp only [bestA]
      rw [if_pos]
      rcases Nat.eq_zero_or_pos i with h' | h'
      · subst h'
        show ((0 : Nat) : Int) ≤ w
        omega
      · have := hn (i - 1) (by omega)
        rw [show i - 1 + 1 = i from by omega] at this
        omega
  · have hn : ∀ j, j < ncl s → ¬ w < (wdU s 0 l (j + 1) : Int) := fun j hj hw => h ⟨j, hj, hw⟩
    rw [cutP_none hn]
    rcases Nat.eq_zero_or_pos (ncl s) with h0 | h0
    · have hs := ncl_zero.1 h0
      rw [h0, hs]
      show (if w < 0 then 0 else 0) = if ((0 : Nat) : Int) ≤ w then 0 else 0
      split <;> split <;> rfl
    · have := hn (ncl s - 1) (by omega)
      rw [show ncl s - 1 + 1 = ncl s from by omega] at this
      rw [if_neg (by omega), if_pos (by omega)]
theorem isB_of {s : ByteArray} {i : Nat} (hi : i ≤ ncl s) : isB s (bp s i : Int) = true := by
  unfold isB
  rw [List.any_eq_true]
  exact ⟨i, List.mem_range.2 (by omega), decide_eq_true rfl⟩
theorem cut_is (s : ByteArray) (l : Lk) (w : Int) : isB s (cutP s w l : Int) = true := by
  unfold cutP
  split
  · rename_i h; exact isB_of (Nat.le_of_lt h)
  · split
    · exact isB_of (i := 0) (Nat.zero_le _)
    · rw [← bp_end s]; exact isB_of (Nat.le_refl _)

/-! ### Single bytes -/
def okB6 (b : Nat) (r : ByteArray × Nat) : Bool := decide (r.1.size = r.2) && ((r.2 == 0) == (b == 10)) && r.1.data.toList.all fun q => decide (32 ≤ q.toNat) && decide (q.toNat ≤ 126)
theorem byte_low : ∀ b : Fin 128, b.val ≠ 9 → ∀ wd rw : Bool, if 32 ≤ b.val ∧ b.val < 127 then textC ⟨#[UInt8.ofNat b.val]⟩ 0 ⟨0, wd, 0, false, rw⟩ = (⟨#[UInt8.ofNat b.val]⟩, 1) else okB6 b.val (textC ⟨#[UInt8.ofNat b.val]⟩ 0 ⟨0, wd, 0, false, rw⟩) = true := by decide +kernel
theorem byte_high : ∀ b : Fin 128, okB6 (b.val + 128) (textC ⟨#[UInt8.ofNat (b.val + 128)]⟩ 0 ⟨0, false, 0, false, false⟩) = true ∧ isBad ⟨#[UInt8.ofNat (b.val + 128)]⟩ 0 = true := by decide +kernel
theorem byte_one : ∀ b : Fin 256, bp ⟨#[UInt8.ofNat b.val]⟩ 1 = 1 := by decide +kernel
theorem byte_tab : ∀ n : Fin 17, 0 < n.val → okB6 9 (blankS n.val, n.val) = true := by decide +kernel
theorem oneC_look {k : ByteArray} (h : isBad k 0 = true ∨ ¬ sg k 0 = 9) (c : Int) (l : Lk) : oneC k c l = oneC k 0 ⟨0, l.wide, 0, false, l.raw⟩ := by
  unfold oneC
  by_cases hb : isBad k 0 = true
  · rw [if_pos hb, if_pos hb]
  · have h9 := h.resolve_left hb
    rw [if_neg hb, if_neg hb, if_neg h9, if_neg h9]
theorem byte_text (b : Nat) (hb : b < 256) (c : Int) (l : Lk) : textC ⟨#[UInt8.ofNat b]⟩ c l = oneC ⟨#[UInt8.ofNat b]⟩ c l := self_text (byte_one ⟨b, hb⟩) (by decide : 0 < 1) c l
theorem byte_sg : ∀ b : Fin 128, b.val ≠ 9 → ¬ sg ⟨#[UInt8.ofNat b.val]⟩ 0 = 9 := by decide +kernel
theorem byte_nine : isBad ⟨#[9]⟩ 0 = false ∧ sg ⟨#[9]⟩ 0 = 9 := by decide +kernel
/-- What a printable byte shows. -/
theorem byte_print {b : Nat} (h1 : 32 ≤ b) (h2 : b < 127) (c : Int) (l : Lk) : textC ⟨#[UInt8.ofNat b]⟩ c l = (⟨#[UInt8.ofNat b]⟩, 1) := by
  have hlow := byte_low ⟨b, by omega⟩ (by dsimp only; omega) l.wide l.raw
  dsimp only at hlow
  rw [if_pos ⟨h1, h2⟩, byte_text b (by omega)] at hlow
  rw [byte_text b (by omega), oneC_look (.inr (byte_sg ⟨b, by omega⟩ (by dsimp only; omega)))]
  exact hlow
/-- .. another. -/
theorem byte_other {b : Nat} (hb : b < 256) (h : ¬ (32 ≤ b ∧ b < 127)) (c : Int) (l : Lk) : okB6 b (textC ⟨#[UInt8.ofNat b]⟩ c l) = true := by
  rw [byte_text b hb]
  rcases Nat.lt_or_ge b 128 with h1 | h1
  · by_cases h9 : b = 9
    · subst h9
      have ht := tab_bd l.tab
      have hs := stop_bd c l.tab
      rw [show UInt8.ofNat 9 = 9 from rfl, oneC_tab byte_nine.1 byte_nine.2]
      exact byte_tab ⟨stopN c l.tab, by omega⟩ (by dsimp only; omega)
    · have hlow := byte_low ⟨b, h1⟩ h9 l.wide l.raw
      dsimp only at hlow
      rw [if_neg h, byte_text b hb] at hlow
      rw [oneC_look (.inr (byte_sg ⟨b, h1⟩ h9))]
      exact hlow
  · have hh := byte_high ⟨b - 128, by omega⟩
    dsimp only at hh
    rw [show b - 128 + 128 = b from by omega, byte_text b hb, oneC_bad hh.2] at hh
    rw [oneC_bad hh.2]
    exact hh.1

end Go.Proofs.YthpjkgoahneldaaDoor
end

section
/-
  Chapter 6: the laws ShowBytes, ShowAdds.
-/
namespace Go.Proofs.YthpjkgoahneldaaDoor
open Go Go.RowKit Vc Ut Tb Cl

theorem one_byte {w w1 : World} {b : Nat} {k : Nat} {t : TypeId} (hk : k < 256) (hn : New w (.cells #[.int .u8 (k : Int)] t) b w1) : BytesIn w1 (some ⟨b, 0, none⟩) 1 ⟨#[UInt8.ofNat k]⟩ := by
  refine bytesIn_of rfl (.inr ⟨b, 0, rfl, fun j v hv => ?_⟩)
  rw [cell_of_heap hn.heap, Nat.zero_add, show (#[Value.int .u8 (k : Int)] : Array Value) = [Value.int .u8 (k : Int)].toArray from rfl, List.getElem?_toArray]
  have e : (UInt8.ofNat k).toNat = k := by rw [UInt8.toNat_ofNat']; exact Nat.mod_eq_of_lt (by omega)
  have hv : ([Value.int .u8 ((UInt8.ofNat k).toNat : Int)])[j]? = some v := hv
  rw [e] at hv
  exact hv
theorem lawBy_ok : sLawBy.Ok Tryd.prog 16 := by
  refine lawBy_vc ⟨shows_ok, textp_ok, live_ok, trivial⟩ ?_
  rintro ⟨k, col, l⟩ w ⟨hU, hk⟩ b w1 hn
  dsimp only at hU hk ⊢
  obtain ⟨c0, c1, c2, c3, c4⟩ := look_at (l := l) hn.heap
  have e1 : Ext w w1 := hn.ext
  refine bcase_mk (fun h => ?_) (fun h => ?_)
  · rw [Bool.and_eq_true] at h
    have h1 := of_decide_eq_true h.1
    have h2 := of_decide_eq_true h.2
    intro b1 w2 hn2
    have x2 := hn2.ext
    refine ⟨_, one_byte hk hn2, _, x2.cell c0, _, x2.cell c1, _, x2.cell c2, _, x2.cell c3, _, x2.cell c4, ?_⟩
    intro b5 w3 hn3
    have e3 : Ext w w3 := Ext.trans e1 (Ext.trans x2 hn3.ext)
    refine ⟨_, one_byte hk hn3, ?_⟩
    refine sh_step hU e3 l (by show 1 ≤ 67108864; decide) ?_ fun w4 e4 => bcase_is rfl ⟨(), rfl, hU.ext e4, fun _ w5 e5 => ⟨(), rfl, Ext.trans e4 e5⟩⟩
    unfold showsB
    rw [byte_print (by omega) (by omega)]
    simp
  · have hnp : ¬ (32 ≤ k ∧ k < 127) := by
      rintro ⟨h1, h2⟩
      rw [decide_eq_true (show (k : Int) ≥ 32 by omega), decide_eq_true (show (k : Int) < 127 by omega)] at h
      cases h
    intro b1 w2 hn2
    have x2 := hn2.ext
    have e2 : Ext w w2 := Ext.trans e1 x2
    refine ⟨_, one_byte hk hn2, _, x2.cell c0, _, x2.cell c1, _, x2.cell c2, _, x2.cell c3, _, x2.cell c4, ?_⟩
    refine te_step hU e2 l (by show 1 ≤ 67108864; decide) fun w3 e3 => ?_
    have hok := byte_other hk hnp col l
    have hw := one_w ⟨#[UInt8.ofNat k]⟩ col l
    rw [← byte_text k hk] at hw
    generalize textC ⟨#[UInt8.ofNat k]⟩ col l = r at hok hw ⊢
    have hz : (ByteArray.mk #[UInt8.ofNat k]).size = 1 := rfl
    unfold okB6 at hok
    rw [Bool.and_eq_true, Bool.and_eq_true, List.all_eq_true] at hok
    obtain ⟨⟨o1, o2⟩, o3⟩ := hok
    have o1 := of_decide_eq_true o1
    refine bcase_mk (fun h => ?_) (fun h => ?_)
    · exfalso
      have o2 : (r.2 == 0) = (k == 10) := by simpa using o2
      rw [o1, show ((r.2 : Int) == 0) = (r.2 == 0) from by rw [Bool.eq_iff_iff, beq_iff_eq, beq_iff_eq]; omega, show ((k : Int) == 10) = (k == 10) from by rw [Bool.eq_iff_iff, beq_iff_eq, beq_iff_eq]; omega, o2] at h
      simp at h
    refine ⟨⟨0, rfl, by decide, e3⟩, ?_⟩
    rintro _ i w4 ⟨hi, e4⟩
    refine bcase_mk (fun h => ?_) (fun h => ⟨(), rfl, hU.ext e4, fun _ w5 e5 => ⟨(), rfl, Ext.trans e4 e5⟩⟩)
    have hlt : i < r.1.size := by have := of_decide_eq_true h; omega
    have hmem : r.1.data.toList.getD i 0 ∈ r.1.data.toList := by
      have hl : i < r.1.data.toList.length := by rw [size_list]; exact hlt
      rw [List.getD_eq_getElem?_getD, List.getElem?_eq_getElem hl]
      exact List.getElem_mem hl
    have hq := o3 _ hmem
    rw [Bool.and_eq_true] at hq
    have q1 := of_decide_eq_true hq.1
    have q2 := of_decide_eq_true hq.2
    refine ⟨i, rfl, hlt, bcase_mk (fun h => ?_) (fun _ => ⟨i, rfl, hlt, bcase_mk (fun h => ?_) (fun _ => ⟨inr_i64 (by omega) (by omega), i + 1, by simp, ⟨by omega, e4⟩, by omega⟩)⟩)⟩
    · exfalso; have := of_decide_eq_true h; omega
    · exfalso; have := of_decide_eq_true h; omega

/-! ### Widths add up -/
theorem ones_4 {a b c d q : Nat} : ones [a, b, c, d] q ↔ q = a ∨ q = b ∨ q = c ∨ q = d := by simp [ones]

set_option maxRecDepth 100000 in
set_option maxHeartbeats 2000000 in
theorem lawAd_ok : sLawAd.Ok Tryd.prog 18 := by
  refine lawAd_vc ⟨widc_ok, call_ok, live_ok, cutc_ok, cis_ok, trivial⟩ ?_
  rintro ⟨s, col, l, wd⟩ w ⟨hU, hD, hsm⟩ b w1 hn1 b1 w2 hn2 b2 w3 hn3 b3 w4 hn4 b4 w5 hn5
  dsimp only at hU hD hsm ⊢
  dsimp only [ptrB]
  have z1 := hn1.size; have z2 := hn2.size; have z3 := hn3.size; have z4 := hn4.size; have z5 := hn5.size
  have hut := hU.lt; have hdt := hD.lt
  have x45 := hn5.ext
  have x35 := Ext.trans hn4.ext x45
  have x25 := Ext.trans hn3.ext x35
  have x15 := Ext.trans hn2.ext x25
  have e5 : Ext w w5 := Ext.trans hn1.ext x15
  have h50 := x15.heap hn1.heap
  have h51 := x25.heap hn2.heap
  have h52 := x35.heap hn3.heap
  have h53 := x45.heap hn4.heap
  have h54 := hn5.heap
  have hca := colA_bd col
  refine ⟨⟨col, box_cell h51, bcase_mk (fun h => ⟨rfl, box_old h51, box_free h51, fun w6 hs6 => ⟨(), ?_, Fr.stored hs6⟩⟩) (fun h => ⟨col, box_cell h51, bcase_mk (fun h' => ⟨rfl, box_old h51, box_free h51, fun w6 hs6 => ⟨(), ?_, Fr.stored hs6⟩⟩) (fun h' => ⟨(), ?_, Fr.refl _ _⟩)⟩)⟩, ?_⟩
  · have h := of_decide_eq_true h
    unfold colA; rw [if_pos (.inl h)]; exact hs6.box h51
  · have h' := of_decide_eq_true h'
    unfold colA; rw [if_pos (.inr h')]; exact hs6.box h51
  · have h := of_decide_eq_false h
    have h' := of_decide_eq_false h'
    unfold colA; rw [if_neg (by omega)]; exact h51
  rintro _ _ w6 ⟨h61, hf6⟩
  have kf : ∀ {q : Nat} {o : Obj}, w5.heap[q]? = some o → q ≠ b1 → w6.heap[q]? = some o := fun {q o} h hq => (hf6.block q (heap_lt h) hq).trans h
  have h60 := kf h50 (by omega)
  have h62 := kf h52 (by omega)
  have h63 := kf h53 (by omega)
  have h64 := kf h54 (by omega)
  have e6 : Ext w w6 := Ext.fr_new e5 hf6 (fun q hq => by omega)
  generalize hA : colA col = ca at hca h61 ⊢
  obtain ⟨c0, c1, c2, c3, c4⟩ := look_at (l := l) h62
  have hncl := ncl_le s
  have hz6 := hf6.size
  refine ⟨s, box_cell h60, ca, box_cell h61, l.tab, c0, l.wide, c1, l.want, c2, l.join, c3, l.raw, c4, ⟨s, ca, l⟩, rfl, ⟨hU.ext e6, hD.ext e6, by dsimp only; omega⟩, ?_⟩
  rintro whole w7 ⟨hwh, e67⟩
  dsimp only at hwh
  intro b8 w8 hn8
  have h88 := hn8.heap
  refine ⟨rfl, box_old h88, box_free h88, fun w9 hs9 => ?_⟩
  have h98 := hs9.box h88
  have z8 := hn8.size
  have z7 := e67.size
  have e68 : Ext w6 w8 := Ext.trans e67 hn8.ext
  have e69 : Ext w6 w9 := Ext.stored e68 hs9 (by show _ ≤ b8; omega)
  have e9 := Ext.trans e6 e69
  refine ⟨s, box_cell (e69.heap h60), s, rfl, trivial, ?_⟩
  rintro v w10 ⟨hv, hvs, e910⟩
  have e610 := Ext.trans e69 e910
  have e10 := Ext.trans e6 e610
  have h108 := e910.heap h98
  refine ⟨⟨(), rfl, ⟨hU.ext e10, hD.ext e10⟩, fun _ w11 e1011 => ⟨_, box_cell (e1011.heap h108), bcase_mk (fun h => ?_) (fun h => ⟨(), e1011⟩)⟩⟩, ?_⟩
  · exfalso; have := of_decide_eq_true h; omega
  rintro _ _ w11 e1011
  have e611 := Ext.trans e610 e1011
  have e11 := Ext.trans e6 e611
  have c0' := e611.cell c0; have c1' := e611.cell c1; have c2' := e611.cell c2; have c3' := e611.cell c3; have c4' := e611.cell c4
  refine ⟨s, box_cell (e611.heap h60), wd, box_cell (e611.heap h63), l.tab, c0', l.wide, c1', l.want, c2', l.join, c3', l.raw, c4', ⟨s, wd, l⟩, rfl, ⟨hU.ext e11, hD.ext e11, by dsimp only; omega⟩, ?_⟩
  rintro cut w12 ⟨hcut, e1112⟩
  dsimp only at hcut
  intro b12 w13 hn13
  have g1 := hn13.heap
  have y1 := hn13.size
  refine ⟨rfl, box_old g1, box_free g1, fun w14 hs14 => ?_⟩
  have g2 := hs14.box g1
  have y2 := hs14.size
  intro b13 w15 hn15
  have g3 := hn15.heap
  have y3 := hn15.size
  refine ⟨rfl, box_old g3, box_free g3, fun w16 hs16 => ?_⟩
  have g4 := hs16.box g3
  have y4 := hs16.size
  intro b14 w17 hn17
  have g5 := hn17.heap
  have y5 := hn17.size
  refine ⟨rfl, box_old g5, box_free g5, fun w18 hs18 => ?_⟩
  have g6 := hs18.box g5
  have y6 := hs18.size
  intro b15 w19 hn19
  have g7 := hn19.heap
  have y7 := hn19.size
  refine ⟨rfl, box_old g7, box_free g7, fun w20 hs20 => ?_⟩
  have g8 := hs20.box g7
  have y8 := hs20.size
  have y0 := e1112.size
  have yb := e1011.size
  have ya := e910.size
  have y9 := hs9.size
  have e612 := Ext.trans e611 e1112
  have hv12 : ∀ {q : Nat} {o : Obj}, w12.heap[q]? = some o → w20.heap[q]? = some o := by
    intro q o h
    have hq := heap_lt h
    have a1 := hn13.ext.heap h
    have a2 := (hs14.other (k := q) (by show q ≠ b12; omega)).trans a1
    have a3 := hn15.ext.heap a2
    have a4 := (hs16.other (k := q) (by show q ≠ b13; omega)).trans a3
    have a5 := hn17.ext.heap a4
    have a6 := (hs18.other (k := q) (by show q ≠ b14; omega)).trans a5
    have a7 := hn19.ext.heap a6
    exact (hs20.other (k := q) (by show q ≠ b15; omega)).trans a7
  have hw12 : w.heap.size ≤ w12.heap.size := (Ext.trans e6 e612).size
  have e20 : Ext w w20 := by
    have a1 : Ext w w13 := Ext.trans (Ext.trans e6 e612) hn13.ext
    have a2 : Ext w w14 := Ext.stored a1 hs14 (by show _ ≤ b12; omega)
    have a3 : Ext w w16 := Ext.stored (Ext.trans a2 hn15.ext) hs16 (by show _ ≤ b13; omega)
    have a4 : Ext w w18 := Ext.stored (Ext.trans a3 hn17.ext) hs18 (by show _ ≤ b14; omega)
    exact Ext.stored (Ext.trans a4 hn19.ext) hs20 (by show _ ≤ b15; omega)
  have p0 := hv12 (e612.heap h60)
  have p1 := hv12 (e612.heap h61)
  have p2 := hv12 (e612.heap h62)
  have p3 := hv12 (e612.heap h63)
  have p4 := hv12 (e612.heap h64)
  have p8 := hv12 ((Ext.trans e1011 e1112).heap h108)
  have pv := hv12 ((Ext.trans e1011 e1112).heap hvs)
  have p12 : w20.heap[b12]? = some (.cells #[.int .i64 (cut : Nat)] 3) := by
    have a2 := hn15.ext.heap g2
    have a3 := (hs16.other (k := b12) (by show b12 ≠ b13; omega)).trans a2
    have a4 := hn17.ext.heap a3
    have a5 := (hs18.other (k := b12) (by show b12 ≠ b14; omega)).trans a4
    have a6 := hn19.ext.heap a5
    exact (hs20.other (k := b12) (by show b12 ≠ b15; omega)).trans a6
  have p13 : w20.heap[b13]? = some (.cells #[.int .i64 0] 3) := by
    have a4 := hn17.ext.heap g4
    have a5 := (hs18.other (k := b13) (by show b13 ≠ b14; omega)).trans a4
    have a6 := hn19.ext.heap a5
    exact (hs20.other (k := b13) (by show b13 ≠ b15; omega)).trans a6
  have p14 : w20.heap[b14]? = some (.cells #[.int .i64 0] 3) := by
    have a6 := hn19.ext.heap g6
    exact (hs20.other (k := b14) (by show b14 ≠ b15; omega)).trans a6
  have p15 := g8
  have o4 : b4 < b8 := by omega
  have o8 : b8 < v := by have := hs9.size; omega
  have o12 : v < b12 := by have := heap_lt ((Ext.trans e1011 e1112).heap hvs); omega
  have o13 : b12 < b13 := by omega
  have o14 : b13 < b14 := by omega
  have o15 : b14 < b15 := by omega
  have lt15 : b15 < w20.heap.size := heap_lt p15
  have hU20 := hU.ext e20
  have hD20 := hD.ext e20
  clear hv12 kf
  have n1 : b4 ≠ b13 := by omega
  have n2 : b4 ≠ b14 := by omega
  have n3 : b4 ≠ b15 := by omega
  have n4 : b13 ≠ b14 := by omega
  have n5 : b13 ≠ b15 := by omega
  have n6 : b14 ≠ b15 := by omega
  have nd : ∀ q, q ≠ b4 → q < b13 → ¬ ones [b4, b13, b14, b15] q := fun q h1 h2 h => by rcases ones_4.1 h with h | h | h | h <;> omega
  have dm : ∀ {q : Nat}, q = b4 ∨ q = b13 ∨ q = b14 ∨ q = b15 → ones [b4, b13, b14, b15] q := ones_4.2
  have hbase : w.heap.size ≤ b := by omega
  have hb04 : b < b1 ∧ b1 < b2 ∧ b2 < b3 ∧ b3 < b4 := by omega
  have hwhole : whole = wdU s (redC ca l) l (ncl s) := hwh
  have hcut' : cut = cutP s wd l := hcut
  refine ⟨pcL s, cC v, ones [b4, b13, b14, b15], pc_iter pv hU20 (by omega), ⟨?_, ?_⟩, ⟨rfl, ⟨_, p4⟩, p13, p14, p15⟩, ?_, ?_, ?_, ?_, ?_⟩
  · intro q hq; rcases ones_4.1 hq with rfl | rfl | rfl | rfl <;> omega
  · intro q hq
    refine ⟨cC_lt (by omega) hU20 q hq, nd q ?_ ?_⟩
    · rcases hq with h' | h' | h' <;> omega
    · rcases hq with h' | h' | h' <;> omega
  · rintro k D W W' ⟨rfl, ⟨u, ha⟩, hb, hc, hd⟩ hsz hq
    exact ⟨rfl, ⟨u, hq b4 _ (.inr (dm (.inl rfl))) ha (.inl rfl)⟩, hq b13 _ (.inr (dm (.inr (.inl rfl)))) hb (.inl rfl), hq b14 _ (.inr (dm (.inr (.inr (.inl rfl))))) hc (.inl rfl), hq b15 _ (.inr (dm (.inr (.inr (.inr rfl))))) hd (.inl rfl)⟩
  · rintro _ k D W W' ⟨rfl, ha⟩ hsz hq
    exact ⟨rfl, hq b4 _ (.inr (dm (.inl rfl))) ha (.inl rfl)⟩
  · rintro k pp D W hp ⟨rfl, ⟨u, ha⟩, hb, hc, hd⟩ hM
    have hkl : k < ncl s := by have := (List.getElem?_eq_some_iff.1 hp).1; rwa [pc_len] at this
    rw [pc_get hkl] at hp
    cases hp
    have hle := bp_le s k
    have k0 := (hM.old (heap_lt p0) (nd b (by omega) (by omega))).trans p0
    have k1 := (hM.old (heap_lt p1) (nd b1 (by omega) (by omega))).trans p1
    have k2 := (hM.old (heap_lt p2) (nd b2 (by omega) (by omega))).trans p2
    have k3 := (hM.old (heap_lt p3) (nd b3 (by omega) (by omega))).trans p3
    have k8 := (hM.old (heap_lt p8) (nd b8 (by omega) (by omega))).trans p8
    have k12 := (hM.old (heap_lt p12) (nd b12 (by omega) (by omega))).trans p12
    obtain ⟨d0, d1, d2, d3, d4⟩ := look_at (l := l) k2
    have hUW : U8 W := hU20.fr hM.fr (nd _ (by omega) (by omega)) (nd _ (by omega) (by omega))
    have hDW : DB W := hD20.fr hM.fr (nd _ (by omega) (by omega))
    have hpre : ∀ (c : Int), wideS (s.extract 0 (bp s k)) c l = wdU s (redC c l) l k := fun c => wide_pre (Nat.le_of_lt hkl) c l
    have hsz : (s.extract 0 (bp s k)).size ≤ 67108864 := by rw [size_ext hle]; omega
    have hsz2 : (s.extract (bp s k) s.size).size ≤ 67108864 := by rw [size_ext (Nat.le_refl _)]; omega
    have hwl := wdU_le s (redC ca l) l k
    have hwn := wdU_le s (redC ca l) l (ncl s)
    have hsuf := wide_suf (Nat.le_of_lt hkl) hca.1 l
    have hlast := last_le s (redC ca l) l k
    have hws : wideS s ca l = whole := hwh.symm
    intro w21 hd21
    refine ⟨s, box_cell k0, bp s k, rfl, Nat.zero_le _, hle, ca, box_cell k1, l.tab, d0, l.wide, d1, l.want, d2, l.join, d3, l.raw, d4, ⟨s.extract 0 (bp s k), ca, l⟩, rfl, ⟨hUW.ext hd21.ext, hDW.ext hd21.ext, hsz⟩, ?_⟩
    rintro a w22 ⟨hax, e2122⟩
    have hax : a = wdU s (redC ca l) l k := hax.trans (hpre ca)
    have eW22 : Ext W w22 := Ext.trans hd21.ext e2122
    refine ⟨?_, ?_⟩
    · intro w23 hd23
      refine ⟨_, box_cell (eW22.heap hc), bcase_mk (fun h => ?_) (fun h => ?_)⟩
      · have q0 := eW22.cell d0; have q1 := eW22.cell d1; have q2 := eW22.cell d2; have q3 := eW22.cell d3; have q4 := eW22.cell d4
        refine ⟨s, box_cell (eW22.heap k0), bp s k, rfl, hle, Nat.le_refl _, ca, box_cell (eW22.heap k1), inr_i64 (by omega) (by omega), l.tab, q0, l.wide, q1, l.want, q2, l.join, q3, l.raw, q4, _, box_cell (eW22.heap k8), ⟨s.extract (bp s k) s.size, ca + a, l⟩, rfl, ⟨hUW.ext (Ext.trans eW22 hd23.ext), hDW.ext (Ext.trans eW22 hd23.ext), hsz2⟩, ?_⟩
        rintro y w24 ⟨hy, e2324⟩
        dsimp only at hy
        rw [hax] at hy
        have hsum : a + y = whole := by rw [hax, hy, hsuf, hws]
        refine ⟨e2324, inr_i64 (by omega) (by omega), bcase_mk (fun h => ?_) (fun h => ⟨_, box_cell ((Ext.trans eW22 (Ext.trans hd23.ext e2324)).heap hd), bcase_mk (fun h => ?_) (fun h => ⟨(), Ext.trans hd23.ext e2324⟩)⟩)⟩
        · exfalso
          rw [show (a : Int) + (y : Int) = (whole : Int) from by omega] at h
          simp at h
        · exfalso
          have := of_decide_eq_true h; omega
      · refine ⟨_, box_cell (eW22.heap hd), bcase_mk (fun h => ?_) (fun h => ⟨(), hd23.ext⟩)⟩
        exfalso
        have := of_decide_eq_true h; omega
    rintro _ _ w23 e2223
    have eW23 : Ext W w23 := Ext.trans eW22 e2223
    have st23 := Step.ext eW23 hM.lt
    have j15 := eW23.heap hd
    refine ⟨rfl, box_old j15, box_free j15, fun w24 hs24 => ?_⟩
    have st24 := st23.trans (Step.stored hs24 (dm (.inr (.inr (.inr rfl)))) (fun q hq => (st23.dom q hq).1))
    have m15 := hs24.box j15
    have m14 := (hs24.other (k := b14) n6).trans (eW23.heap hc)
    have m13 := (hs24.other (k := b13) n5).trans (eW23.heap hb)
    have m4 := (hs24.other (k := b4) n3).trans (eW23.heap ha)
    refine ⟨_, box_cell m14, inr_i64 (by omega) (by omega), rfl, box_old m14, box_free m14, fun w25 hs25 => ?_⟩
    have st25 := st24.trans (Step.stored hs25 (dm (.inr (.inr (.inl rfl)))) (fun q hq => (st24.dom q hq).1))
    have r14 := hs25.box m14
    have r15 := (hs25.other (k := b15) n6.symm).trans m15
    have r13 := (hs25.other (k := b13) n4).trans m13
    have r4 := (hs25.other (k := b4) n2).trans m4
    intro w26 hd26
    have kp : ∀ {V : World} {q : Nat} {o : Obj}, Step (ones [b4, b13, b14, b15]) W V (ones [b4, b13, b14, b15]) → W.heap[q]? = some o → ¬ ones [b4, b13, b14, b15] q → V.heap[q]? = some o := fun {V q o} st h hq => (st.fr.block q (heap_lt h) hq).trans h
    have uV : ∀ {V : World}, Step (ones [b4, b13, b14, b15]) W V (ones [b4, b13, b14, b15]) → U8 V ∧ DB V := fun {V} st => ⟨hU20.fr (hM.step st).fr (nd _ (by omega) (by omega)) (nd _ (by omega) (by omega)), hD20.fr (hM.step st).fr (nd _ (by omega) (by omega))⟩
    obtain ⟨f0, f1, f2, f3, f4⟩ := look_at (l := l) (kp st25 k2 (nd b2 (by omega) (by omega)))
    have u25 := uV st25
    refine ⟨s, box_cell (kp st25 k0 (nd b (by omega) (by omega))), bp s k, rfl, Nat.zero_le _, hle, l.tab, f0, l.wide, f1, l.want, f2, l.join, f3, l.raw, f4, wd, box_cell (kp st25 k3 (nd b3 (by omega) (by omega))), ⟨s.extract 0 (bp s k), 0, l⟩, rfl, ⟨u25.1.ext hd26.ext, u25.2.ext hd26.ext, hsz⟩, ?_⟩
    rintro x w27 ⟨hx, e2627⟩
    have hx : x = wdU s 0 l k := by rw [← red_zero l]; exact hx.trans (hpre 0)
    have e2527 : Ext w25 w27 := Ext.trans hd26.ext e2627
    have st27 := st25.trans (Step.ext e2527 (fun q hq => (st25.dom q hq).1))
    have s14 := e2527.heap r14
    have s15 := e2527.heap r15
    have s13 := e2527.heap r13
    have s4 := e2527.heap r4
    have fin : ∀ V : World, Step (ones [b4, b13, b14, b15]) W V (ones [b4, b13, b14, b15]) → V.heap[b4]? = some (.cells #[.bool u] 4) → V.heap[b13]? = some (.cells #[.int .i64 (bestA s l wd (k + 1) : Nat)] 3) → V.heap[b14]? = some (.cells #[.int .i64 ((k : Int) + 1)] 3) → V.heap[b15]? = some (.cells #[.int .i64 (a : Nat)] 3) →
        ∃ n13 : Int, V.cell? ⟨b14, 0, none⟩ = some (.int .i64 n13) ∧ bcase (decide (n13 > 300)) (∃ s5 : ByteArray, V.cell? ⟨b, 0, none⟩ = some (.string s5) ∧ ∃ n14 : Int, V.cell? ⟨b12, 0, none⟩ = some (.int .i64 n14) ∧ ∃ g6 : ByteArray × Int, (#[.string s5, .int .i64 n14] : Array Value) = #[.string g6.1, .int .i64 g6.2] ∧ (U8 V ∧ g6.1.size ≤ 67108864) ∧
          ∀ (x6 : Bool) (V2 : World), x6 = isB g6.1 g6.2 ∧ Ext V V2 → true = true ∧ (∃ old : Value, V2.cell? ⟨b4, 0, none⟩ = some old) ∧ V2.frozen? ⟨b4, 0, none⟩ = false ∧ ∀ V3 : World, Stored V2 ⟨b4, 0, none⟩ (.bool x6) V3 → ∃ D' : Nat → Prop, Step (ones [b4, b13, b14, b15]) W V3 D' ∧ D' = ones [b4, b13, b14, b15] ∧ V3.heap[b4]? = some (.cells #[.bool true] 4))
          (∃ D' : Nat → Prop, Step (ones [b4, b13, b14, b15]) W V D' ∧ D' = ones [b4, b13, b14, b15] ∧ (∃ v : Bool, V.heap[b4]? = some (.cells #[.bool v] 4)) ∧ V.heap[b13]? = some (.cells #[.int .i64 (bestA s l wd (k + 1) : Nat)] 3) ∧ V.heap[b14]? = some (.cells #[.int .i64 ((k + 1 : Nat) : Int)] 3) ∧ V.heap[b15]? = some (.cells #[.int .i64 (lastA s (redC ca l) l (k + 1) : Nat)] 3)) := by
      intro V st t4 t13 t14 t15
      refine ⟨_, box_cell t14, bcase_mk (fun h => ?_) (fun h => ?_)⟩
      · refine ⟨s, box_cell (kp st k0 (nd b (by omega) (by omega))), _, box_cell (kp st k12 (nd b12 (by omega) (by omega))), (s, (cut : Int)), rfl, ⟨(uV st).1, by dsimp only; omega⟩, ?_⟩
        rintro x6 V2 ⟨hx6, eV⟩
        have t4' := eV.heap t4
        have st2 := st.trans (Step.ext eV (fun q hq => (st.dom q hq).1))
        refine ⟨rfl, box_old t4', box_free t4', fun V3 hs3 => ⟨_, st2.trans (Step.stored hs3 (dm (.inl rfl)) (fun q hq => (st2.dom q hq).1)), rfl, ?_⟩⟩
        have := hs3.box t4'
        rw [hx6, hcut', cut_is] at this
        exact this
      · exact ⟨_, st, rfl, ⟨u, t4⟩, t13, t14, by rw [show lastA s (redC ca l) l (k + 1) = a from hax.symm]; exact t15⟩
    refine ⟨e2627, bcase_mk (fun h => ?_) (fun h => ?_)⟩
    · have h := of_decide_eq_true h
      refine ⟨rfl, box_old s13, box_free s13, fun w28 hs28 => ?_⟩
      refine fin w28 (st27.trans (Step.stored hs28 (dm (.inr (.inl rfl))) (fun q hq => (st27.dom q hq).1))) ((hs28.other (k := b4) n1).trans s4) ?_ ((hs28.other (k := b14) n4.symm).trans s14) ((hs28.other (k := b15) n5.symm).trans s15)
      have := hs28.box s13
      simp only [bestA]
      rw [if_pos (by rw [← hx]; exact h)]
      exact this
    · have h := of_decide_eq_false h
      refine fin w27 st27 s4 ?_ s14 s15
      simp only [bestA]
      rw [if_neg (by rw [← hx]; exact h)]
      exact s13
  · rintro D W ⟨rfl, ⟨u, ha⟩, hb, hc, hd⟩ hM
    rw [lenX_eq, pc_len] at hb hc hd
    have k0 := (hM.old (heap_lt p0) (nd b (by omega) (by omega))).trans p0
    have k2 := (hM.old (heap_lt p2) (nd b2 (by omega) (by omega))).trans p2
    have k3 := (hM.old (heap_lt p3) (nd b3 (by omega) (by omega))).trans p3
    have k12 := (hM.old (heap_lt p12) (nd b12 (by omega) (by omega))).trans p12
    obtain ⟨d0, d1, d2, d3, d4⟩ := look_at (l := l) k2
    have hUW : U8 W := hU20.fr hM.fr (nd _ (by omega) (by omega)) (nd _ (by omega) (by omega))
    have hDW : DB W := hD20.fr hM.fr (nd _ (by omega) (by omega))
    have eW : Ext w W := hM.ext e20 (fun q hq => by rcases ones_4.1 hq with h | h | h | h <;> omega)
    have hbest := cut_best s l wd
    rw [← hcut'] at hbest
    intro w21 hd21
    refine ⟨s, box_cell k0, l.tab, d0, l.wide, d1, l.want, d2, l.join, d3, l.raw, d4, wd, box_cell k3, ⟨s, 0, l⟩, rfl, ⟨hUW.ext hd21.ext, hDW.ext hd21.ext, by dsimp only; omega⟩, ?_⟩
    rintro x w22 ⟨hx, e2122⟩
    have hx : x = wdU s 0 l (ncl s) := by
      have h0 : x = wdU s (redC 0 l) l (ncl s) := hx
      rwa [red_zero] at h0
    have eW22 : Ext W w22 := Ext.trans hd21.ext e2122
    have j4 := eW22.heap ha; have j13 := eW22.heap hb; have j0 := eW22.heap k0; have j12 := eW22.heap k12
    have fin : ∀ V : World, Ext w V → U8 V → V.heap[b4]? = some (.cells #[.bool u] 4) → V.heap[b]? = some (.cells #[.string s] 9) → V.heap[b12]? = some (.cells #[.int .i64 (cut : Nat)] 3) → V.heap[b13]? = some (.cells #[.int .i64 (cut : Nat)] 3) →
        ∃ n9 : Int, V.cell? ⟨b12, 0, none⟩ = some (.int .i64 n9) ∧ ∃ n10 : Int, V.cell? ⟨b13, 0, none⟩ = some (.int .i64 n10) ∧ bcase (n9 == n10) (∃ s5 : ByteArray, V.cell? ⟨b, 0, none⟩ = some (.string s5) ∧ ∃ n11 : Int, V.cell? ⟨b12, 0, none⟩ = some (.int .i64 n11) ∧ ∃ g5 : ByteArray × Int, (#[.string s5, .int .i64 n11] : Array Value) = #[.string g5.1, .int .i64 g5.2] ∧ (U8 V ∧ g5.1.size ≤ 67108864) ∧
          ∀ (x4 : Bool) (V2 : World), x4 = isB g5.1 g5.2 ∧ Ext V V2 → true = true ∧ (∃ old : Value, V2.cell? ⟨b4, 0, none⟩ = some old) ∧ V2.frozen? ⟨b4, 0, none⟩ = false ∧ ∀ V3 : World, Stored V2 ⟨b4, 0, none⟩ (.bool x4) V3 → ∃ b19 : Bool, V3.cell? ⟨b4, 0, none⟩ = some (.bool b19) ∧ ∀ W2 : World, Turn w.heap.size V3 W2 → ∃ _ : Unit, Value.bool b19 = Value.bool true ∧ Ext w W2)
          (true = true ∧ (∃ old : Value, V.cell? ⟨b4, 0, none⟩ = some old) ∧ V.frozen? ⟨b4, 0, none⟩ = false ∧ ∀ V3 : World, Stored V ⟨b4, 0, none⟩ (.bool false) V3 → ∃ b19 : Bool, V3.cell? ⟨b4, 0, none⟩ = some (.bool b19) ∧ ∀ W2 : World, Turn w.heap.size V3 W2 → ∃ _ : Unit, Value.bool b19 = Value.bool true ∧ Ext w W2) := by
      intro V eV uV t4 t0 t12 t13
      refine ⟨_, box_cell t12, _, box_cell t13, bcase_mk (fun h => ?_) (fun h => ?_)⟩
      · refine ⟨s, box_cell t0, _, box_cell t12, (s, (cut : Int)), rfl, ⟨uV, by dsimp only; omega⟩, ?_⟩
        rintro x4 V2 ⟨hx4, eV2⟩
        have t4' := eV2.heap t4
        refine ⟨rfl, box_old t4', box_free t4', fun V3 hs3 => ⟨_, box_cell (hs3.box t4'), fun W2 ht => ⟨(), ?_, Ext.turn (Ext.stored (Ext.trans eV eV2) hs3 (by show _ ≤ b4; omega)) ht⟩⟩⟩
        rw [hx4, hcut', cut_is]
      · exfalso
        simp at h
    refine ⟨e2122, bcase_mk (fun h => ?_) (fun h => ?_)⟩
    · have h := of_decide_eq_true h
      rw [hx] at h
      rw [if_pos h] at hbest
      refine ⟨s, box_cell j0, rfl, box_old j13, box_free j13, fun w23 hs23 => ?_⟩
      refine fin w23 (Ext.stored (Ext.trans eW eW22) hs23 (by show _ ≤ b13; omega)) ((hUW.ext eW22).fr (Fr.stored hs23) (by show _ ≠ b13; omega) (by show _ ≠ b13; omega)) ((hs23.other (k := b4) n1).trans j4) ((hs23.other (k := b) (by show b ≠ b13; omega)).trans j0) ((hs23.other (k := b12) (by show b12 ≠ b13; omega)).trans j12) ?_
      rw [hbest]; exact hs23.box j13
    · have h := of_decide_eq_false h
      rw [hx] at h
      rw [if_neg h] at hbest
      refine fin w22 (Ext.trans eW eW22) (hUW.ext eW22) j4 j0 j12 ?_
      rw [hbest]; exact j13
  · rintro D W ⟨rfl, ha⟩ hM
    have eW : Ext w W := hM.ext e20 (fun q hq => by rcases ones_4.1 hq with h | h | h | h <;> omega)
    exact ⟨_, box_cell ha, fun W2 ht => ⟨(), rfl, Ext.turn eW ht⟩⟩

end Go.Proofs.YthpjkgoahneldaaDoor
end

section
/-
  From a law's function, shown to return true and to turn nothing, to its row: what is asked of readings.
-/
namespace Go.Proofs.YthpjkgoahneldaaDoor.Lw
open Go Go.RowKit Go.ChangeShapes Go.WideShapes Go.ChangeAt Vc

section
variable {H : Type} {enc : TypeId × Value → H} {P : Program}

theorem trodAll_stays (hl : laidOutB P = true) {W W' : World} (hx : Below W.heap.size W W') {sp : Nat → Bool} : ∀ {ts : List TypeId} {vs : List Value} {ds : List (DataW H)} {p : List MemPlace},
    ts.all (fun t => P.readableRec t && decide (t < P.types.size)) = true → DataW.TrodAll enc P W 0 (fun _ => true) true ts vs ds p → (∀ x ∈ p, x.block < W.heap.size) → (∀ x ∈ p, sp x.block = true) → DataW.TrodAll enc P W' 0 sp true ts vs ds p
  | [], vs, ds, p, _, h, _, _ => by
    obtain ⟨rfl, rfl, rfl⟩ := trodAll_nil h
    exact trodAll_mk0
  | t :: ts, vs, ds, p, hp, h, hlt, hs => by
    obtain ⟨v, vs', d, ds', a, b, rfl, rfl, rfl, h1, h2⟩ := trodAll_cons h
    simp only [List.all_cons, Bool.and_eq_true, decide_eq_true_eq] at hp
    have h3 := WideElems.Trod_stays (sp' := sp) hl hp.1.1 hp.1.2 h1 (fun x hx' => hx.same (hlt x (by simp [hx']))) (fun x hx' => hs x (by simp [hx']))
    exact ⟨a, b, h3, trodAll_stays hl hx (by simpa using hp.2) h2 (fun x hx' => hlt x (by simp [hx'])) (fun x hx' => hs x (by simp [hx'])), rfl⟩

/-- What a law's row asks behind the call. -/
theorem post_law {f : Func} {s : ChangeSpec} {apart fresh handsOn again : Bool} {W W' : World} {args : Array Value} {ds gs : List (DataW H)} {before : List MemPlace} {tb : TypeId} (hW : DataW.Whole enc P f.params.toList s.vars apart W args.toList ds gs before) (hvars : s.vars = [])
    (hfn : s.fn H ds = { results := [.lit (.bool true)], args := ds }) (hres : f.resultTypes = #[tb]) (htb : P.underlying tb = some .bool) (hl : laidOutB P = true) (hp : f.params.toList.all (fun t => P.readableRec t && decide (t < P.types.size)) = true) (hx : Below W.heap.size W W') :
    s.post enc P f apart fresh handsOn again W args (.bool true) W' := by
  have hW0 := hW
  obtain ⟨pa, pv, hA, hV, rfl, hz, hn⟩ := hW
  rw [hvars] at hV
  obtain ⟨rfl, rfl⟩ := trodVars_none hV
  simp only [List.append_nil] at hW0 hz hn
  have hlt : ∀ x ∈ pa, x.block < W.heap.size := fun x hx => by simpa using hW0.lt x hx
  have hr : ∀ (b : Nat) (sp : Nat → Bool) (hd : Bool), DataW.TrodAll enc P W' b sp hd f.resultTypes.toList ((Value.bool true).resultList f.resultTypes.size) (s.fn H (ds ++ [])).results [] := by
    intro b sp hd
    rw [List.append_nil, hfn, hres]
    exact trodAll_cons_mk (shut_bool htb _) trodAll_mk0
  have ha : ∀ sp : Nat → Bool, (∀ p ∈ pa, sp p.block = true) → DataW.TrodAll enc P W' 0 sp true f.params.toList args.toList (s.fn H (ds ++ [])).args pa := by
    intro sp hs
    rw [List.append_nil, hfn]
    exact trodAll_stays hl hx hp hA hlt hs
  have hv : ∀ sp : Nat → Bool, DataW.TrodVars enc P W' sp s.vars (s.fn H (ds ++ [])).vars [] := by
    intro sp
    rw [List.append_nil, hfn, hvars]
    rfl
  refine ⟨ds, [], pa, [], pa, [], hW0, hr _ _ _, ha _ (fun p hp => by simpa using hlt p hp), hv _, World.keptBut_mono (fun p hp => ⟨hp, .inr (.inl hp)⟩) (hx.frame _), fun _ => ?_⟩
  refine ⟨ok_one hres rfl (okWide_bool_mk htb _), _, _, ([] ++ pa) ++ [], ⟨[] ++ pa, [], trodAll_append (ha _ (fun _ _ => rfl)) (hr _ _ _), hv _, rfl, ?_, ?_⟩, ?_⟩
  · intro b off hp
    have hp' : MemPlace.cell b off ∈ pa := by simpa using hp
    rw [hx.frozen (hlt _ hp')]
    exact hz b off hp'
  · intro ha'
    have := hn ha'
    simpa using this
  · intro p hp _
    simpa using hp

/-- A law's call, as the engine shows it. -/
theorem law_calls {f : FuncId} {fn : Func} {s : ChangeSpec} {apart fresh handsOn again : Bool} {W : World} {args : Array Value} {ds gs : List (DataW H)} {before : List MemPlace} {tb : TypeId} (hW : DataW.Whole enc P fn.params.toList s.vars apart W args.toList ds gs before) (hvars : s.vars = [])
    (hfn : s.fn H ds = { results := [.lit (.bool true)], args := ds }) (hres : fn.resultTypes = #[tb]) (htb : P.underlying tb = some .bool) (hl : laidOutB P = true) (hp : fn.params.toList.all (fun t => P.readableRec t && decide (t < P.types.size)) = true)
    (h : Calls P f args W fun e W' => e = .returned (.bool true) ∧ Below W.heap.size W W') :
    Calls P f args W fun e W' => ∃ v, e = .returned v ∧ s.post enc P fn apart fresh handsOn again W args v W' :=
  h.mono fun e W' ⟨he, hx⟩ => ⟨_, he, post_law hW hvars hfn hres htb hl hp hx⟩

/-- A slice of numbers that came in. -/
theorem ints_in {W : World} {base b0 : Nat} {t e : TypeId} {k : IntKind} {v : Value} {d : DataW H} {p : List MemPlace} (ht : P.underlying t = some (.slice e)) (he : P.underlying e = some (.int k)) (hc : P.cellsOf e = 1) (hval : Value.okWide P W .any b0 t v)
    (h : DataW.Trod enc P W base (fun _ => true) true t v d p) : ∃ (ad : Option Addr) (c : Nat) (xs : List Int) (more : Nat), v = .slice ad xs.length c ∧ CellsAt W ad (xs.map (Value.int k)) ∧ (∀ x ∈ xs, (Lit.int k x).wf = true) ∧
      ((d = .nil ∧ xs = []) ∨ ∃ elems spare, d = .slice elems spare ∧ elems.length = xs.length) := by
  obtain ⟨fuel, hf⟩ := h
  rcases open_ints ht he hc hf with ⟨h1, h2⟩ | ⟨a, len, cap, zs, h1, h2, h3, h4, h5, h6, h7, h8⟩
  · refine ⟨none, 0, [], 0, ?_, CellsAt.nil _ _, by simp, .inl ⟨?_, rfl⟩⟩
    · cases v <;> simp_all [Value.cells]
      rename_i cs
      simp only [Value.okWide, ht] at hval
      simp [Cell.okWide, Cell.ok, ht] at hval
    · have := congrArg (fun x => x.1) h2; exact this
  · have hv : v = .slice (some a) len cap := by
      cases v <;> simp_all [Value.cells]
      rename_i cs
      simp only [Value.okWide, ht] at hval
      simp [Cell.okWide, Cell.ok, ht] at hval
    simp only [if_true] at h5
    have hlen : (zs.take len).length = len := by rw [List.length_take]; omega
    refine ⟨some a, cap, zs.take len, 0, by rw [hlen]; exact hv, ?_, fun x hx => h8 x (List.mem_of_mem_take hx), .inr ⟨lits k (zs.take len), lits k (zs.drop len), ?_, by simp [lits]⟩⟩
    · by_cases hz : zs.length = 0
      · left
        have : zs = [] := List.eq_nil_of_length_eq_zero hz
        simp [this]
      · have h0 := h7 0 (by omega)
        obtain ⟨b, o, sp⟩ := a
        have hsp : sp = none := by
          cases sp with
          | none => rfl
          | some q =>
            simp only [Addr.add, if_true, World.cell?] at h0
            split at h0 <;> simp at h0
        subst hsp
        refine .inr ⟨b, o, rfl, fun j u hj => ?_⟩
        rw [List.getElem?_map] at hj
        obtain ⟨x, hx, rfl⟩ := Option.map_eq_some_iff.1 hj
        rw [List.getElem?_take] at hx
        split at hx
        · have hj2 : j < zs.length := (List.getElem?_eq_some_iff.1 hx).1
          have := h7 j hj2
          rw [add_lit] at this
          rw [this, List.getD_eq_getElem?_getD, hx]
          rfl
        · cases hx
    · exact congrArg (fun x => x.1) h6
end

/-- One sized slice of numbers. -/
theorem reach_le {n b : Nat} (h : n * b ≤ reachBytes) : n * b ≤ 140737488351232 := h

end Go.Proofs.YthpjkgoahneldaaDoor.Lw
end

section
/-
  The bound of the second form, in use: how long a part of what came in can be.
-/
namespace Go.Proofs.YthpjkgoahneldaaDoor.Bulk
open Go

theorem one_le {H : Type} (d : DataW H) : 1 ≤ Rows.uptoBulk d := by
  cases d with
  | lit l => cases l <;> simp [Rows.uptoBulk]
  | _ => simp only [Rows.uptoBulk]; omega

theorem part_le {H : Type} {d : DataW H} {l : List (DataW H)} (h : d ∈ l) : Rows.uptoBulk d ≤ Rows.uptoBulkAll l := by
  induction l with
  | nil => cases h
  | cons x r ih =>
    simp only [Rows.uptoBulkAll]
    rcases List.mem_cons.1 h with rfl | h
    · omega
    · have := ih h; omega

theorem length_le {H : Type} (l : List (DataW H)) : l.length ≤ Rows.uptoBulkAll l := by
  induction l with
  | nil => simp
  | cons x r ih => have := one_le x; simp only [Rows.uptoBulkAll, List.length_cons]; omega

theorem small {H : Type} {l : List (DataW H)} (hk : Rows.uptoSmall H l = true) : Rows.uptoBulkAll l ≤ 1048576 := of_decide_eq_true hk

theorem slice {H : Type} {l : List (DataW H)} {elems spare : List (DataW H)} (hk : Rows.uptoSmall H l = true) (h : DataW.slice elems spare ∈ l) : elems.length ≤ 1048576 := by
  have h1 := small hk
  have h2 := part_le h
  have h3 := length_le elems
  simp only [Rows.uptoBulk] at h2
  omega

theorem string {H : Type} {l : List (DataW H)} {bytes : List UInt8} (hk : Rows.uptoSmall H l = true) (h : DataW.lit (.string bytes) ∈ l) : bytes.length ≤ 1048576 := by
  have h1 := small hk
  have h2 := part_le h
  simp only [Rows.uptoBulk] at h2
  omega

end Go.Proofs.YthpjkgoahneldaaDoor.Bulk
end

section
/-
  The library's two decoding tables: what a row lists of them is what the walks ask; a world in which they lie.
-/
namespace Go.Proofs.YthpjkgoahneldaaDoor
open Go Go.Shelf Go.RowKit Go.Lib

def u8laid : List (String × DataW Unit) := [("unicode/utf8.acceptRanges", Rows.laid_unicode_utf8_acceptRanges), ("unicode/utf8.first", Rows.laid_unicode_utf8_first)]
theorem first_is : Rows.laid_unicode_utf8_first = Lib.firstData := by kernel_rfl
theorem accept_is : (Rows.laid_unicode_utf8_acceptRanges : DataW Unit) = Lib.acceptData := by kernel_rfl

theorem u8_of {W : World} (hL : laidMet Tryd.prog u8laid W) : U8 W := by
  have h3 := Lib.laidMet.reads hL (n := "unicode/utf8.first") (d := Lib.firstData) (by rw [← first_is]; exact .tail _ (.head _))
  have h4 := Lib.laidMet.reads hL (n := "unicode/utf8.acceptRanges") (d := Lib.acceptData) (by rw [← accept_is]; exact .head _)
  exact utf8Tabs_of_reads Tryd.lays260 ⟨by kernel_rfl, by kernel_rfl, by kernel_rfl, by kernel_rfl, by kernel_rfl, by kernel_rfl, by kernel_rfl⟩ h3 h4

/-- The settled world, the two variables holding what their initialisers lay. -/
noncomputable def laidWorld (os : Os) : World :=
  let w0 := World.holding Tryd.prog os ⟨#[], #[], []⟩
  let put (h : Array Obj) (g : Nat) (cs : Array Value) : Array Obj := h.modify g fun
    | .cells _ t frozen => .cells cs t frozen
    | o => o
  let h1 := put w0.heap 0 (Lib.firstTab.map fun z => Value.int .u8 z).toArray
  let h2 := put h1 1 ((List.range 16).flatMap fun i => [Value.int .u8 (Lib.accLo i), Value.int .u8 (Lib.accHi i)]).toArray
  { w0 with heap := h2 }
theorem laid_met (os : Os) (args : Array Value) : laidMet Tryd.prog u8laid ((laidWorld os).forCall (fun _ _ => 0) ⟨#[], args, []⟩).memory :=
  (LaidIn.of_run (l := u8laid) [1, 0] 8 (by kernel_rfl) (by kernel_rfl) (by kernel_rfl) (by kernel_rfl)).met

end Go.Proofs.YthpjkgoahneldaaDoor
end

section
/-
  Five laid variables: the decoding tables and a table of the bit functions; a world in which they lie; a look that came in.
-/
namespace Go.Proofs.YthpjkgoahneldaaDoor
open Go Go.Shelf Go.RowKit Go.Lib

def shlaid : List (String × DataW Unit) := [("math/bits.deBruijn32tab", Rows.laid_math_bits_deBruijn32tab), ("math/bits.deBruijn64tab", Rows.laid_math_bits_deBruijn64tab), ("internal/strconv.uint64pow10", Rows.laid_internal_strconv_uint64pow10), ("unicode/utf8.acceptRanges", Rows.laid_unicode_utf8_acceptRanges), ("unicode/utf8.first", Rows.laid_unicode_utf8_first)]
set_option maxRecDepth 100000 in
theorem db_of {W : World} (h : VarReads Tryd.prog W "math/bits.deBruijn64tab" Rows.laid_math_bits_deBruijn64tab) : DB W := by
  obtain ⟨g, t, cs, fuel, p, hg, hty, hvar, hd⟩ := h
  obtain rfl := Option.some.inj ((show Tryd.prog.globalNamed "math/bits.deBruijn64tab" = some 5 by kernel_rfl).symm.trans hg)
  obtain rfl := Option.some.inj ((show (Tryd.prog.globals[5]?).map (·.type) = some 162 by kernel_rfl).symm.trans hty)
  obtain ⟨fuel', d, q, hdi, he⟩ := array_elem (n := 64) (e := 5) (by kernel_rfl) hd 15 (by decide)
  obtain ⟨z, hz, hx, _⟩ := DataW.trod_int (k := .u8) (by kernel_rfl) he
  have hd4 : d = .lit (.int .u8 4) := by
    have : (some d : Option (DataW Unit)) = some (.lit (.int .u8 4)) := hdi.symm.trans (by kernel_rfl)
    exact Option.some.inj this
  have hz4 : z = 4 := by
    have := congrArg (fun x => x.1) hx
    rw [hd4] at this
    injection this with h1
    injection h1 with _ h2
    exact h2.symm
  subst hz4
  show W.cell? _ = _
  rw [World.var?_cell hg hvar 15, ← Array.getElem?_toList]
  have := congrArg (·[0]?) hz
  rw [show Tryd.prog.cellsOf 5 = 1 from by kernel_rfl] at this
  simpa [List.getElem?_take, List.getElem?_drop] using this
theorem ud_of {W : World} (hL : laidMet Tryd.prog shlaid W) : U8 W ∧ DB W := by
  have h3 := Lib.laidMet.reads hL (n := "unicode/utf8.first") (d := Lib.firstData) (by rw [← first_is]; exact .tail _ (.tail _ (.tail _ (.tail _ (.head _)))))
  have h4 := Lib.laidMet.reads hL (n := "unicode/utf8.acceptRanges") (d := Lib.acceptData) (by rw [← accept_is]; exact .tail _ (.tail _ (.tail _ (.head _))))
  have h5 := Lib.laidMet.reads hL (n := "math/bits.deBruijn64tab") (d := Rows.laid_math_bits_deBruijn64tab) (.tail _ (.head _))
  exact ⟨utf8Tabs_of_reads Tryd.lays260 ⟨by kernel_rfl, by kernel_rfl, by kernel_rfl, by kernel_rfl, by kernel_rfl, by kernel_rfl, by kernel_rfl⟩ h3 h4, db_of h5⟩

/-- The cells of a flat array. -/
def flatV : DataW Unit → List Value
  | .agg l => l.filterMap fun
    | .lit (.int k n) => some (.int k n)
    | _ => none
  | _ => []
noncomputable def shWorld (os : Os) : World :=
  let w0 := laidWorld os
  let put (h : Array Obj) (g : Nat) (cs : Array Value) : Array Obj := h.modify g fun
    | .cells _ t frozen => .cells cs t frozen
    | o => o
  let h1 := put w0.heap 4 (flatV Rows.laid_math_bits_deBruijn32tab).toArray
  let h2 := put h1 5 (flatV Rows.laid_math_bits_deBruijn64tab).toArray
  let h3 := put h2 3 (flatV Rows.laid_internal_strconv_uint64pow10).toArray
  { w0 with heap := h3 }
theorem sh_met (os : Os) (args : Array Value) : laidMet Tryd.prog shlaid ((shWorld os).forCall (fun _ _ => 0) ⟨#[], args, []⟩).memory :=
  (LaidIn.of_run (l := shlaid) [4, 5, 3, 1, 0] 8 (by kernel_rfl) (by kernel_rfl) (by kernel_rfl) (by kernel_rfl)).met

/-- A look that came in. -/
def isStruct : Option TypeDesc → Bool
  | some (.struct _) => true
  | _ => false
theorem look_in {P : Program} {W : World} {r : Reach} {base : Nat} {t ti tb t8 : TypeId} {v : Value} (ht : isStruct (P.underlying t) = true) (hc : P.cellTypes P.depth t = some [ti, tb, t8, tb, tb]) (hn : P.cellsOf t = 5)
    (hi : P.underlying ti = some (.int .i64)) (hb : P.underlying tb = some .bool) (h8 : P.underlying t8 = some (.int .i8)) (hv : Value.okWide P W r base t v) : ∃ l : Lk, v = lkV l := by
  obtain ⟨fs, ht⟩ : ∃ fs, P.underlying t = some (.struct fs) := by
    unfold isStruct at ht
    split at ht
    · rename_i fs h; exact ⟨fs, h⟩
    · cases ht
  unfold Value.okWide at hv
  rw [ht] at hv
  obtain ⟨cs, rfl, hsz, ts, hts, _, hall⟩ := hv
  rw [hc] at hts
  cases hts
  rw [hn] at hsz
  have ok_i : ∀ {k : IntKind} {u : TypeId} {x : Value}, P.underlying u = some (.int k) → Cell.okWide P W r base u x → ∃ n, x = .int k n := by
    intro k u x hu h
    unfold Cell.okWide at h
    rw [hu] at h
    simp only [Cell.ok, hu] at h
    cases x <;> simp_all
  have ok_b : ∀ {u : TypeId} {x : Value}, P.underlying u = some .bool → Cell.okWide P W r base u x → ∃ n, x = .bool n := by
    intro u x hu h
    unfold Cell.okWide at h
    rw [hu] at h
    simp only [Cell.ok, hu] at h
    cases x <;> simp_all
  have at' : ∀ (j : Nat) (hj : j < cs.size) (u : TypeId), [ti, tb, t8, tb, tb][j % 5]? = some u → Cell.okWide P W r base u cs[j] := by
    intro j hj u hu
    obtain ⟨u', h1, h2⟩ := hall j cs[j] (Array.getElem?_eq_getElem hj)
    have h1 : [ti, tb, t8, tb, tb][j % 5]? = some u' := h1
    rw [hu] at h1
    cases h1
    exact h2
  obtain ⟨a, ha⟩ := ok_i hi (at' 0 (by omega) ti rfl)
  obtain ⟨b, hb1⟩ := ok_b hb (at' 1 (by omega) tb rfl)
  obtain ⟨c, hc2⟩ := ok_i h8 (at' 2 (by omega) t8 rfl)
  obtain ⟨d, hd3⟩ := ok_b hb (at' 3 (by omega) tb rfl)
  obtain ⟨e, he4⟩ := ok_b hb (at' 4 (by omega) tb rfl)
  refine ⟨⟨a, b, c, d, e⟩, ?_⟩
  unfold lkV
  congr 1
  apply Array.ext
  · rw [hsz]; rfl
  · intro i h1 h2
    have : i = 0 ∨ i = 1 ∨ i = 2 ∨ i = 3 ∨ i = 4 := by omega
    rcases this with rfl | rfl | rfl | rfl | rfl
    · exact ha
    · exact hb1
    · exact hc2
    · exact hd3
    · exact he4

end Go.Proofs.YthpjkgoahneldaaDoor
end
