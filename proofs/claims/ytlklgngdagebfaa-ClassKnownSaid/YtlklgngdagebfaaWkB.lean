/-
  Chapter 2: brackets, mirrors, stretches.
-/
import Derived.Test.YtlklgngdagebfaaVgB
import Derived.Test.YtlklgngdagebfaaWkA
import Derived.Test.YtlklgngdagebfaaGi
set_option linter.unusedVariables false
set_option linter.unusedSimpArgs false
namespace Go.Proofs.Ytlklgngdagebfaa
open Go Go.RowKit Vc Tb

theorem elem32 : ElemOk Try.prog 32 21 1 4 := elemOk_mk (.int .i32 0) (by kernel_rfl) (by kernel_rfl) rfl
theorem elemSp : ElemOk Try.prog 34 38 2 8 := elemOk_mk (.agg #[.int .i32 0, .int .i32 0]) (by kernel_rfl) (by kernel_rfl) rfl

theorem wid_small {r u t : Int} (h : FindOk widT (knownF r) u t) : 0 ≤ u ∧ u ≤ 3 := by
  obtain ⟨j, h1, _, rfl, _⟩ := h
  have h2 : widT.all (fun p => decide (0 ≤ p.2) && decide (p.2 ≤ 3)) = true := by decide +kernel
  have h3 := List.all_eq_true.1 h2 widT[j] (List.getElem_mem h1)
  simp only [Bool.and_eq_true, decide_eq_true_eq] at h3
  rw [List.getD_eq_getElem?_getD, List.getElem?_eq_getElem h1]
  exact h3
theorem rwide_ok : (sWide (fun w w' => w' = w)).Ok Try.prog 16 := by
  refine rwide_vc ⟨rwid_ok, trivial⟩ ?_
  rintro ⟨r, b⟩ w _
  refine ⟨r, rfl, trivial, ?_⟩
  rintro x w' ⟨rfl, rfl⟩
  have hd : widR r = 0 ∨ widR r = 1 ∨ widR r = 2 ∨ widR r = 3 := by
    have h2 : (widL.all (fun p => decide (p.2 = 0 ∨ p.2 = 1 ∨ p.2 = 2 ∨ p.2 = 3))) = true := by decide +kernel
    have : ∀ (l : List (List RC × Int)) (q : Int), l.all (fun p => decide (p.2 = 0 ∨ p.2 = 1 ∨ p.2 = 2 ∨ p.2 = 3)) = true → lookC l 1 q = 0 ∨ lookC l 1 q = 1 ∨ lookC l 1 q = 2 ∨ lookC l 1 q = 3 := by
      intro l q hl
      induction l with
      | nil => simp [lookC]
      | cons p l ih =>
        obtain ⟨c, v⟩ := p
        simp only [List.all_cons, Bool.and_eq_true, decide_eq_true_eq] at hl
        simp only [lookC]
        split
        · exact hl.1
        · exact ih hl.2
    exact this widL (knownF r) h2
  refine bcase_mk (fun h => ?_) (fun h => ⟨_, rfl, ?_, rfl⟩)
  · have h3 : widR r = 3 := by simpa using h
    refine bcase_mk (fun hb => ⟨_, rfl, ?_, rfl⟩) (fun hb => ⟨_, rfl, ?_, rfl⟩)
    · have hb : b = true := hb
      show _ = wideR r b
      unfold wideR; rw [h3, hb]; rfl
    · have hb : b = false := hb
      show _ = wideR r b
      unfold wideR; rw [h3, hb]; rfl
  · have h3 : widR r ≠ 3 := by simpa using h
    show _ = wideR r b
    unfold wideR; rw [if_pos (by omega)]
theorem cwide_ok : (sWide (fun w w' => Ext w w')).Ok Try.prog 15 := by
  refine cwide_vc ⟨wids_ok, trivial⟩ ?_
  rintro ⟨r, b⟩ w _
  refine ⟨r, rfl, trivial, ?_⟩
  rintro ⟨u, t⟩ w' ⟨h1, h2⟩
  have hs := wid_small h1
  have hv : u = widR r := h1.val wid_agree
  dsimp only at hs ⊢
  refine bcase_mk (fun h => ?_) (fun h => ?_)
  · have h : u < 3 := by simpa using h
    exact ⟨inr_i64 (by omega) (by omega), _, rfl, by show _ = wideR r b; unfold wideR; rw [← hv, if_pos h], h2⟩
  · have h : ¬ u < 3 := by simpa using h
    refine bcase_mk (fun hb => ⟨_, rfl, ?_, h2⟩) (fun hb => ⟨_, rfl, ?_, h2⟩)
    · have hb : b = true := hb
      show _ = wideR r b
      unfold wideR; rw [← hv, if_neg h, hb]; rfl
    · have hb : b = false := hb
      show _ = wideR r b
      unfold wideR; rw [← hv, if_neg h, hb]; rfl

/-! ### Brackets and mirrors -/

theorem get_of {a b : Array Value} (h : a = b) {k : Nat} {v : Value} (hv : b[k]? = some v) : a[k]? = some v := by rw [h]; exact hv
theorem new_of {w w1 : World} {a c : Array Value} {e : TypeId} {b : Nat} (h : New w (.cells a e) b w1) (hc : a = c) : New w (.cells c e) b w1 := by rw [← hc]; exact h
theorem list_at {l : List Int} {k : Nat} (hk : k < l.length) : ((l.map (Value.int .i32)).toArray)[k]? = some (.int .i32 (l.getD k 0)) := by
  rw [List.getElem?_toArray, List.getElem?_map, List.getD_eq_getElem?_getD, List.getElem?_eq_getElem hk]; rfl
theorem xor_one : ∀ k : Fin 30, IntKind.i64.wrap ((BitVec.ofInt IntKind.i64.bits ((k.val : Nat) : Int) ^^^ BitVec.ofInt IntKind.i64.bits 1).toNat : Int) = ((k.val ^^^ 1 : Nat) : Int) ∧ (k.val % 2 = 0 → k.val ^^^ 1 = k.val + 1) ∧ (k.val % 2 = 1 → (k.val ^^^ 1) + 1 = k.val) := by decide +kernel
theorem bra_far : ∀ k : Fin 30, braL.getD k.val 0 + (if k.val % 2 = 0 then (if k.val < 6 ∧ k.val > 1 ∨ braL.getD k.val 0 ≥ 65339 then 2 else 1) else (if k.val < 6 ∧ k.val > 1 ∨ braL.getD k.val 0 ≥ 65339 then -2 else -1)) = braL.getD (k.val ^^^ 1) 0 := by decide +kernel
theorem bra_bd : ∀ k : Fin 30, 0 ≤ braL.getD k.val 0 ∧ braL.getD k.val 0 ≤ 65373 := by decide +kernel
theorem pairF_some {r : Int} {k : Nat} (hk : k < 30) (h : braL.getD k 0 = r) (hn : ∀ j, j < k → braL.getD j 0 ≠ r) : pairF r = (braL.getD (k ^^^ 1) 0, k % 2 == 0, true) := by
  unfold pairF; rw [idxOf_some (l := braL) hk h hn]
theorem pairF_none {r : Int} (hn : ∀ j, j < 30 → braL.getD j 0 ≠ r) : pairF r = (0, false, false) := by
  unfold pairF; rw [idxOf_none (l := braL) hn]
theorem mod_beq (k : Nat) : ((k : Int) % 2 == 0) = (k % 2 == 0) := by
  have : ((k : Int) % 2 = 0) ↔ (k % 2 = 0) := by omega
  by_cases h : k % 2 = 0
  · rw [h]; simp [this.2 h]
  · have h1 : (k % 2 == 0) = false := by simpa using h
    rw [h1]; simp; omega

set_option maxRecDepth 20000 in
theorem pair_ok : sPair.Ok Try.prog 24 := by
  refine pair_vc trivial ?_
  rintro (r : Int) w _
  refine ⟨⟨0, rfl, rfl, Nat.zero_le _, fun j hj => by omega⟩, ?_⟩
  rintro _ k w1 ⟨hw, hk, hn⟩
  replace hw := hw.symm
  subst hw
  refine bcase_mk (fun h => ?_) (fun h => ?_)
  · have hk : k < 30 := by simp only [decide_eq_true_eq] at h; omega
    refine ⟨k, rfl, hk, braL.getD k 0, get_of (by kernel_rfl : _ = (braL.map (Value.int .i32)).toArray) (list_at hk), ?_⟩
    refine bcase_mk (fun he => ?_) (fun he => ?_)
    · have he : braL.getD k 0 = r := by simpa using he
      have hp := pairF_some hk he hn
      have hf := bra_far ⟨k, hk⟩
      have hb := bra_bd ⟨k, hk⟩
      dsimp only at hf hb
      rw [he] at hf hb
      have hm := mod_beq k
      have hfar : ∀ (c : Bool), c = (bif decide ((k : Int) < 6) then decide ((k : Int) > 1) || decide (r ≥ 65339) else decide (r ≥ 65339)) → (c = true ↔ (k < 6 ∧ k > 1 ∨ r ≥ 65339)) := by
        intro c hc
        subst hc
        by_cases h6 : k < 6
        · have : (k : Int) < 6 := by omega
          simp only [this, decide_true, cond_true, Bool.or_eq_true, decide_eq_true_eq]
          omega
        · have : ¬ (k : Int) < 6 := by omega
          simp only [this, decide_false, cond_false, decide_eq_true_eq]
          omega
      refine bcase_mk (fun hc => ?_) (fun hc => ?_)
      · have hc := (hfar _ rfl).1 hc
        rw [if_pos hc, if_pos hc] at hf
        refine ⟨by omega, by omega, bcase_mk (fun ho => ?_) (fun ho => ?_)⟩
        · have ho : k % 2 ≠ 0 := by simp only [bne_iff_ne, ne_eq] at ho; omega
          rw [if_neg ho] at hf
          have e : r + IntKind.i32.wrap (0 - 2) = braL.getD (k ^^^ 1) 0 := hf
          rw [e, hm]
          exact ⟨inr_i32 (by omega) (by omega), by omega, by omega, _, rfl, hp.symm, Ext.refl _⟩
        · have ho : k % 2 = 0 := by simp only [bne_eq_false_iff_eq] at ho; omega
          rw [if_pos ho] at hf
          rw [hf, hm]
          exact ⟨inr_i32 (by omega) (by omega), by omega, by omega, _, rfl, hp.symm, Ext.refl _⟩
      · have hc : ¬ (k < 6 ∧ k > 1 ∨ r ≥ 65339) := fun h => by rw [(hfar _ rfl).2 h] at hc; cases hc
        rw [if_neg hc, if_neg hc] at hf
        refine ⟨by omega, by omega, bcase_mk (fun ho => ?_) (fun ho => ?_)⟩
        · have ho : k % 2 ≠ 0 := by simp only [bne_iff_ne, ne_eq] at ho; omega
          rw [if_neg ho] at hf
          have e : r + IntKind.i32.wrap (0 - 1) = braL.getD (k ^^^ 1) 0 := hf
          rw [e, hm]
          exact ⟨inr_i32 (by omega) (by omega), by omega, by omega, _, rfl, hp.symm, Ext.refl _⟩
        · have ho : k % 2 = 0 := by simp only [bne_eq_false_iff_eq] at ho; omega
          rw [if_pos ho] at hf
          rw [hf, hm]
          exact ⟨inr_i32 (by omega) (by omega), by omega, by omega, _, rfl, hp.symm, Ext.refl _⟩
    · have he : braL.getD k 0 ≠ r := by simpa using he
      refine ⟨inr_i64 (by omega) (by omega), k + 1, by simp, ⟨rfl, hk, fun j hj => ?_⟩, by omega⟩
      by_cases hjk : j = k
      · subst hjk; exact he
      · exact hn j (by omega)
  · have hk : k = 30 := by simp only [decide_eq_false_iff_not] at h; omega
    subst hk
    exact ⟨_, rfl, (pairF_none hn).symm, Ext.refl _⟩

set_option maxRecDepth 20000 in
theorem bras_ok : (sLit braL).Ok Try.prog 40 := by
  refine bras_vc trivial ?_
  rintro _ w _ b w1 hn
  refine ⟨(some ⟨b, 0, none⟩, braL.length), by kernel_rfl, ?_⟩
  have := Made.box (n := braL.length) (s := 1) (cs := (braL.map (Value.int .i32)).toArray) (e := 21) (w := w) (w1 := w1) (b := b) (w0 := w) ?_ (Ext.refl w) (by simp) (by decide +kernel)
  · simpa using this
  · exact new_of hn (by kernel_rfl)
set_option maxRecDepth 20000 in
theorem mirs_ok : (sLit mirL).Ok Try.prog 42 := by
  refine mirs_vc trivial ?_
  rintro _ w _ b w1 hn
  refine ⟨(some ⟨b, 0, none⟩, mirL.length), by kernel_rfl, ?_⟩
  have := Made.box (n := mirL.length) (s := 1) (cs := (mirL.map (Value.int .i32)).toArray) (e := 21) (w := w) (w1 := w1) (b := b) (w0 := w) ?_ (Ext.refl w) (by simp) (by decide +kernel)
  · simpa using this
  · exact new_of hn (by kernel_rfl)
set_option maxRecDepth 20000 in
theorem bords_ok : (sLit bordL).Ok Try.prog 43 := by
  refine bords_vc trivial ?_
  rintro _ w _ b w1 hn
  refine ⟨(some ⟨b, 0, none⟩, bordL.length), by kernel_rfl, ?_⟩
  have := Made.box (n := bordL.length) (s := 1) (cs := (bordL.map (Value.int .i32)).toArray) (e := 21) (w := w) (w1 := w1) (b := b) (w0 := w) ?_ (Ext.refl w) (by simp) (by decide +kernel)
  · simpa using this
  · exact new_of hn (by kernel_rfl)

end Go.Proofs.Ytlklgngdagebfaa
