/-
  Texts joined by program: WkBa, WkBc, WkBb, WkBd, WkBe, Lw.
-/
import Derived.Test.YthpjkgoahneldaaDoorJa08
import Derived.Test.YthpjkgoahneldaaDoorJa11
import Derived.Test.YthpjkgoahneldaaDoorJa07
import Derived.Test.YthpjkgoahneldaaDoorRows
import Derived.Test.YthpjkgoahneldaaDoorJa03
import Derived.WalkKit
import Derived.ProofKit
import Derived.OpenShut
import Derived.JoinedCond
import Derived.SizedLaws
import Derived.Carry
set_option linter.unusedVariables false
set_option linter.unusedSimpArgs false

section
/-
  Chapter 13: a cluster's class; the rules; what may be done behind each cluster.
-/
namespace Go.Proofs.YthpjkgoahneldaaDoor
open Go Go.RowKit Vc Ut Tb Cl Orb

theorem kindC_of {c : ByteArray} {b : Bool} (h : b = true ↔ (brkR (nxR c) = 8 ∨ (nxR c = 65533 ∧ nxN c = 1))) : kindC c = if b = true then 0 else brkR (nxR c) := by
  unfold kindC
  by_cases hb : b = true
  · rw [if_pos hb, if_pos (h.1 hb)]
  · rw [if_neg hb, if_neg (fun h2 => hb (h.2 h2))]
theorem kindP_ok : sKindC.Ok Tryd.prog 60 := by
  refine kindP_vc ⟨next_ok, cbrk_ok, trivial⟩ ?_
  rintro s w ⟨hU, hs⟩
  refine ⟨s, rfl, ⟨hU, hs⟩, ?_⟩
  rintro ⟨r, n⟩ w1 ⟨hr, hn, e1⟩
  dsimp only at hr hn ⊢
  refine ⟨r, rfl, trivial, ?_⟩
  rintro x w2 ⟨hx, e2⟩
  subst hr hn hx
  refine bcase_mk (fun h => ⟨_, rfl, ?_, e1.trans e2⟩) (fun h => ⟨_, rfl, ?_, e1.trans e2⟩)
  all_goals
    unfold kindC
    simp at h
    simp
    omega
theorem kindL_ok : sKindC.Ok Tryd.prog 27 := by
  refine kindL_vc ⟨next_ok, cbrk_ok, trivial⟩ ?_
  rintro s w ⟨hU, hs⟩
  refine ⟨s, rfl, ⟨hU, hs⟩, ?_⟩
  rintro ⟨r, n⟩ w1 ⟨hr, hn, e1⟩
  dsimp only at hr hn ⊢
  refine ⟨r, rfl, trivial, ?_⟩
  rintro x w2 ⟨hx, e2⟩
  subst hr hn hx
  have hh : (bif ((nxN s : Int) == 1) then (nxR s == 65533 || brkR (nxR s) == 8) else brkR (nxR s) == 8) = true ↔ (brkR (nxR s) = 8 ∨ (nxR s = 65533 ∧ nxN s = 1)) := by
    cases hb : ((nxN s : Int) == 1)
    · have : nxN s ≠ 1 := by simp only [beq_eq_false_iff_ne] at hb; omega
      simp [this]
    · have : nxN s = 1 := by simp only [beq_iff_eq] at hb; omega
      simp [this, or_comm]
  refine bcase_mk (fun h => ⟨_, rfl, ?_, e1.trans e2⟩) (fun h => ⟨_, rfl, ?_, e1.trans e2⟩)
  · rw [kindC_of hh, if_pos h]
  · rw [kindC_of hh, if_neg (by rw [h]; decide)]
theorem kindR_ok : sKindC.Ok Tryd.prog 57 := by
  refine kindR_vc ⟨rnext_ok, rbrk_ok, trivial⟩ ?_
  rintro s w ⟨hU, hs⟩
  refine ⟨s, rfl, ⟨hU, hs⟩, ?_⟩
  rintro ⟨r, n⟩ w1 ⟨hr, hn, e1⟩
  dsimp only at hr hn ⊢
  subst hr hn
  refine bcase_mk (fun h => ⟨_, rfl, ?_, e1⟩) (fun h => ?_)
  · simp only [Bool.and_eq_true, beq_iff_eq] at h
    unfold kindC
    rw [if_pos (.inr ⟨h.2, by omega⟩)]
  refine ⟨_, rfl, trivial, ?_⟩
  rintro x w2 ⟨hx, hw⟩
  subst hx hw
  have hno : ¬ (nxR s = 65533 ∧ nxN s = 1) := by
    rintro ⟨h1, h2⟩
    rw [h1, h2] at h; simp at h
  refine bcase_mk (fun h => ⟨_, rfl, ?_, e1⟩) (fun h => ⟨_, rfl, ?_, e1⟩)
  · have h : brkR (nxR s) = 8 := by simpa using h
    unfold kindC; rw [if_pos (.inl h)]
  · have h : brkR (nxR s) ≠ 8 := by simpa using h
    unfold kindC; rw [if_neg (fun h2 => h2.elim h hno)]

theorem saysN_eq (a b s : Int) : saysN a b s = if ruleF 0 a b s = true then 2 else if ruleF 1 a b s = true then 0 else if ruleF 2 a b s = true then 1 else if ruleF 3 a b s = true then 0 else if ruleF 4 a b s = true then 0
    else if ruleF 5 a b s = true then 0 else if ruleF 6 a b s = true then 0 else if ruleF 7 a b s = true then 1 else if ruleF 8 a b s = true then 0 else if ruleF 9 a b s = true then 0 else if ruleF 10 a b s = true then 1 else if ruleF 11 a b s = true then 1 else 0 := rfl
set_option maxRecDepth 10000 in
theorem says_ok : sSays.Ok Tryd.prog 58 := by
  refine says_vc trivial ?_
  rintro ⟨a, b, s⟩ w _
  dsimp only
  rw [saysN_eq]
  simp only [ruleF]
  refine bcase_mk (fun h1 => ⟨_, rfl, by rw [h1]; rfl, trivial⟩) (fun h1 => ?_)
  refine bcase_mk (fun h2 => ⟨_, rfl, by rw [h1, h2]; rfl, trivial⟩) (fun h2 => ?_)
  refine bcase_mk (fun h3 => ⟨_, rfl, by rw [h1, h2, h3]; rfl, trivial⟩) (fun h3 => ?_)
  simp only [h1, h2, h3]
  generalize (a == 12) = p1, (b == 12) = p2, (a == 5) = p3, (b == 5) = p4, (a == 1) = p5, (a != 6) = p6', (b == 4) = p7, (b == 11) = p8, (s == 3) = p9, (b == 6) = p10, (a == 6) = p6, (b == 10) = p11, (a == 7) = p12, (b == 7) = p13
  clear h1 h2 h3
  refine bcase_mk (fun h4 => ⟨_, rfl, ?_, trivial⟩) (fun h4 => ?_)
  · revert h4; cases p1 <;> cases p2 <;> cases p3 <;> cases p4 <;> cases p5 <;> cases p6' <;> simp
  refine bcase_mk (fun h5 => ⟨_, rfl, ?_, trivial⟩) (fun h5 => ?_)
  · revert h4 h5; cases p1 <;> cases p2 <;> cases p3 <;> cases p4 <;> cases p5 <;> cases p6' <;> cases p7 <;> cases p8 <;> cases p9 <;> simp
  have e4 : (p1 || (p2 || p3)) = false := by revert h4; cases p1 <;> cases p2 <;> cases p3 <;> simp
  have e5 : (p4 && (!p5 && p6')) = false := by revert h4; cases p1 <;> cases p2 <;> cases p3 <;> cases p4 <;> cases p5 <;> cases p6' <;> simp
  have e6 : (p7 || p9) = false := by revert h5; cases p7 <;> cases p8 <;> cases p9 <;> cases p5 <;> simp
  have e7 : (p8 && !p5) = false := by revert h5; cases p7 <;> cases p8 <;> cases p9 <;> cases p5 <;> simp
  simp only [e4, e5, e6, e7]
  refine bcase_mk (fun h6 => ⟨_, rfl, by rw [h6]; rfl, trivial⟩) (fun h6 => ?_)
  refine bcase_mk (fun h7 => ⟨_, rfl, by rw [h6, h7]; rfl, trivial⟩) (fun h7 => ?_)
  refine bcase_mk (fun h8 => ⟨_, rfl, by rw [h6, h7, h8]; rfl, trivial⟩) (fun h8 => ?_)
  simp only [h6, h7, h8]
  refine bcase_mk (fun h9 => ⟨_, rfl, ?_, trivial⟩) (fun h9 => ⟨_, rfl, ?_, trivial⟩)
  · revert h9; cases p6 <;> cases p12 <;> cases p13 <;> simp
  · revert h9; cases p6 <;> cases p12 <;> cases p13 <;> simp

set_option maxHeartbeats 2000000 in
set_option maxRecDepth 10000 in
theorem rwhere_ok : (sSL .i8 25 whereL).Ok Tryd.prog 19 := by
  refine rwhere_vc ⟨rallP_ok, kindR_ok, says_ok, trivial⟩ ?_
  rintro s w ⟨hU, hs⟩
  have hncl := ncl_le s
  have hwl := where_len s
  refine ⟨s, rfl, ⟨hU, hs⟩, ?_⟩
  rintro ⟨la, ln, lc⟩ w1 ⟨hln, hml⟩
  dsimp only at hln hml ⊢
  subst hln
  rw [pcV_flat] at hml
  have e1 := hml.ext
  have hcl := hml.row.cells
  refine ⟨⟨(0, none, 0), rfl, rfl, rfl, Nat.zero_le _, Made.nil _ _ _⟩, ?_⟩
  rintro _ ⟨i, a, c⟩ w2 ⟨hi, hm⟩
  dsimp only at hi hm ⊢
  have e2 := e1.trans hm.ext
  have hcl2 := hcl.ext hm.ext
  have psz : ∀ {j : Nat}, (pcP s j).2.size ≤ 67108864 := fun {j} => by
    have := pc_sz (s := s) (i := j); have := bp_le s (j + 1); omega
  refine bcase_mk (fun h => ?_) (fun h => ?_)
  · have hlt : i < ncl s := by have := of_decide_eq_true h; omega
    refine ⟨i, rfl, hlt, pc_cell hcl2 hlt (j := 1) (by decide) rfl fun _ _ hb => ⟨_, hb, _, rfl, ⟨hU.ext e2, psz⟩, ?_⟩⟩
    rintro x w3 ⟨hx, e23⟩
    have hx : x = kc s i := hx
    subst hx
    refine ⟨bcase_mk (fun h => ⟨i, ?_, rfl, Ext.refl _⟩) (fun h => ⟨i, ?_, rfl, Ext.refl _⟩), ?_⟩
    · have h : kc s i ≠ 1 := by simpa using h
      show _ = Value.int .i8 (if kc s i = 1 then sol s i else kc s i)
      rw [if_neg h]
    · have h : kc s i = 1 := by simpa using h
      show _ = Value.int .i8 (if kc s i = 1 then sol s i else kc s i)
      rw [if_pos h]
    rintro _ i' w4 ⟨hii, e34⟩
    have : i' = i := by omega
    subst this
    have e24 := e23.trans e34
    have hm4 := hm.later e24
    have step : ∀ {w5 w6 : World} {b : Nat} {v : Int}, Ext w4 w5 → v = whereI s i' → New w5 (.cells #[.int .i8 v] 25) b w6 → ∃ a' c' w7, AppRun Tryd.prog #[22, 22] 22 (.slice a i' c) (.slice (some ⟨b, 0, none⟩) 1 1) w6 a' (i' + 1) c' w7 ∧ KO w6 w7 ∧
        Made w1 w7 25 1 a' (i' + 1) (((whereL s).take (i' + 1)).map (Value.int .i8)) c' := by
      intro w5 w6 b v e45 hv hn
      obtain ⟨a', c', w7, hrun, hko, hm7, _⟩ := (hm4.later e45).pushN (P := Tryd.prog) (ty := 22) elemI8 (by decide) (m := 1) (news := [.int .i8 v]) hn rfl (by simp [Value.oneCell']) (by unfold maxLen; omega) (.inr (by omega))
      refine ⟨a', c', w7, hrun, hko, ?_⟩
      rw [take_snoc (f := Value.int .i8) (where_at hlt), ← hv]
      exact hm7
    refine ⟨inr_i64 (by omega) (by omega), bcase_mk (fun h => ?_) (fun h => ?_)⟩
    · have h1 : i' + 1 < ncl s := by have := of_decide_eq_true h; omega
      refine ⟨inr_i64 (by omega) (by omega), i' + 1, by simp, h1, pc_cell (hcl2.ext e24) h1 (j := 1) (by decide) rfl fun _ _ hb => ⟨_, hb, _, rfl, ⟨hU.ext (e2.trans e24), psz⟩, ?_⟩⟩
      rintro y w5 ⟨hy, e45⟩
      have hy : y = kc s (i' + 1) := hy
      subst hy
      refine ⟨(kc s i', kc s (i' + 1), sol s (i' + 1)), rfl, trivial, ?_⟩
      rintro v w6 ⟨hv, hw⟩
      subst hw
      intro b w7 hn
      obtain ⟨a', c', w8, hrun, hko, hm8⟩ := step e45 (by rw [hv]; unfold whereI; rw [if_pos h1]) hn
      exact ⟨a', c', w8, hrun, hko, inr_i64 (by omega) (by omega), (i' + 1, a', c'), by simp, rfl, rfl, ⟨hlt, hm8⟩, by dsimp only; omega⟩
    · have h1 : ¬ i' + 1 < ncl s := by have := of_decide_eq_false h; omega
      refine bcase_mk (fun h2 => ?_) (fun h2 => ?_)
      all_goals
        intro b w7 hn
        obtain ⟨a', c', w8, hrun, hko, hm8⟩ := step (Ext.refl _) (by unfold whereI; rw [if_neg h1]; first | rw [if_pos (by simpa using h2)] | rw [if_neg (by simpa using h2)]) hn
        exact ⟨a', c', w8, hrun, hko, inr_i64 (by omega) (by omega), (i' + 1, a', c'), by simp, rfl, rfl, ⟨hlt, hm8⟩, by dsimp only; omega⟩
  · have hie : i = ncl s := by have := of_decide_eq_false h; omega
    subst hie
    rw [List.take_of_length_le (by omega)] at hm
    exact ⟨(a, ncl s, c), rfl, hwl.symm, hm.earlier e1⟩

theorem cells_old {w : World} {b j : Nat} {cs : Array Value} {t : TypeId} (h : w.heap[b]? = some (.cells cs t)) (hj : j < cs.size) : (∃ old, w.cell? ⟨b, j, none⟩ = some old) ∧ w.frozen? ⟨b, j, none⟩ = false :=
  ⟨by rw [cell_of_heap h]; exact ⟨_, Array.getElem?_eq_getElem hj⟩, frozen_of_heap h _⟩

/-! ### The rules -/

theorem rule7_ok : (sRule 7).Ok Tryd.prog 61 := by
  refine rule7_vc trivial ?_
  rintro ⟨a, b, s⟩ w _ bx w1 hn
  exact ⟨_, hn.cell 0, _, rfl, rfl, hn.ext⟩
theorem rule0_ok : (sRule 0).Ok Tryd.prog 88 := by
  refine rule0_vc ⟨rule7_ok, trivial⟩ ?_
  rintro ⟨a, b, s⟩ w _ bx w1 hn
  exact ⟨_, hn.cell 0, _, rfl, rfl, hn.ext⟩
theorem rule8_ok : (sRule 8).Ok Tryd.prog 95 := by
  refine rule8_vc ⟨rule7_ok, trivial⟩ ?_
  rintro ⟨a, b, s⟩ w _ bx w1 hn
  exact ⟨_, hn.cell 1, _, rfl, rfl, hn.ext⟩
theorem rule10_ok : (sRule 10).Ok Tryd.prog 97 := by
  refine rule10_vc ⟨rule7_ok, trivial⟩ ?_
  rintro ⟨a, b, s⟩ w _ bx w1 hn
  exact ⟨_, hn.cell 0, _, rfl, rfl, hn.ext⟩
theorem rule2_ok : (sRule 2).Ok Tryd.prog 90 := by
  refine rule2_vc ⟨rule7_ok, trivial⟩ ?_
  rintro ⟨a, b, s⟩ w _ bx w1 hn
  exact ⟨_, hn.cell 2, _, rfl, rfl, hn.ext⟩
theorem rule1_ok : (sRule 1).Ok Tryd.prog 89 := by
  refine rule1_vc ⟨rule7_ok, trivial⟩ ?_
  rintro ⟨a, b, s⟩ w _ bx w1 hn
  refine ⟨_, hn.cell 1, bcase_mk (fun h => ⟨_, rfl, ?_, hn.ext⟩) (fun h => ⟨_, hn.cell 1, bcase_mk (fun h2 => ⟨_, rfl, ?_, hn.ext⟩) (fun h2 => ⟨_, hn.cell 1, _, rfl, ?_, hn.ext⟩)⟩)⟩
  · simp only [ruleF]; rw [h]; rfl
  · simp only [ruleF]; rw [h, h2]; rfl
  · simp only [ruleF]; rw [h, h2]; rfl
theorem rule3_ok : (sRule 3).Ok Tryd.prog 91 := by
  refine rule3_vc ⟨rule7_ok, trivial⟩ ?_
  rintro ⟨a, b, s⟩ w _ bx w1 hn
  refine ⟨_, hn.cell 0, bcase_mk (fun h => ⟨_, rfl, ?_, hn.ext⟩) (fun h => ⟨_, hn.cell 1, bcase_mk (fun h2 => ⟨_, rfl, ?_, hn.ext⟩) (fun h2 => ⟨_, hn.cell 0, _, rfl, ?_, hn.ext⟩)⟩)⟩
  · simp only [ruleF]; rw [h]; rfl
  · simp only [ruleF]; rw [h, h2]; rfl
  · simp only [ruleF]; rw [h, h2]; rfl
theorem rule5_ok : (sRule 5).Ok Tryd.prog 93 := by
  refine rule5_vc ⟨rule7_ok, trivial⟩ ?_
  rintro ⟨a, b, s⟩ w _ bx w1 hn
  refine ⟨_, hn.cell 1, bcase_mk (fun h => ⟨_, rfl, ?_, hn.ext⟩) (fun h => ⟨_, hn.cell 2, _, rfl, ?_, hn.ext⟩)⟩
  all_goals
    simp only [ruleF]
    simp_all
theorem rule11_ok : (sRule 11).Ok Tryd.prog 98 := by
  refine rule11_vc ⟨rule7_ok, trivial⟩ ?_
  rintro ⟨a, b, s⟩ w _ bx w1 hn
  refine ⟨_, hn.cell 0, bcase_mk (fun h => ⟨_, rfl, ?_, hn.ext⟩) (fun h => ⟨_, hn.cell 1, _, rfl, ?_, hn.ext⟩)⟩
  all_goals
    simp only [ruleF]
    simp_all
theorem rule9_ok : (sRule 9).Ok Tryd.prog 96 := by
  refine rule9_vc ⟨rule7_ok, trivial⟩ ?_
  rintro ⟨a, b, s⟩ w _ bx w1 hn
  refine ⟨_, hn.cell 0, bcase_mk (fun h => ⟨_, hn.cell 1, _, rfl, ?_, hn.ext⟩) (fun h => ⟨_, rfl, ?_, hn.ext⟩)⟩
  all_goals
    simp only [ruleF]
    simp_all
theorem rule6_ok : (sRule 6).Ok Tryd.prog 94 := by
  refine rule6_vc ⟨rule7_ok, trivial⟩ ?_
  rintro ⟨a, b, s⟩ w _ bx w1 hn
  refine ⟨_, hn.cell 1, bcase_mk (fun h => ⟨_, hn.cell 0, _, hn.cell 1, _, hn.cell 2, (a, b, s), rfl, trivial, ?_⟩) (fun h => ⟨_, rfl, ?_, hn.ext⟩)⟩
  · rintro x w2 ⟨hx, e⟩
    refine ⟨_, rfl, ?_, hn.ext.trans e⟩
    simp only [ruleF] at hx ⊢
    simp_all
  · simp only [ruleF]
    simp_all
theorem rule4_ok : (sRule 4).Ok Tryd.prog 92 := by
  refine rule4_vc ⟨rule7_ok, trivial⟩ ?_
  rintro ⟨a, b, s⟩ w _ bx w1 hn
  refine ⟨_, hn.cell 1, bcase_mk (fun h => ⟨_, hn.cell 0, _, hn.cell 1, _, hn.cell 2, (a, b, s), rfl, trivial, ?_⟩) (fun h => ⟨_, rfl, ?_, hn.ext⟩)⟩
  · rintro x w2 ⟨hx, e⟩
    refine bcase_mk (fun h2 => ⟨_, e.cell (hn.cell 0), _, rfl, ?_, hn.ext.trans e⟩) (fun h2 => ⟨_, rfl, ?_, hn.ext.trans e⟩)
    all_goals
      simp only [ruleF] at hx ⊢
      simp_all
  · simp only [ruleF]
    simp_all
theorem rules_ok : sRules.Ok Tryd.prog 59 := by
  refine rules_vc trivial ?_
  rintro _ w _ b w1 hn
  exact ⟨b, rfl, by have := hn.size; omega, hn.heap, hn.ext⟩

theorem dyn_of {k : Nat} {f : FuncId} (hs : (sRule k).Ok Tryd.prog f) (hc : CallsOf Tryd.prog f) (a b s : Int) (w : World) : DynB Tryd.prog f (#[.agg (pairV a b s)] ++ #[]) w (fun x w' => x = ruleF k a b s ∧ Ext w w') :=
  ⟨hc, (hs (a, b, s) w trivial).mono fun e w' ⟨x, he, hx, hko⟩ => ⟨x, he, hx, hko⟩⟩
theorem dyn_rule {k : Nat} (hk : k < 12) (a b s : Int) (w : World) : DynB Tryd.prog (ruleFn k) (#[.agg (pairV a b s)] ++ #[]) w (fun x w' => x = ruleF k a b s ∧ Ext w w') := by
  match k, hk with
  | 0, _ => exact dyn_of rule0_ok (enters_of Tryd.func88 (by kernel_rfl) rfl) a b s w
  | 1, _ => exact dyn_of rule1_ok (enters_of Tryd.func89 (by kernel_rfl) rfl) a b s w
  | 2, _ => exact dyn_of rule2_ok (enters_of Tryd.func90 (by kernel_rfl) rfl) a b s w
  | 3, _ => exact dyn_of rule3_ok (enters_of Tryd.func91 (by kernel_rfl) rfl) a b s w
  | 4, _ => exact dyn_of rule4_ok (enters_of Tryd.func92 (by kernel_rfl) rfl) a b s w
  | 5, _ => exact dyn_of rule5_ok (enters_of Tryd.func93 (by kernel_rfl) rfl) a b s w
  | 6, _ => exact dyn_of rule6_ok (enters_of Tryd.func94 (by kernel_rfl) rfl) a b s w
  | 7, _ => exact dyn_of rule7_ok (enters_of Tryd.func61 (by kernel_rfl) rfl) a b s w
  | 8, _ => exact dyn_of rule8_ok (enters_of Tryd.func95 (by kernel_rfl) rfl) a b s w
  | 9, _ => exact dyn_of rule9_ok (enters_of Tryd.func96 (by kernel_rfl) rfl) a b s w
  | 10, _ => exact dyn_of rule10_ok (enters_of Tryd.func97 (by kernel_rfl) rfl) a b s w
  | 11, _ => exact dyn_of rule11_ok (enters_of Tryd.func98 (by kernel_rfl) rfl) a b s w
theorem rules_at {w : World} {x k j : Nat} (h : w.heap[x]? = some (.cells rulesC.toArray 74)) (hk : k < 12) (hj : j < 2) : w.cell? ⟨x, 0 + k * 2 + j, none⟩ = (ruleC k)[j]? := by
  rw [Nat.zero_add, cell_of_heap h]
  have := flat_at (f := ruleC) (s := 2) (fun _ => rfl) (l := List.range 12) (k := k) (j := j) (List.getElem?_range hk) hj
  rw [List.getElem?_toArray]
  exact this
theorem dynMark_ok : dynMark.2.Ok Tryd.prog dynMark.1 := fun _ _ h => h.elim

end Go.Proofs.YthpjkgoahneldaaDoor
end

section
/-
  Chapter 13: what may be done behind each cluster: the program's way says what the document's says.
-/
namespace Go.Proofs.YthpjkgoahneldaaDoor
open Go Go.RowKit Vc Ut Tb Cl Orb

theorem sw_succ (s : ByteArray) {k : Nat} (hk : 0 < k) : (sw s (k + 1)).map (Value.int .i8) = (sw s k).map (Value.int .i8) ++ [.int .i8 (saysN (kc s (k - 1)) (kc s k) (sol s k))] := by
  obtain ⟨j, rfl⟩ : ∃ j, k = j + 1 := ⟨k - 1, by omega⟩
  unfold sw
  rw [Nat.add_sub_cancel, Nat.add_sub_cancel, List.range_succ, List.map_append, List.map_append]
  rfl
theorem sw_len (s : ByteArray) (k : Nat) : ((sw s k).map (Value.int .i8)).length = k - 1 := by simp [sw]
theorem sw_end {s : ByteArray} (h : 0 < ncl s) {v : Int} (hv : v = if kc s (ncl s - 1) = 2 then 2 else 0) : (sw s (ncl s)).map (Value.int .i8) ++ [.int .i8 v] = (whereL s).map (Value.int .i8) := by
  obtain ⟨n, hn⟩ : ∃ n, ncl s = n + 1 := ⟨ncl s - 1, by omega⟩
  unfold sw whereL
  rw [hn, List.range_succ, List.map_append, List.map_append, Nat.add_sub_cancel]
  congr 1
  · congr 1
    apply List.map_congr_left
    intro i hi
    have := List.mem_range.1 hi
    unfold whereI
    rw [if_pos (by omega)]
  · show _ = [Value.int .i8 (whereI s n)]
    unfold whereI
    rw [if_neg (by omega), hv, hn, Nat.add_sub_cancel]
theorem where_ndk {s : ByteArray} (h : ncl s = 0) : whereL s = [] := by unfold whereL; rw [h]; rfl

set_option maxHeartbeats 4000000 in
set_option maxRecDepth 20000 in
theorem where_ok : (sSL .i8 25 whereL).Ok Tryd.prog 20 := by
  refine where_vc ⟨dynMark_ok, rules_ok, call_ok, kindP_ok, rule7_ok, trivial⟩ ?_
  rintro s w ⟨hU, hs⟩
  have hncl := ncl_le s
  have hpl := pc_len s
  refine ⟨(), rfl, trivial, ?_⟩
  rintro x w1 ⟨hx0, hxr, e1⟩
  have hxr : w1.heap[x]? = some (.cells rulesC.toArray 74) := hxr
  intro b w2 hn2
  refine ⟨rfl, box_old hn2.heap, box_free hn2.heap, fun w3 hs3 => ?_⟩
  obtain ⟨_, _, hst2⟩ := new_box hn2
  obtain ⟨e13, hb3, hbsz, hw3z⟩ := hst2 hs3
  intro b1 w4 hn4 b2 w5 hn5 b3 w6 hn6
  refine ⟨rfl, box_old hn6.heap, box_free hn6.heap, fun w7 hs7 => ?_⟩
  obtain ⟨_, _, hst6⟩ := new_box hn6
  obtain ⟨e57, hf7, hfz, hw7z⟩ := hst6 hs7
  have z4 := hn4.size
  have z5 := hn5.size
  have z6 := hn6.size
  have z1 := e1.size
  have e37 : Ext w3 w7 := (hn4.ext.trans hn5.ext).trans e57
  have e07 : Ext w w7 := (e1.trans e13).trans e37
  have ho7 : w7.heap[b1]? = some (.cells #[.slice none 0 0] 22) := (hn5.ext.trans e57).heap hn4.heap
  have hp7 : w7.heap[b2]? = some (.cells (pairV 0 0 (-1)) 71) := e57.heap hn5.heap
  have hr7 := e37.heap hb3
  have hx7 := (e13.trans e37).heap hxr
  have hxlt := heap_lt hxr
  refine ⟨s, rfl, trivial, ?_⟩
  rintro xb w8 ⟨hxb, hxs, e78⟩
  have e08 := e07.trans e78
  have hU8 := hU.ext e08
  have z8 := e78.size
  have hxbl := heap_lt hxs
  dsimp only [ptrB]
  have hUlt := hU.lt
  have n12 : b1 ≠ b2 := by omega
  have n13 : b1 ≠ b3 := by omega
  have n23 : b2 ≠ b3 := by omega
  have n32 : b3 ≠ b2 := by omega
  have hCD : ∀ q, cC xb q → q < w8.heap.size ∧ ¬ (q = b1 ∨ q = b2 ∨ q = b3 ∨ blk (none : Option Addr) = some q) := by
    rintro q hq
    refine ⟨cC_lt hxbl hU8 q hq, ?_⟩
    rcases hq with rfl | rfl | rfl
    · rintro (h | h | h | h)
      · omega
      · omega
      · omega
      · cases h
    · rintro (h | h | h | h)
      · omega
      · omega
      · omega
      · cases h
    · rintro (h | h | h | h)
      · omega
      · omega
      · omega
      · cases h
  refine ⟨pcL s, cC xb, _, pc_iter hxs hU8 hs, ⟨?_, hCD⟩, ⟨none, 0, rfl, ⟨e78.heap ho7, Row.nil _ _ _⟩, e78.heap hp7, e78.heap hf7⟩, ?_, ?_, ?_, ?_, trivial⟩
  · rintro q (rfl | rfl | rfl | h)
    · omega
    · omega
    · omega
    · cases h
  · rintro k D W W' ⟨a, c, rfl, hJ⟩ hsz hq
    exact ⟨a, c, rfl, hJ.out.keep (fun q h => hJ.out.kept h (hq q · (.inr (h.elim .inl (fun h => .inr (.inr (.inr h))))))), hq b2 _ (.inr (.inr (.inl rfl))) hJ.pair (.inl rfl), hq b3 _ (.inr (.inr (.inr (.inl rfl)))) hJ.first (.inl rfl)⟩
  · rintro _ k D W W' h hsz hq
    exact h
  · rintro k p D W hp ⟨a0, c0, rfl, hJ⟩ hM
    have hkl : k < ncl s := by have := (List.getElem?_eq_some_iff.1 hp).1; omega
    rw [pc_get hkl] at hp
    simp only [Option.some.injEq] at hp
    subst hp
    have keepU : U8 W := hU8.fr hM.fr (fun h => (hCD _ (.inr (.inl rfl))).2 h) (fun h => (hCD _ (.inr (.inr rfl))).2 h)
    have psz : (pcP s k).2.size ≤ 67108864 := by
      have := pc_sz (s := s) (i := k); have := bp_le s (k + 1); omega
    refine ⟨_, rfl, ⟨keepU, psz⟩, ?_⟩
    rintro v w9 ⟨hv, e9⟩
    have hv : v = kc s k := hv
    subst hv
    have hP9 := e9.heap hJ.pair
    refine ⟨rfl, (cells_old hP9 (j := 1) (by simp [pairV])).1, (cells_old hP9 (j := 1) (by simp [pairV])).2, fun w10 hs10 => ?_⟩
    have hMp : w10.heap[b2]? = some (.cells (pairV (prevK s k) (kc s k) (sol s k)) 71) := hs10.heap hP9
    have hMf : w10.heap[b3]? = some (.cells #[.bool (decide (k = 0))] 4) := (hs10.other n32).trans (e9.heap hJ.first)
    have hSt0 := (Step.ext e9 hM.lt).trans (Step.stored hs10 (.inr (.inl rfl)) (fun q hq => Nat.lt_of_lt_of_le (hM.lt q hq) e9.size))
    have hO9 := hJ.out.ext e9
    have hO10 : Grow w10 b1 22 25 a0 c0 ((sw s k).map (Value.int .i8)) := hO9.keep (fun q hq => hs10.other (fun e => by
      rcases hq with hq | hq
      · exact n12 (hq.symm.trans e)
      · exact hO9.row.off hP9 (by decide) (by rw [hq]; exact congrArg some e)))
    refine ⟨_, box_cell hMf, bcase_mk (fun hk0 => ?_) (fun hk0 => ?_)⟩
    · have hk0 : 0 < k := by simp only [Bool.not_eq_true', decide_eq_false_iff_not] at hk0; omega
      have hlen := sw_len s k
      refine ⟨_, _, _, box_cell hO10.hb, fun b5 w11 hn11 => ?_⟩
      obtain ⟨a1, c1, w12, hrun, hko, hold, hfree, hpush⟩ := hO10.push (P := Tryd.prog) (ty := 22) elemI8 (by decide) (v := .int .i8 0) hn11 rfl (by rw [hlen]; unfold maxLen; omega) (by rw [hlen]; omega)
      refine ⟨a1, c1, w12, hrun, hko, rfl, hold, hfree, fun w13 hs13 => ?_⟩
      obtain ⟨hO13, hfr13, hnew13⟩ := hpush hs13
      have hq10 : ∀ {q : Nat} {o : Obj}, w10.heap[q]? = some o → q ≠ b1 → blk a0 ≠ some q → w13.heap[q]? = some o := fun hq h1 h2 => (hfr13.block _ (heap_lt hq) (by rintro (h | h); exact h1 h; exact h2 h)).trans hq
      have hMp13 := hq10 hMp n12.symm (hO10.row.off hMp (by decide))
      have hMf13 := hq10 hMf n13.symm (hO10.row.off hMf (by decide))
      have hrx : w10.heap[b]? = some (.cells #[.slice (some ⟨x, 0, none⟩) 12 12] 68) := by
        have h1 := e78.heap hr7
        have hb8 := heap_lt h1
        have h2 := (hM.old hb8 (by rintro (h | h | h | h); omega; omega; omega; cases h)).trans h1
        exact (hs10.other (by show b ≠ b2; omega)).trans (e9.heap h2)
      have hxx : w10.heap[x]? = some (.cells rulesC.toArray 74) := by
        have h1 := e78.heap hx7
        have hb8 := heap_lt h1
        have h2 := (hM.old hb8 (by rintro (h | h | h | h); omega; omega; omega; cases h)).trans h1
        exact (hs10.other (by show x ≠ b2; omega)).trans (e9.heap h2)
      have hrx13 := hq10 hrx (by omega) (hO10.row.off hrx (by decide))
      have hxx13 := hq10 hxx (by omega) (hO10.row.off hxx (by decide))
      have hSt13 : Step (fun q => q = b1 ∨ q = b2 ∨ q = b3 ∨ blk a0 = some q) W w13 (fun q => q = b1 ∨ q = b2 ∨ q = b3 ∨ blk a1 = some q) := by
        refine hSt0.trans ⟨hfr13.mono (fun q _ hq => hq.elim .inl (fun h => .inr (.inr (.inr h)))), fun q hq => ?_⟩
        have hlt13 : ∀ {q : Nat} {o : Obj}, w10.heap[q]? = some o → q < w13.heap.size := fun h => Nat.lt_of_lt_of_le (heap_lt h) hfr13.size
        rcases hq with rfl | rfl | rfl | hq
        · exact ⟨hlt13 hO10.hb, .inl (.inl rfl)⟩
        · exact ⟨hlt13 hMp, .inl (.inr (.inl rfl))⟩
        · exact ⟨hlt13 hMf, .inl (.inr (.inr (.inl rfl)))⟩
        · refine ⟨hO13.row.lt hq, ?_⟩
          rcases hnew13 q hq with h | h
          · exact .inl (.inr (.inr (.inr h)))
          · exact .inr h
      have hpv : prevK s k = kc s (k - 1) := if_neg (by omega)
      refine ⟨_, _, _, box_cell hrx13, ⟨0, rfl, Nat.zero_le _, Ext.refl _, _, _, _, hMp13, fun j hj => absurd hj (Nat.not_lt_zero j)⟩, ?_⟩
      rintro _ i w14 ⟨hi, e14, pa, pb, ps, hpp, hno⟩
      have hpq := hpp.symm.trans hMp13
      simp only [pairV, Option.some.injEq, Obj.cells.injEq, Array.mk.injEq, List.cons.injEq, Value.int.injEq, true_and, and_true] at hpq
      obtain ⟨rfl, rfl, rfl⟩ := hpq
      have hSt14 := hSt13.trans (Step.ext e14 (fun q hq => (hSt13.dom q hq).1))
      have hMp14 := e14.heap hMp13
      have hMf14 := e14.heap hMf13
      have hO14 := hO13.ext e14
      have hxx14 := e14.heap hxx13
      refine bcase_mk (fun h => ?_) (fun h => ?_)
      · have hi12 : i < 12 := by have := of_decide_eq_true h; omega
        refine ⟨i, rfl, hi12, ruleFn i, #[], rules_at hxx14 hi12 (j := 0) (by decide), ruleV i, rules_at hxx14 hi12 (j := 1) (by decide), fun b7 w15 hn15 => ?_⟩
        have hMp15 := hn15.ext.heap hMp14
        refine ⟨_, _, hn15.cell 0, _, cell_of_heap hMp15 0, _, cell_of_heap hMp15 1, _, cell_of_heap hMp15 2, (fun x w' => x = ruleF i (prevK s k) (kc s k) (sol s k) ∧ Ext w15 w'), ?_, ?_⟩
        · simp only [List.map_toArray, List.map_cons, List.map_nil]
          exact dyn_rule hi12 _ _ _ _
        rintro hit w16 ⟨hhit, e16⟩
        have e46 := hn15.ext.trans e16
        have hSt16 := hSt14.trans (Step.ext e46 (fun q hq => (hSt14.dom q hq).1))
        have hMp16 := e46.heap hMp14
        have hMf16 := e46.heap hMf14
        have hO16 := hO14.ext e46
        refine bcase_mk (fun h2 => ?_) (fun h2 => ?_)
        · have hhit2 : ruleF i (prevK s k) (kc s k) (sol s k) = true := by rw [← hhit]; exact h2
          have hO16b := hO16.hb
          have hO16r := hO16.row
          rw [List.length_append, hlen] at hO16b hO16r
          simp only [List.length_cons, List.length_nil, Nat.zero_add] at hO16b hO16r
          refine ⟨_, _, _, box_cell hO16b, _, _, _, box_cell hO16b, inr_i64 (by omega) (by omega), _, e16.cell (hn15.cell 1), k - 1, by omega, by omega, ?_⟩
          refine hO16r.wr (i := k - 1) (by omega) fun g hg => ?_
          subst hg
          obtain ⟨hold2, hfree2⟩ := hO16r.at_store (i := k - 1) (by omega)
          refine ⟨rfl, hold2, hfree2, fun w17 hs17 => ?_⟩
          have hO17r := hO16r.store hs17
          have hsays : (((sw s k).map (Value.int .i8)) ++ [Value.int .i8 0]).set (k - 1) (.int .i8 (ruleV i)) = (sw s (k + 1)).map (Value.int .i8) := by
            rw [sw_succ s hk0, ← hpv, says_hit hi12 hno hhit2, ← hlen, List.set_append_right _ _ (Nat.le_refl _), Nat.sub_self]
            rfl
          have hsays' : w17.heap[g]? = w17.heap[g]? := rfl
          rw [hsays] at hO17r
          have hgb : ∀ {q : Nat} {cs : Array Value} {t : TypeId}, w16.heap[q]? = some (.cells cs t) → t ≠ 25 → w17.heap[q]? = some (.cells cs t) := fun hq ht => (hs17.other (fun e => hO16r.off hq ht (congrArg some e.symm))).trans hq
          have hMo : Grow w17 b1 22 25 (some ⟨g, 0, none⟩) c1 ((sw s (k + 1)).map (Value.int .i8)) := by
            have hl2 : ((sw s (k + 1)).map (Value.int .i8)).length = k - 1 + 1 := by rw [sw_len]; omega
            exact ⟨by rw [hl2]; exact hgb hO16b (by decide), by rw [hl2]; exact hO17r⟩
          have hMp := hgb hMp16 (by decide)
          have hMf := hgb hMf16 (by decide)
          have hSt := hSt16.trans (Step.stored hs17 (.inr (.inr (.inr rfl))) (fun q hq => (hSt16.dom q hq).1))
          generalize (some ⟨g, 0, none⟩ : Option Addr) = a1 at hMo hSt
          refine ⟨_, cell_of_heap hMp 1, rfl, (cells_old hMp (j := 0) (by simp [pairV])).1, (cells_old hMp (j := 0) (by simp [pairV])).2, fun wa hsa => ?_⟩
          have hPa : wa.heap[b2]? = some (.cells (pairV (kc s k) (kc s k) (sol s k)) 71) := hsa.heap hMp
          have hFa : wa.heap[b3]? = some (.cells #[.bool (decide (k = 0))] 4) := (hsa.other n32).trans hMf
          have hSa := hSt.trans (Step.stored hsa (.inr (.inl rfl)) (fun q hq => (hSt.dom q hq).1))
          have hOa : Grow wa b1 22 25 a1 c1 ((sw s (k + 1)).map (Value.int .i8)) := hMo.keep (fun q hq => hsa.other (fun e => by
            rcases hq with hq | hq
            · exact n12 (hq.symm.trans e)
            · exact hMo.row.off hMp (by decide) (by rw [hq]; exact congrArg some e)))
          refine ⟨rfl, box_old hFa, box_free hFa, fun wb hsb => ?_⟩
          have hPb := (hsb.other n23).trans hPa
          have hFb := hsb.box hFa
          have hSb := hSa.trans (Step.stored hsb (.inr (.inr (.inl rfl))) (fun q hq => (hSa.dom q hq).1))
          have hOb : Grow wb b1 22 25 a1 c1 ((sw s (k + 1)).map (Value.int .i8)) := hOa.keep (fun q hq => hsb.other (fun e => by
            rcases hq with hq | hq
            · exact n13 (hq.symm.trans e)
            · exact hOa.row.off hFa (by decide) (by rw [hq]; exact congrArg some e)))
          refine ⟨_, cell_of_heap hPb 0, _, cell_of_heap hPb 1, _, cell_of_heap hPb 2, (kc s k, kc s k, sol s k), rfl, trivial, ?_⟩
          rintro x5 wc ⟨hx5, ec⟩
          have hSc := hSb.trans (Step.ext ec (fun q hq => (hSb.dom q hq).1))
          have hPc := ec.heap hPb
          have hFc := ec.heap hFb
          have hOc := hOb.ext ec
          have hx5 : x5 = (kc s k == 1) := hx5
          have hz : decide (k + 1 = 0) = false := decide_eq_false (by omega)
          refine bcase_mk (fun h => ⟨_, hSc, a1, c1, rfl, hOc, ?_, ?_⟩) (fun h => ?_)
          · have : sol s (k + 1) = sol s k := by rw [hx5] at h; simp only [sol]; rw [if_pos (by simpa using h)]
            rw [this]; exact hPc
          · rw [hz]; exact hFc
          refine ⟨_, cell_of_heap hPc 0, rfl, (cells_old hPc (j := 2) (by simp [pairV])).1, (cells_old hPc (j := 2) (by simp [pairV])).2, fun wd hsd => ?_⟩
          have hPd : wd.heap[b2]? = some (.cells (pairV (kc s k) (kc s k) (kc s k)) 71) := hsd.heap hPc
          refine ⟨_, hSc.trans (Step.stored hsd (.inr (.inl rfl)) (fun q hq => (hSc.dom q hq).1)), a1, c1, rfl, ?_, ?_, ?_⟩
          · exact hOc.keep (fun q hq => hsd.other (fun e => by
              rcases hq with hq | hq
              · exact n12 (hq.symm.trans e)
              · exact hOc.row.off hPc (by decide) (by rw [hq]; exact congrArg some e)))
          · have : sol s (k + 1) = kc s k := by rw [hx5] at h; simp only [sol]; rw [if_neg (by simpa using h)]
            rw [this]; exact hPd
          · rw [hz]; exact (hsd.other n32).trans hFc
        · refine ⟨inr_i64 (by omega) (by omega), i + 1, by simp, ⟨by omega, e14.trans e46, _, _, _, hMp13, fun j hj => ?_⟩, by omega⟩
          rcases Nat.lt_or_ge j i with hl | hl
          · exact hno j hl
          · have : j = i := by omega
            subst this
            rw [← hhit]; exact h2
      · have hi12 : i = 12 := by have := of_decide_eq_false h; omega
        subst hi12
        have hMo : Grow w14 b1 22 25 a1 c1 ((sw s (k + 1)).map (Value.int .i8)) := by
          rw [sw_succ s hk0, ← hpv, says_none hno]; exact hO14
        have hMp := hMp14
        have hMf := hMf14
        have hSt := hSt14
        refine ⟨_, cell_of_heap hMp 1, rfl, (cells_old hMp (j := 0) (by simp [pairV])).1, (cells_old hMp (j := 0) (by simp [pairV])).2, fun wa hsa => ?_⟩
        have hPa : wa.heap[b2]? = some (.cells (pairV (kc s k) (kc s k) (sol s k)) 71) := hsa.heap hMp
        have hFa : wa.heap[b3]? = some (.cells #[.bool (decide (k = 0))] 4) := (hsa.other n32).trans hMf
        have hSa := hSt.trans (Step.stored hsa (.inr (.inl rfl)) (fun q hq => (hSt.dom q hq).1))
        have hOa : Grow wa b1 22 25 a1 c1 ((sw s (k + 1)).map (Value.int .i8)) := hMo.keep (fun q hq => hsa.other (fun e => by
          rcases hq with hq | hq
          · exact n12 (hq.symm.trans e)
          · exact hMo.row.off hMp (by decide) (by rw [hq]; exact congrArg some e)))
        refine ⟨rfl, box_old hFa, box_free hFa, fun wb hsb => ?_⟩
        have hPb := (hsb.other n23).trans hPa
        have hFb := hsb.box hFa
        have hSb := hSa.trans (Step.stored hsb (.inr (.inr (.inl rfl))) (fun q hq => (hSa.dom q hq).1))
        have hOb : Grow wb b1 22 25 a1 c1 ((sw s (k + 1)).map (Value.int .i8)) := hOa.keep (fun q hq => hsb.other (fun e => by
          rcases hq with hq | hq
          · exact n13 (hq.symm.trans e)
          · exact hOa.row.off hFa (by decide) (by rw [hq]; exact congrArg some e)))
        refine ⟨_, cell_of_heap hPb 0, _, cell_of_heap hPb 1, _, cell_of_heap hPb 2, (kc s k, kc s k, sol s k), rfl, trivial, ?_⟩
        rintro x5 wc ⟨hx5, ec⟩
        have hSc := hSb.trans (Step.ext ec (fun q hq => (hSb.dom q hq).1))
        have hPc := ec.heap hPb
        have hFc := ec.heap hFb
        have hOc := hOb.ext ec
        have hx5 : x5 = (kc s k == 1) := hx5
        have hz : decide (k + 1 = 0) = false := decide_eq_false (by omega)
        refine bcase_mk (fun h => ⟨_, hSc, a1, c1, rfl, hOc, ?_, ?_⟩) (fun h => ?_)
        · have : sol s (k + 1) = sol s k := by rw [hx5] at h; simp only [sol]; rw [if_pos (by simpa using h)]
          rw [this]; exact hPc
        · rw [hz]; exact hFc
        refine ⟨_, cell_of_heap hPc 0, rfl, (cells_old hPc (j := 2) (by simp [pairV])).1, (cells_old hPc (j := 2) (by simp [pairV])).2, fun wd hsd => ?_⟩
        have hPd : wd.heap[b2]? = some (.cells (pairV (kc s k) (kc s k) (kc s k)) 71) := hsd.heap hPc
        refine ⟨_, hSc.trans (Step.stored hsd (.inr (.inl rfl)) (fun q hq => (hSc.dom q hq).1)), a1, c1, rfl, ?_, ?_, ?_⟩
        · exact hOc.keep (fun q hq => hsd.other (fun e => by
            rcases hq with hq | hq
            · exact n12 (hq.symm.trans e)
            · exact hOc.row.off hPc (by decide) (by rw [hq]; exact congrArg some e)))
        · have : sol s (k + 1) = kc s k := by rw [hx5] at h; simp only [sol]; rw [if_neg (by simpa using h)]
          rw [this]; exact hPd
        · rw [hz]; exact (hsd.other n32).trans hFc
    · have hk0 : k = 0 := by simpa using hk0
      have hMo : Grow w10 b1 22 25 a0 c0 ((sw s (k + 1)).map (Value.int .i8)) := by
        subst hk0; exact hO10
      have hSt := hSt0
      generalize c0 = c1 at hMo
      generalize a0 = a1 at hMo hSt
      refine ⟨_, cell_of_heap hMp 1, rfl, (cells_old hMp (j := 0) (by simp [pairV])).1, (cells_old hMp (j := 0) (by simp [pairV])).2, fun wa hsa => ?_⟩
      have hPa : wa.heap[b2]? = some (.cells (pairV (kc s k) (kc s k) (sol s k)) 71) := hsa.heap hMp
      have hFa : wa.heap[b3]? = some (.cells #[.bool (decide (k = 0))] 4) := (hsa.other n32).trans hMf
      have hSa := hSt.trans (Step.stored hsa (.inr (.inl rfl)) (fun q hq => (hSt.dom q hq).1))
      have hOa : Grow wa b1 22 25 a1 c1 ((sw s (k + 1)).map (Value.int .i8)) := hMo.keep (fun q hq => hsa.other (fun e => by
        rcases hq with hq | hq
        · exact n12 (hq.symm.trans e)
        · exact hMo.row.off hMp (by decide) (by rw [hq]; exact congrArg some e)))
      refine ⟨rfl, box_old hFa, box_free hFa, fun wb hsb => ?_⟩
      have hPb := (hsb.other n23).trans hPa
      have hFb := hsb.box hFa
      have hSb := hSa.trans (Step.stored hsb (.inr (.inr (.inl rfl))) (fun q hq => (hSa.dom q hq).1))
      have hOb : Grow wb b1 22 25 a1 c1 ((sw s (k + 1)).map (Value.int .i8)) := hOa.keep (fun q hq => hsb.other (fun e => by
        rcases hq with hq | hq
        · exact n13 (hq.symm.trans e)
        · exact hOa.row.off hFa (by decide) (by rw [hq]; exact congrArg some e)))
      refine ⟨_, cell_of_heap hPb 0, _, cell_of_heap hPb 1, _, cell_of_heap hPb 2, (kc s k, kc s k, sol s k), rfl, trivial, ?_⟩
      rintro x5 wc ⟨hx5, ec⟩
      have hSc := hSb.trans (Step.ext ec (fun q hq => (hSb.dom q hq).1))
      have hPc := ec.heap hPb
      have hFc := ec.heap hFb
      have hOc := hOb.ext ec
      have hx5 : x5 = (kc s k == 1) := hx5
      have hz : decide (k + 1 = 0) = false := decide_eq_false (by omega)
      refine bcase_mk (fun h => ⟨_, hSc, a1, c1, rfl, hOc, ?_, ?_⟩) (fun h => ?_)
      · have : sol s (k + 1) = sol s k := by rw [hx5] at h; simp only [sol]; rw [if_pos (by simpa using h)]
        rw [this]; exact hPc
      · rw [hz]; exact hFc
      refine ⟨_, cell_of_heap hPc 0, rfl, (cells_old hPc (j := 2) (by simp [pairV])).1, (cells_old hPc (j := 2) (by simp [pairV])).2, fun wd hsd => ?_⟩
      have hPd : wd.heap[b2]? = some (.cells (pairV (kc s k) (kc s k) (kc s k)) 71) := hsd.heap hPc
      refine ⟨_, hSc.trans (Step.stored hsd (.inr (.inl rfl)) (fun q hq => (hSc.dom q hq).1)), a1, c1, rfl, ?_, ?_, ?_⟩
      · exact hOc.keep (fun q hq => hsd.other (fun e => by
          rcases hq with hq | hq
          · exact n12 (hq.symm.trans e)
          · exact hOc.row.off hPc (by decide) (by rw [hq]; exact congrArg some e)))
      · have : sol s (k + 1) = kc s k := by rw [hx5] at h; simp only [sol]; rw [if_neg (by simpa using h)]
        rw [this]; exact hPd
      · rw [hz]; exact (hsd.other n32).trans hFc
  · rintro D W ⟨a, c, rfl, hJ⟩ hM
    rw [lenX_eq, hpl] at hJ
    have e0W : Ext w W := hM.ext e08 (by
      rintro q (h | h | h | h)
      · omega
      · omega
      · omega
      · cases h)
    have hnew : ∀ g, blk a = some g → w.heap.size ≤ g := by
      intro g hg
      rcases (hM.dom g (.inr (.inr (.inr hg)))).2 with (h | h | h | h) | h
      · omega
      · omega
      · omega
      · cases h
      · have := e08.size; omega
    have hlen := sw_len s (ncl s)
    have hwl := where_len s
    refine ⟨_, box_cell hJ.first, bcase_mk (fun h => fun w2 ht => ?_) (fun h => ?_)⟩
    · have h0 : ncl s = 0 := by simpa using h
      refine ⟨(none, 0, 0), rfl, by rw [hwl, h0], ?_⟩
      rw [where_ndk h0]
      exact ⟨Row.nil _ _ _, by simp [blk], e0W.turn ht⟩
    · have h0 : 0 < ncl s := by have : ncl s ≠ 0 := by simpa using h
                                omega
      have hpv : prevK s (ncl s) = kc s (ncl s - 1) := if_neg (by omega)
      refine ⟨_, cell_of_heap hJ.pair 0, ?_⟩
      have hMd : Made w W 25 1 a (ncl s - 1) ((sw s (ncl s)).map (Value.int .i8)) c := ⟨by have := hJ.out.row; rwa [hlen] at this, hnew, e0W⟩
      have hbx := hJ.out.hb
      rw [hlen] at hbx
      refine bcase_mk (fun h2 => ?_) (fun h2 => ?_)
      all_goals
        refine ⟨_, _, _, box_cell hbx, fun b5 w16 hn16 => ?_⟩
        obtain ⟨a', c', w17, hrun, hko, hm17, _⟩ := hMd.pushN (P := Tryd.prog) (ty := 22) elemI8 (by decide) (m := 1) hn16 rfl (by simp [Value.oneCell']) (by unfold maxLen; omega) (.inr (by omega))
        refine ⟨a', c', w17, hrun, hko, fun w2 ht => ⟨(a', ncl s - 1 + 1, c'), rfl, by dsimp only; rw [hwl]; omega, ?_⟩⟩
        have hE := sw_end h0 rfl
        first | rw [if_pos (by rw [← hpv]; simpa using h2)] at hE | rw [if_neg (by rw [← hpv]; simpa using h2)] at hE
        rw [hE] at hm17
        exact hm17.turn ht (Nat.le_refl _)

end Go.Proofs.YthpjkgoahneldaaDoor
end

section
/-
  Chapter 13: a text's lines: the document's list, the program's iterator; what is told of them.
-/
namespace Go.Proofs.YthpjkgoahneldaaDoor
open Go Go.RowKit Vc Ut Tb Cl Orb

theorem elemPart : ElemOk Tryd.prog 28 35 2 24 := elemOk_mk (.agg #[.int .i64 0, .string ⟨#[]⟩]) (by kernel_rfl) (by kernel_rfl) rfl

set_option maxHeartbeats 4000000 in
set_option maxRecDepth 20000 in
theorem rlines_ok : sPartL.Ok Tryd.prog 23 := by
  refine rlines_vc ⟨rallP_ok, rwhere_ok, trivial⟩ ?_
  rintro s w ⟨hU, hs⟩
  have hncl := ncl_le s
  have hpl := pc_len s
  have hwl := where_len s
  refine ⟨s, rfl, ⟨hU, by omega⟩, ?_⟩
  rintro ⟨la, ln, lc⟩ w1 ⟨hln, hml⟩
  dsimp only at hln hml ⊢
  subst hln
  rw [pcV_flat] at hml
  have e1 := hml.ext
  refine ⟨s, rfl, ⟨hU.ext e1, by omega⟩, ?_⟩
  rintro ⟨wa, wn, wc⟩ w2 ⟨hwn, hmw⟩
  dsimp only at hwn hmw ⊢
  rw [hwl] at hwn
  subst wn
  have e2 := e1.trans hmw.ext
  have hcl := hml.row.cells.ext hmw.ext
  have hcw := hmw.row.cells
  refine ⟨⟨(0, none, 0), rfl, rfl, rfl, Nat.zero_le _, Made.nil _ _ _⟩, ?_⟩
  rintro _ ⟨i, a, c⟩ w3 ⟨hi, hm⟩
  dsimp only at hi hm ⊢
  have hll := lnS_len s i
  have hf := lnS_from s i
  have e23 := hm.ext
  have push : ∀ {w4 w5 : World} {b n : Nat} {a : Option Addr} {c : Nat} {L : List (Nat × Nat)} (p : Nat × Nat), L.length ≤ 3000000 → Made w2 w4 35 2 a n (L.flatMap fun p => encPc (lnP s p)) c → n = L.length →
      New w4 (.cells (encPc (lnP s p)).toArray 35) b w5 → ∃ a' c' w6, AppRun Tryd.prog #[28, 28] 28 (.slice a n c) (.slice (some ⟨b, 0, none⟩) 1 1) w5 a' (n + 1) c' w6 ∧ KO w5 w6 ∧
        Made w2 w6 35 2 a' (n + 1) ((L ++ [p]).flatMap fun p => encPc (lnP s p)) c' := by
    intro w4 w5 b n a c L p hL hm4 hn hnw
    obtain ⟨a', c', w6, hrun, hko, hm6, _⟩ := hm4.pushN (P := Tryd.prog) (ty := 28) elemPart (by decide) (m := 1) hnw rfl (enc_one _) (by unfold maxLen; omega) (.inr (by omega))
    refine ⟨a', c', w6, hrun, hko, ?_⟩
    rw [List.flatMap_append]
    simp only [List.flatMap_cons, List.flatMap_nil, List.append_nil]
    exact hm6
  refine bcase_mk (fun h => ?_) (fun h => ?_)
  · have hlt : i < ncl s := by have := of_decide_eq_true h; omega
    have hble := bp_le s (i + 1)
    have hbm := bp_mono s (show i ≤ i + 1 by omega)
    have hps := pc_sz (s := s) (i := i)
    intro w4 hd
    have e24 := e23.trans hd.ext
    have hm4 := hm.later hd.ext
    refine ⟨i, rfl, hlt, pc_cell (hcl.ext e23) hlt (j := 0) (by decide) rfl fun _ _ hb => ⟨_, hb, i, rfl, hlt, pc_cell (hcl.ext e23) hlt (j := 1) (by decide) rfl fun _ _ hb => ⟨_, hb, ?_⟩⟩⟩
    dsimp only [pcP] at hps ⊢
    have hsum : (bp s i : Int) + ((s.extract (bp s i) (bp s (i + 1))).size : Int) = (bp s (i + 1) : Int) := by omega
    simp only [hsum]
    refine ⟨inr_i64 (by omega) (by omega), inr_i64 (by omega) (by omega), ?_⟩
    have hwc : ∀ {w5 : World} {K : Nat → Nat → Prop}, Ext w2 w5 → (∀ b o, w5.cell? ⟨b, o + i, none⟩ = some (.int .i8 (whereI s i)) → K b o) → ptrE wa K := fun e hK => (hcw.ext e).ptr (by rw [List.getElem?_map, where_at hlt]; rfl) hK
    have fin : ∀ {w5 : World} {a : Option Addr} {c f n : Nat} {L : List (Nat × Nat)}, lnS s (i + 1) = (f, L) → n = L.length → Made w2 w5 35 2 a n (L.flatMap fun p => encPc (lnP s p)) c →
        InR .i64 ((i : Int) + 1) ∧ ∃ y : Nat × Option Addr × Nat, Value.int .i64 ((i : Int) + 1) = Value.int .i64 (y.1 : Int) ∧ Value.int .i64 (f : Int) = Value.int .i64 ((lnS s y.1).1 : Int) ∧ Value.slice a n c = Value.slice y.2.1 (lnS s y.1).2.length y.2.2 ∧
          (y.1 ≤ ncl s ∧ Made w2 w5 35 2 y.2.1 (lnS s y.1).2.length ((lnS s y.1).2.flatMap fun p => encPc (lnP s p)) y.2.2) ∧ ncl s - y.1 < ncl s - i := by
      intro w5 a c f n L hS hn hm5
      subst hn
      refine ⟨inr_i64 (by omega) (by omega), (i + 1, a, c), by simp, by dsimp only; rw [hS], by dsimp only; rw [hS], ⟨hlt, ?_⟩, by dsimp only; omega⟩
      dsimp only
      rw [hS]; exact hm5
    refine bcase_mk (fun ho => ?_) (fun ho => ?_)
    · have ho : bp s (i + 1) - (lnS s i).1 > 65536 := by have := of_decide_eq_true ho; omega
      have hfi : (lnS s i).1 ≤ bp s i := hf
      refine ⟨i, rfl, hlt, pc_cell (hcl.ext e24) hlt (j := 0) (by decide) rfl fun _ _ hb => ⟨_, hb, (lnS s i).1, rfl, bp s i, rfl, hfi, by omega, ?_⟩⟩
      intro b w5 hn
      obtain ⟨a', c', w6, hrun, hko, hm6⟩ := push ((lnS s i).1, bp s i) (by omega) hm4 rfl hn
      refine ⟨a', c', w6, hrun, hko, i, rfl, hlt, pc_cell (hcl.ext hm6.ext) hlt (j := 0) (by decide) rfl fun _ _ hb => ⟨_, hb, i, rfl, hlt, hwc hm6.ext fun _ _ hb => ⟨_, hb, ?_⟩⟩⟩
      refine bcase_mk (fun hk => ?_) (fun hk => ?_)
      · have hk : kc s i = 2 := whereI_must.1 (by simpa using hk)
        refine ⟨bp s i, rfl, bp s (i + 1), rfl, hbm, hble, ?_⟩
        intro b2 w7 hn2
        obtain ⟨a2, c2, w8, hrun2, hko2, hm8⟩ := push (bp s i, bp s (i + 1)) (by rw [List.length_append]; simp; omega) hm6 (by rw [List.length_append]; rfl) hn2
        refine ⟨a2, c2, w8, hrun2, hko2, fin (L := (lnS s i).2 ++ [((lnS s i).1, bp s i)] ++ [(bp s i, bp s (i + 1))]) ?_ (by simp) hm8⟩
        simp only [lnS]; rw [if_pos hk, if_pos ho, List.append_assoc]; rfl
      · have hk : kc s i ≠ 2 := fun e => by have := whereI_must.2 e; simp [this] at hk
        refine fin (L := (lnS s i).2 ++ [((lnS s i).1, bp s i)]) ?_ (by simp) hm6
        simp only [lnS]; rw [if_neg hk, if_pos ho]; rfl
    · have ho : ¬ bp s (i + 1) - (lnS s i).1 > 65536 := by have := of_decide_eq_false ho; omega
      refine ⟨i, rfl, hlt, hwc e24 fun _ _ hb => ⟨_, hb, ?_⟩⟩
      refine bcase_mk (fun hk => ?_) (fun hk => ?_)
      · have hk : kc s i = 2 := whereI_must.1 (by simpa using hk)
        refine ⟨(lnS s i).1, rfl, bp s (i + 1), rfl, by omega, hble, ?_⟩
        intro b2 w7 hn2
        obtain ⟨a2, c2, w8, hrun2, hko2, hm8⟩ := push ((lnS s i).1, bp s (i + 1)) (by omega) hm4 rfl hn2
        refine ⟨a2, c2, w8, hrun2, hko2, fin (L := (lnS s i).2 ++ [((lnS s i).1, bp s (i + 1))]) ?_ (by simp) hm8⟩
        simp only [lnS]; rw [if_pos hk, if_neg ho]
      · have hk : kc s i ≠ 2 := fun e => by have := whereI_must.2 e; simp [this] at hk
        refine fin (L := (lnS s i).2) ?_ rfl hm4
        simp only [lnS]; rw [if_neg hk, if_neg ho]
  · have hie : i = ncl s := by have := of_decide_eq_false h; omega
    subst hie
    have hbe := bp_end s
    refine ⟨(lnS s (ncl s)).1, rfl, by omega, Nat.le_refl _, ?_⟩
    intro b w4 hn
    obtain ⟨a', c', w5, hrun, hko, hm5⟩ := push ((lnS s (ncl s)).1, s.size) (by omega) hm rfl hn
    refine ⟨a', c', w5, hrun, hko, (a', (lnS s (ncl s)).2.length + 1, c'), rfl, (lnL_len s).symm, ?_⟩
    have : (lnL s).flatMap encPc = ((lnS s (ncl s)).2 ++ [((lnS s (ncl s)).1, s.size)]).flatMap fun p => encPc (lnP s p) := by
      unfold lnL lnA; rw [List.flatMap_map]
    rw [this]
    exact hm5.earlier e2

/-! ### The iterator -/

theorem Fr.turn {n : Nat} {w w' : World} (ht : Turn n w w') : Fr (fun q => n ≤ q) w w' := ⟨ht.ext.os, ht.ext.tape, ht.ext.output, ht.ext.size, fun b _ hn => ht.ext.block b (Nat.lt_of_not_le hn)⟩
/-- How things stand within a round: m lines told, the line under way began at f. -/
structure LnSt (i : ItG) (w8 : World) (b1 : Nat) (D : Nat → Prop) (W1 : World) (m : Nat) (f : Int) (Do : Nat → Prop) (V : World) : Prop where
  nd : ¬ Do b1
  j : i.J m Do V
  mid : Mid w8 (fun q => q = b1 ∨ i.D0 q) (fun q => q = b1 ∨ Do q) V
  st : Step D W1 V (fun q => q = b1 ∨ Do q)
  fr : V.heap[b1]? = some (.cells #[.int .i64 f] 3)

theorem LnSt.ext {i : ItG} {W w8 W1 V V' : World} {b1 m : Nat} {D Do : Nat → Prop} {f : Int} (h : LnSt i w8 b1 D W1 m f Do V) (hst : Stab W.heap.size i.J) (hx : Ext V V') (hW : W.heap.size ≤ w8.heap.size) : LnSt i w8 b1 D W1 m f Do V' :=
  ⟨h.nd, hst.use h.j hx.size (fun q hq => hx.block q (hq.elim (fun h2 => by have := h.mid.fr.size; omega) (fun h2 => h.mid.lt q (.inr h2)))), h.mid.step (Step.ext hx h.mid.lt), h.st.trans (Step.ext hx (fun q hq => (h.st.dom q hq).1)), hx.heap h.fr⟩
theorem LnSt.store {i : ItG} {W w8 W1 V V' : World} {b1 m : Nat} {D Do : Nat → Prop} {f f' : Int} (h : LnSt i w8 b1 D W1 m f Do V) (hst : Stab W.heap.size i.J) (hs : Stored V ⟨b1, 0, none⟩ (.int .i64 f') V') (hb : W.heap.size ≤ b1) : LnSt i w8 b1 D W1 m f' Do V' :=
  ⟨h.nd, hst.use h.j (by rw [hs.size]; exact Nat.le_refl _) (fun q hq => hs.other (by show q ≠ b1; rintro rfl; rcases hq with hq | hq; omega; exact h.nd hq)), h.mid.step (Step.stored hs (.inl rfl) h.mid.lt), h.st.trans (Step.stored hs (.inl rfl) (fun q hq => (h.st.dom q hq).1)), hs.box h.fr⟩
theorem LnSt.toMid {i : ItG} {W w8 W1 V : World} {b1 m : Nat} {D Do : Nat → Prop} {f : Int} (h : LnSt i w8 b1 D W1 m f Do V) (hx : Ext W w8) (hb : W.heap.size ≤ b1) : Mid W i.D0 Do V := by
  refine ⟨(Fr.of_ext hx).trans h.mid.fr (fun q hq hd => hd.elim (fun e => by omega) id), fun q hq => ⟨h.mid.lt q (.inr hq), ?_⟩⟩
  rcases (h.mid.dom q (.inr hq)).2 with (h1 | h1) | h1
  · subst h1; exact absurd hq h.nd
  · exact .inl h1
  · exact .inr (Nat.le_trans hx.size h1)
/-- A line is told. -/
theorem LnSt.told {i : ItG} {w8 W1 V V' : World} {b1 m : Nat} {D Do D' : Nat → Prop} {f : Int} (h : LnSt i w8 b1 D W1 m f Do V) (hs : Step Do V V' D') : ¬ D' b1 ∧ Step D W1 V' (fun q => q = b1 ∨ D' q) ∧ Mid w8 (fun q => q = b1 ∨ i.D0 q) (fun q => q = b1 ∨ D' q) V' ∧ V'.heap[b1]? = some (.cells #[.int .i64 f] 3) := by
  have hb := heap_lt h.fr
  have h2 : Step (fun q => q = b1 ∨ Do q) V V' (fun q => q = b1 ∨ D' q) := ⟨hs.fr.mono (fun q _ hq => .inr hq), fun q hq => by
    rcases hq with rfl | hq
    · exact ⟨Nat.lt_of_lt_of_le hb hs.fr.size, .inl (.inl rfl)⟩
    · exact ⟨(hs.dom q hq).1, (hs.dom q hq).2.imp .inr id⟩⟩
  refine ⟨fun hd => ?_, h.st.trans h2, h.mid.step h2, (hs.fr.block b1 hb h.nd).trans h.fr⟩
  rcases (hs.dom b1 hd).2 with h1 | h1
  · exact h.nd h1
  · omega

theorem lnS_len_le {s : ByteArray} {i : Nat} (hi : i ≤ ncl s) : lnC s i < (lnL s).length := by
  obtain ⟨t, ht⟩ := lnS_pre s hi
  rw [lnL_len, ht, List.length_append]
  unfold lnC; omega

set_option maxHeartbeats 4000000 in
set_option maxRecDepth 20000 in
theorem itLn_ok : itLn.Ok Tryd.prog 62 := by
  refine itLn_vc ⟨call_ok, kindP_ok, trivial⟩ ?_
  rintro ⟨s, bx⟩ i W ⟨hb, hU, hs⟩ hi
  dsimp only at hb hU hs hi ⊢
  have hncl := ncl_le s
  have hpl := pc_len s
  intro b w1 hn1 b1 w2 hn2
  refine ⟨rfl, box_old hn2.heap, box_free hn2.heap, fun w3 hs3 => ?_⟩
  obtain ⟨_, _, hst2⟩ := new_box hn2
  obtain ⟨e13, hf3, hb1z, hw3z⟩ := hst2 hs3
  have z1 := hn1.size
  have eW3 : Ext W w3 := hn1.ext.trans e13
  refine ⟨s, box_cell (eW3.heap hb), s, rfl, trivial, ?_⟩
  rintro x w8 ⟨hx, hxs, e38⟩
  have eW8 : Ext W w8 := eW3.trans e38
  have hU8 := hU.ext eW8
  have hyb := e38.heap (e13.heap hn1.heap)
  have hbb := eW8.heap hb
  have hxl := heap_lt hxs
  have z8 := e38.size
  have hbl := heap_lt hb
  have hUl := hU.lt
  dsimp only [ptrB]
  have hd0 : ∀ {q : Nat}, i.D0 q → q < W.heap.size := fun h => hi.d0 _ h
  have offD : ∀ {q : Nat}, (q = bx ∨ q = 0 ∨ q = 1) → ¬ (q = b1 ∨ i.D0 q) := by
    intro q hq h
    rcases h with h | h
    · rcases hq with h2 | h2 | h2 <;> omega
    · exact hi.cd q hq h
  have offb : ¬ (b = b1 ∨ i.D0 b) := by
    rintro (h | h)
    · omega
    · have := hd0 h; omega
  have hCD : ∀ q, cC x q → q < w8.heap.size ∧ ¬ (q = b1 ∨ i.D0 q) := by
    intro q hq
    refine ⟨cC_lt hxl hU8 q hq, ?_⟩
    rcases hq with rfl | hq
    · rintro (h | h)
      · omega
      · have := hd0 h; omega
    · exact offD (.inr hq)
  have lenM : ((lnL s).map encPc).length = (lnL s).length := List.length_map _
  refine ⟨pcL s, cC x, (fun q => q = b1 ∨ i.D0 q), pc_iter hxs hU8 (by omega), ⟨?_, hCD⟩, ⟨i.D0, rfl, fun h => by have := hd0 h; omega, ?_, e38.heap hf3⟩, ?_, ?_, ?_, ?_, ?_⟩
  · rintro q (rfl | h)
    · omega
    · have := hd0 h; omega
  · exact hi.stab.use hi.j0 eW8.size (fun q hq => eW8.block q (hq.elim id (fun h => hd0 h)))
  · rintro k D V V' ⟨Do, rfl, hnd, hj, hf⟩ hsz hq
    exact ⟨Do, rfl, hnd, hi.stab _ _ _ _ hj hsz (fun q o hq1 ho hr => hq q o (hq1.elim (fun h => .inl (by have := eW8.size; omega)) (fun h => .inr (.inr h))) ho (hr.imp id (fun h => by have := eW8.size; omega))), hq b1 _ (.inr (.inl rfl)) hf (.inl rfl)⟩
  · rintro _ k D V V' ⟨Do, rfl, hnd, hj⟩ hsz hq
    exact ⟨Do, rfl, hnd, hi.stabx 0 _ _ _ hj hsz (fun q o hq1 ho hr => hq q o (hq1.elim (fun h => .inl (by have := eW8.size; omega)) (fun h => .inr (.inr h))) ho (hr.imp id (fun h => by have := eW8.size; omega)))⟩
  · rintro k p D W1 hp ⟨Do, rfl, hnd, hj, hf⟩ hM
    have hkl : k < ncl s := by have := (List.getElem?_eq_some_iff.1 hp).1; omega
    rw [pc_get hkl] at hp
    simp only [Option.some.injEq] at hp
    subst hp
    have hble := bp_le s (k + 1)
    have hbm := bp_mono s (show k ≤ k + 1 by omega)
    have hps := pc_sz (s := s) (i := k)
    have hff := lnS_from s k
    have hcl := lnS_len_le (s := s) (i := k + 1) (by omega)
    have S0 : LnSt i w8 b1 (fun q => q = b1 ∨ Do q) W1 (lnC s k) (lnF s k) Do W1 := ⟨hnd, hj, hM, Step.refl hM.lt, hf⟩
    have psz : (pcP s k).2.size ≤ 67108864 := by omega
    dsimp only [pcP] at hps ⊢
    have hsum : (bp s k : Int) + ((s.extract (bp s k) (bp s (k + 1))).size : Int) = (bp s (k + 1) : Int) := by omega
    simp only [hsum]
    have hlf : lnF s k = (lnS s k).1 := rfl
    have hlc : lnC s k = (lnS s k).2.length := rfl
    have yv : ∀ {m f e : Nat} {Dx : Nat → Prop} {V : World}, LnSt i w8 b1 (fun q => q = b1 ∨ Do q) W1 m f Dx V → (lnL s)[m]? = some (lnP s (f, e)) →
        [Value.int .i64 f, Value.string (s.extract f e)] = ((lnL s).map encPc).getD m [] ∧ m < ((lnL s).map encPc).length ∧ i.J m Dx V ∧ Mid W i.D0 Dx V := by
      intro m f e Dx V hS hm
      refine ⟨?_, ?_, hS.j, hS.toMid eW8 (by omega)⟩
      · rw [xs_of hm]; rfl
      · rw [lenM]; exact (List.getElem?_eq_some_iff.1 hm).1
    have hUV : ∀ {m f : Nat} {Dx : Nat → Prop} {V : World}, LnSt i w8 b1 (fun q => q = b1 ∨ Do q) W1 m f Dx V → U8 V := fun hS => hU8.fr hS.mid.fr (offD (.inr (.inl rfl))) (offD (.inr (.inr rfl)))
    have cellY : ∀ {m f : Nat} {Dx : Nat → Prop} {V : World}, LnSt i w8 b1 (fun q => q = b1 ∨ Do q) W1 m f Dx V → V.cell? ⟨b, 0, none⟩ = some (.func (.yield i.l) #[] #[]) ∧ V.cell? ⟨bx, 0, none⟩ = some (.string s) := fun hS =>
      ⟨box_cell ((hS.mid.old (heap_lt hyb) offb).trans hyb), box_cell ((hS.mid.old (heap_lt hbb) (offD (.inl rfl))).trans hbb)⟩
    refine ⟨inr_i64 (by omega) (by omega), _, box_cell hf, inr_i64 (by omega) (by omega), ?_⟩
    -- the last part of the round
    have last : ∀ {m f : Nat} {Dx : Nat → Prop} {V : World}, LnSt i w8 b1 (fun q => q = b1 ∨ Do q) W1 m f Dx V → kc s k = 2 → lnC s (k + 1) = m + 1 → lnF s (k + 1) = bp s (k + 1) → (lnL s)[m]? = some (lnP s (f, bp s (k + 1))) → f ≤ bp s (k + 1) →
        ∀ (V2 : World), Drew V V2 → ∃ l : Nat, V.cell? ⟨b, 0, none⟩ = some (.func (.yield l) #[] #[]) ∧ ∃ n1 : Int, V.cell? ⟨b1, 0, none⟩ = some (.int .i64 n1) ∧ ∃ s1 : ByteArray, V.cell? ⟨bx, 0, none⟩ = some (.string s1) ∧ ∃ n2 : Int, V.cell? ⟨b1, 0, none⟩ = some (.int .i64 n2) ∧
          ∃ k1 : Nat, n2 = (k1 : Int) ∧ ∃ k2 : Nat, (bp s (k + 1) : Int) = (k2 : Int) ∧ k1 ≤ k2 ∧ k2 ≤ s1.size ∧ l = i.l ∧ ∃ q : Nat × (Nat → Prop), [Value.int .i64 n1, Value.string (s1.extract k1 k2)] = ((lnL s).map encPc).getD q.1 [] ∧
          (q.1 < ((lnL s).map encPc).length ∧ i.J q.1 q.2 V2 ∧ Mid W i.D0 q.2 V2) ∧ ∀ (b2 : Bool) (w4 : World), (∃ D', Step q.2 V2 w4 D' ∧ (b2 = true → i.J (q.1 + 1) D' w4) ∧ (b2 = false → i.Jx D' w4)) →
          bcase (!b2) (∃ D', Step (fun q => q = b1 ∨ Do q) W1 w4 D' ∧ ∃ Do : Nat → Prop, (D' = fun q => q = b1 ∨ Do q) ∧ ¬ Do b1 ∧ i.Jx Do w4)
            (True ∧ (∃ old, w4.cell? ⟨b1, 0, none⟩ = some old) ∧ w4.frozen? ⟨b1, 0, none⟩ = false ∧ ∀ w5, Stored w4 ⟨b1, 0, none⟩ (.int .i64 (bp s (k + 1) : Int)) w5 →
              ∃ D', Step (fun q => q = b1 ∨ Do q) W1 w5 D' ∧ ∃ Do : Nat → Prop, (D' = fun q => q = b1 ∨ Do q) ∧ ¬ Do b1 ∧ i.J (lnC s (k + 1)) Do w5 ∧ w5.heap[b1]? = some (.cells #[.int .i64 (lnF s (k + 1) : Int)] 3)) := by
      intro m f Dx V hS hkc hC hF hm hfe V2 hd
      have hS2 := hS.ext hi.stab hd.ext eW8.size
      obtain ⟨c1, c2⟩ := cellY hS
      obtain ⟨y1, y2, y3, y4⟩ := yv hS2 hm
      refine ⟨i.l, c1, f, box_cell hS.fr, s, c2, f, box_cell hS.fr, f, rfl, bp s (k + 1), rfl, hfe, hble, rfl, (m, Dx), y1, ⟨y2, y3, y4⟩, ?_⟩
      rintro b2 w4 ⟨D', hst, h1, h2⟩
      dsimp only at hst h1 h2
      obtain ⟨t1, t2, t3, t4⟩ := hS2.told hst
      refine bcase_mk (fun hb2 => ⟨_, t2, D', rfl, t1, h2 (by simpa using hb2)⟩) (fun hb2 => ⟨trivial, box_old t4, box_free t4, fun w5 hs5 => ?_⟩)
      have S5 : LnSt i w8 b1 (fun q => q = b1 ∨ Do q) W1 (m + 1) f D' w4 := ⟨t1, h1 (by simpa using hb2), t3, t2, t4⟩
      have S6 := S5.store hi.stab hs5 (by omega)
      rw [hC, hF]
      exact ⟨_, S6.st, D', rfl, t1, S6.j, S6.fr⟩
    refine bcase_mk (fun ho => ?_) (fun ho => ?_)
    · have ho : bp s (k + 1) - (lnS s k).1 > 65536 := by have := of_decide_eq_true ho; omega
      intro V2 hd
      have S2 := S0.ext hi.stab hd.ext eW8.size
      have hm : (lnL s)[lnC s k]? = some (lnP s (lnF s k, bp s k)) := by
        refine ln_at (i := k + 1) (by omega) ?_
        simp only [lnS]
        rw [hlc]
        by_cases hk2 : kc s k = 2
        · rw [if_pos hk2, if_pos ho]; dsimp only; rw [List.getElem?_append_right (Nat.le_refl _), Nat.sub_self]; rfl
        · rw [if_neg hk2, if_pos ho]; dsimp only; rw [List.getElem?_append_right (Nat.le_refl _), Nat.sub_self]; rfl
      obtain ⟨c1, c2⟩ := cellY S0
      obtain ⟨y1, y2, y3, y4⟩ := yv S2 hm
      refine ⟨i.l, c1, lnF s k, box_cell hf, s, c2, lnF s k, box_cell hf, lnF s k, rfl, bp s k, rfl, hff, by omega, rfl, (lnC s k, Do), y1, ⟨y2, y3, y4⟩, ?_⟩
      rintro b2 w4 ⟨D', hst, h1, h2⟩
      dsimp only at hst h1 h2
      obtain ⟨t1, t2, t3, t4⟩ := S2.told hst
      refine bcase_mk (fun hb2 => ⟨_, t2, D', rfl, t1, h2 (by simpa using hb2)⟩) (fun hb2 => ⟨trivial, box_old t4, box_free t4, fun w5 hs5 => ?_⟩)
      have S5 : LnSt i w8 b1 (fun q => q = b1 ∨ Do q) W1 (lnC s k + 1) (lnF s k) D' w4 := ⟨t1, h1 (by simpa using hb2), t3, t2, t4⟩
      have S6 := S5.store hi.stab hs5 (by omega)
      refine ⟨_, rfl, ⟨hUV S6, psz⟩, ?_⟩
      rintro v w6 ⟨hv, e56⟩
      have hv : v = kc s k := hv
      subst hv
      have S7 := S6.ext hi.stab e56 eW8.size
      refine bcase_mk (fun hk => ?_) (fun hk => ?_)
      · have hk : kc s k = 2 := by simpa using hk
        refine last S7 hk ?_ ?_ ?_ hbm
        · unfold lnC; simp only [lnS]; rw [if_pos hk, if_pos ho]; simp
        · unfold lnF; simp only [lnS]; rw [if_pos hk]
        · refine ln_at (i := k + 1) (by omega) ?_
          simp only [lnS]
          rw [if_pos hk, if_pos ho, hlc, List.getElem?_append_right (by omega), Nat.add_sub_cancel_left]; rfl
      · have hk : kc s k ≠ 2 := by simpa using hk
        have hC : lnC s (k + 1) = lnC s k + 1 := by unfold lnC; simp only [lnS]; rw [if_neg hk, if_pos ho]; simp
        have hF : lnF s (k + 1) = bp s k := by unfold lnF; simp only [lnS]; rw [if_neg hk, if_pos ho]
        rw [hC, hF]
        exact ⟨_, S7.st, D', rfl, t1, S7.j, S7.fr⟩
    · have ho : ¬ bp s (k + 1) - (lnS s k).1 > 65536 := by have := of_decide_eq_false ho; omega
      refine ⟨_, rfl, ⟨hUV S0, psz⟩, ?_⟩
      rintro v w6 ⟨hv, e56⟩
      have hv : v = kc s k := hv
      subst hv
      have S7 := S0.ext hi.stab e56 eW8.size
      refine bcase_mk (fun hk => ?_) (fun hk => ?_)
      · have hk : kc s k = 2 := by simpa using hk
        refine last S7 hk ?_ ?_ ?_ (by omega)
        · unfold lnC; simp only [lnS]; rw [if_pos hk, if_neg ho]; simp
        · unfold lnF; simp only [lnS]; rw [if_pos hk]
        · refine ln_at (i := k + 1) (by omega) ?_
          simp only [lnS]
          rw [if_pos hk, if_neg ho, hlc, List.getElem?_append_right (Nat.le_refl _), Nat.sub_self]; rfl
      · have hk : kc s k ≠ 2 := by simpa using hk
        have hC : lnC s (k + 1) = lnC s k := by unfold lnC; simp only [lnS]; rw [if_neg hk, if_neg ho]
        have hF : lnF s (k + 1) = lnF s k := by unfold lnF; simp only [lnS]; rw [if_neg hk, if_neg ho]
        rw [hC, hF]
        exact ⟨_, S7.st, Do, rfl, hnd, S7.j, S7.fr⟩
  · rintro D W1 ⟨Do, rfl, hnd, hj, hf⟩ hM V2 hd
    rw [lenX_eq, hpl] at hj hf
    have S0 : LnSt i w8 b1 (fun q => q = b1 ∨ Do q) W1 (lnC s (ncl s)) (lnF s (ncl s)) Do W1 := ⟨hnd, hj, hM, Step.refl hM.lt, hf⟩
    have S2 := S0.ext hi.stab hd.ext eW8.size
    have hff := lnS_from s (ncl s)
    have hbe := bp_end s
    have hm : (lnL s)[lnC s (ncl s)]? = some (lnP s (lnF s (ncl s), s.size)) := ln_last s
    refine ⟨i.l, box_cell ((hM.old (heap_lt hyb) offb).trans hyb), lnF s (ncl s), box_cell hf, s, box_cell ((hM.old (heap_lt hbb) (offD (.inl rfl))).trans hbb), lnF s (ncl s), box_cell hf, lnF s (ncl s), rfl, by unfold lnF; omega, Nat.le_refl _, rfl, (lnC s (ncl s), Do), ?_, ⟨?_, S2.j, S2.toMid eW8 (by omega)⟩, ?_⟩
    · rw [xs_of hm]; rfl
    · rw [lenM]; exact (List.getElem?_eq_some_iff.1 hm).1
    rintro b2 w4 ⟨D', hst, h1, h2⟩ w5 ht
    dsimp only at hst h1 h2
    have hM4 := (S2.toMid eW8 (show W.heap.size ≤ b1 by omega)).step hst
    have hM5 : Mid W i.D0 D' w5 := ⟨hM4.fr.trans (Fr.turn ht) (fun q hq hd => by omega), fun q hq => ⟨by rw [ht.size]; exact hM4.lt q hq, (hM4.dom q hq).2⟩⟩
    have hjt : ∀ {J : Nat → (Nat → Prop) → World → Prop} {m : Nat}, Stab W.heap.size J → J m D' w4 → J m D' w5 := fun hst hj => hst _ _ _ _ hj (by rw [ht.size]; exact Nat.le_refl _) (fun q o _ ho hr => hr.elim (fun h => ht.cells q o ho h) (fun h => (ht.ext.block q h).trans ho))
    refine ⟨D', hM5, ?_⟩
    have hl : ((lnL s).map encPc).length = lnC s (ncl s) + 1 := by rw [lenM, lnL_len]; rfl
    cases b2 with
    | true => left; rw [hl]; exact hjt hi.stab (h1 rfl)
    | false => right; exact hjt (m := 0) hi.stabx (h2 rfl)
  · rintro D W1 ⟨Do, rfl, hnd, hj⟩ hM w5 ht
    have hMW : Mid W i.D0 Do W1 := by
      refine ⟨(Fr.of_ext eW8).trans hM.fr (fun q hq hd => hd.elim (fun e => by omega) id), fun q hq => ⟨hM.lt q (.inr hq), ?_⟩⟩
      rcases (hM.dom q (.inr hq)).2 with (h1 | h1) | h1
      · subst h1; exact absurd hq hnd
      · exact .inl h1
      · exact .inr (Nat.le_trans eW8.size h1)
    have hM5 : Mid W i.D0 Do w5 := ⟨hMW.fr.trans (Fr.turn ht) (fun q hq hd => by omega), fun q hq => ⟨by rw [ht.size]; exact hMW.lt q hq, (hMW.dom q hq).2⟩⟩
    refine ⟨Do, hM5, .inr ?_⟩
    exact hi.stabx 0 _ _ _ hj (by rw [ht.size]; exact Nat.le_refl _) (fun q o _ ho hr => hr.elim (fun h => ht.cells q o ho h) (fun h => (ht.ext.block q h).trans ho))

theorem lines_ok : (sIter 62).Ok Tryd.prog 24 := by
  refine lines_vc trivial ?_
  rintro s w _ b w1 hn
  exact ⟨b, rfl, by have := hn.size; omega, hn.heap, hn.ext⟩
theorem ln_iter {s : ByteArray} {b : Nat} {w : World} (h : w.heap[b]? = some (.cells #[.string s] 9)) (hU : U8 w) (hs : s.size ≤ 1048576) : IterAt Tryd.prog (itV 62 b) ((lnL s).map encPc) (cC b) w := by
  refine itLn_ok (s, b) w ⟨h, hU, hs⟩ (cC_lt (heap_lt h) hU) (fun W hW hq => ⟨(hq b (.inl rfl)).trans h, ?_, hs⟩)
  have hk : ∀ {g : Nat} {j : Nat} {v : Value}, cC b g → w.cell? ⟨g, j, none⟩ = some v → W.cell? ⟨g, j, none⟩ = some v := fun {g j v} hg hc => (World.cell?_of_block (w := w) (hq g hg)).trans hc
  exact ⟨fun c hc => hk (.inr (.inl rfl)) (hU.1 c hc), fun i hi => ⟨hk (.inr (.inr rfl)) (hU.2 i hi).1, hk (.inr (.inr rfl)) (hU.2 i hi).2⟩⟩

end Go.Proofs.YthpjkgoahneldaaDoor
end

section
/-
  Chapter 13: the laws BreaksWhere, BreaksLines.
-/
namespace Go.Proofs.YthpjkgoahneldaaDoor
open Go Go.RowKit Vc Ut Tb Cl Orb


set_option maxHeartbeats 1000000 in
theorem goesL_ok : sGoes.Ok Tryd.prog 25 := by
  refine goesL_vc trivial ?_
  rintro ⟨⟨f, caps, xs, C⟩, want, a, c, most⟩ w ⟨⟨hit, hC, hlen⟩, hc, hxs⟩
  dsimp only at hit hC hlen hc hxs ⊢
  subst hxs
  intro b w1 hn1 b1 w2 hn2 b2 w3 hn3 b3 w4 hn4
  refine ⟨rfl, box_old hn4.heap, box_free hn4.heap, fun w5 hs5 => ?_⟩
  obtain ⟨_, _, hst4⟩ := new_box hn4
  obtain ⟨e35, hb3, hz3, hw5z⟩ := hst4 hs5
  have z1 := hn1.size
  have z2 := hn2.size
  have z3 := hn3.size
  have e05 : Ext w w5 := ((hn1.ext.trans hn2.ext).trans hn3.ext).trans e35
  have h0 : w5.heap[b]? = some (.cells #[.slice a xs.length c] 28) := ((hn2.ext.trans hn3.ext).trans e35).heap hn1.heap
  have h1 : w5.heap[b1]? = some (.cells #[.int .i64 most] 3) := (hn3.ext.trans e35).heap hn2.heap
  have h2 : w5.heap[b2]? = some (.cells #[.bool false] 4) := e35.heap hn3.heap
  have hit5 := hit.later e05.size (fun q hq => e05.block q (hC q hq))
  dsimp only [ptrB]
  have n23 : b2 ≠ b3 := by omega
  have nd : ∀ q, q < b2 → ¬ ones [b2, b3] q := fun q hq h => (ones_two.1 h).elim (fun e => by omega) (fun e => by omega)
  refine ⟨xs, C, ones [b2, b3], hit5, ⟨?_, ?_⟩, ⟨rfl, hb3, _, h2⟩, ?_, ?_, ?_, ?_, ?_⟩
  · intro q hq; rcases ones_two.1 hq with rfl | rfl <;> omega
  · intro q hq; have := hC q hq; exact ⟨by have := e05.size; omega, nd q (by omega)⟩
  · rintro k D W W' ⟨rfl, ha, v, hb⟩ hsz hq
    exact ⟨rfl, hq b3 _ (.inr (ones_two.2 (.inr rfl))) ha (.inl rfl), v, hq b2 _ (.inr (ones_two.2 (.inl rfl))) hb (.inl rfl)⟩
  · rintro _ k D W W' ⟨rfl, hb⟩ hsz hq
    exact ⟨rfl, hq b2 _ (.inr (ones_two.2 (.inl rfl))) hb (.inl rfl)⟩
  · rintro k p D W hp ⟨rfl, ha, v, hb⟩ hM
    have hkl : k < xs.length := (List.getElem?_eq_some_iff.1 hp).1
    have h0W := (hM.old (heap_lt h0) (nd b (by omega))).trans h0
    have h1W := (hM.old (heap_lt h1) (nd b1 (by omega))).trans h1
    have hcW : CellsAt W a (xs.flatMap encPc) := hc.mid e05 hM.fr (fun q hq => nd q (by omega))
    have rd : ∀ {j : Nat} {v : Value} {K : Nat → Nat → Prop}, j < 2 → (encPc p)[j]? = some v → (∀ b o, W.cell? ⟨b, o + k * 2 + j, none⟩ = some v → K b o) → ptrE a K := fun hj hv hK => hcW.fld (s := 2) (by rw [enc_at hp hj]; exact hv) hK
    refine ⟨_, box_cell ha, _, box_cell h1W, bcase_mk (fun _ => ⟨rfl, box_old hb, box_free hb, fun w6 hs6 => ⟨_, Step.stored hs6 (ones_two.2 (.inl rfl)) hM.lt, rfl, hs6.box hb⟩⟩) (fun _ => ?_)⟩
    refine ⟨_, box_cell ha, _, _, _, box_cell h0W, bcase_mk (fun h => by have := of_decide_eq_true h; omega) (fun _ => ?_)⟩
    refine ⟨_, _, _, box_cell h0W, _, box_cell ha, k, rfl, hkl, rd (j := 0) (by decide) rfl fun _ _ hh => ⟨_, hh, bcase_mk (fun h => by simp at h) (fun _ => ?_)⟩⟩
    refine ⟨_, _, _, box_cell h0W, _, box_cell ha, k, rfl, hkl, rd (j := 1) (by decide) rfl fun _ _ hh => ⟨_, hh, bcase_mk (fun h => by rw [str_eq] at h; simp at h) (fun _ => ?_)⟩⟩
    refine ⟨_, box_cell ha, inr_i64 (by omega) (by omega), rfl, box_old ha, box_free ha, fun w6 hs6 => ⟨_, Step.stored hs6 (ones_two.2 (.inr rfl)) hM.lt, rfl, ?_, v, (hs6.other n23).trans hb⟩⟩
    have := hs6.box ha
    simpa using this
  · rintro D W ⟨rfl, ha, v, hb⟩ hM
    rw [lenX_eq] at ha
    have h0W := (hM.old (heap_lt h0) (nd b (by omega))).trans h0
    refine ⟨_, box_cell ha, _, _, _, box_cell h0W, rfl, box_old hb, box_free hb, fun w6 hs6 => ⟨_, box_cell (hs6.box hb), fun w7 ht => ⟨(), by simp, ?_⟩⟩⟩
    have eW : Ext w W := hM.ext e05 (fun q hq => by rcases ones_two.1 hq with h | h <;> omega)
    exact (eW.stored hs6 (by show _ ≤ b2; omega)).turn ht
  · rintro D W ⟨rfl, hb⟩ hM
    refine ⟨_, box_cell hb, fun w7 ht => ⟨(), rfl, ?_⟩⟩
    have eW : Ext w W := hM.ext e05 (fun q hq => by rcases ones_two.1 hq with h | h <;> omega)
    exact eW.turn ht

theorem sameD_ok : (sSame .i8).Ok Tryd.prog 21 := by
  refine sameD_vc trivial ?_
  rintro ⟨⟨aa, ac, xs⟩, ⟨ba, bc, ys⟩⟩ w ⟨⟨ha, hal⟩, ⟨hb, hbl⟩⟩
  dsimp only at ha hal hb hbl ⊢
  rw [bne_nat]
  refine bcase_mk (fun h => ⟨false, rfl, ?_, Ext.refl _⟩) (fun h => ?_)
  · have hne : xs.length ≠ ys.length := by simpa using h
    symm; simp only [decide_eq_false_iff_not]; intro e; exact hne (by rw [e])
  have hlen : xs.length = ys.length := by simpa using h
  refine ⟨⟨0, rfl, Nat.zero_le _, rfl, Ext.refl _⟩, ?_⟩
  rintro _ i w1 ⟨hi, ht, hw1⟩
  refine bcase_mk (fun h => ?_) (fun h => ?_)
  · have hi1 : i < xs.length := by simpa using h
    intro w2 hd
    refine ⟨i, rfl, hi1, (ha.ext hw1).int hi1 fun b o hb1 => ⟨_, hb1, i, rfl, by omega, (hb.ext hw1).int (by omega) fun b2 o2 hb2 => ⟨_, hb2, ?_⟩⟩⟩
    refine bcase_mk (fun h => ⟨false, rfl, ?_, Ext.trans hw1 hd.ext⟩) (fun h => ⟨inr_i64 (by omega) (by omega), i + 1, by simp, ⟨hi1, ?_, Ext.trans hw1 hd.ext⟩, by omega⟩)
    · have hne : xs.getD i 0 ≠ ys.getD i 0 := by simpa using h
      symm; simp only [decide_eq_false_iff_not]; intro e; exact hne (by rw [e])
    · have he : xs.getD i 0 = ys.getD i 0 := by simpa using h
      exact take_eq_step hi1 (by omega) ht he
  · have hi1 : i = xs.length := by simp only [decide_eq_false_iff_not] at h; omega
    subst hi1
    refine ⟨true, rfl, ?_, hw1⟩
    rw [List.take_length, hlen, List.take_length] at ht
    symm; simpa using ht

theorem wk_lines : lnL ⟨#[97, 10, 98]⟩ = [(0, ⟨#[97, 10]⟩), (2, ⟨#[98]⟩)] := by decide +kernel
theorem wk_one : whereL ⟨#[97, 32, 98]⟩ = [0, 1, 0] := by decide +kernel
theorem wk_two : whereL ⟨#[97, 10]⟩ = [0, 2] := by decide +kernel

set_option maxHeartbeats 1000000 in
theorem wakes_ok : (sYes U8).Ok Tryd.prog 22 := by
  refine wakes_vc ⟨where_ok, lines_ok, trivial⟩ ?_
  rintro _ w hU
  refine ⟨_, rfl, ⟨hU, by decide⟩, ?_⟩
  rintro ⟨a1, n1, c1⟩ w1 ⟨hn1, hm1⟩
  dsimp only at hn1 hm1 ⊢
  rw [wk_one] at hn1 hm1
  replace hn1 : n1 = 3 := hn1
  subst hn1
  have e1 := hm1.ext
  refine ⟨_, rfl, ⟨hU.ext e1, by decide⟩, ?_⟩
  rintro ⟨a2, n2, c2⟩ w2 ⟨hn2, hm2⟩
  dsimp only at hn2 hm2 ⊢
  rw [wk_two] at hn2 hm2
  replace hn2 : n2 = 2 := hn2
  subst hn2
  have e2 := e1.trans hm2.ext
  refine ⟨⟨#[97, 10, 98]⟩, rfl, trivial, ?_⟩
  rintro x w3 ⟨hx, hxs, e23⟩
  have e3 := e2.trans e23
  refine bcase_mk (fun h => absurd h (by decide)) (fun _ => ?_)
  intro b4 w4 hn4
  obtain ⟨o4, f4, s4⟩ := new_box hn4
  refine ⟨rfl, o4, f4, fun w5 hs5 => ?_⟩
  obtain ⟨e35, hb5, hz4, hw5z⟩ := s4 hs5
  intro b5 w6 hn6
  obtain ⟨o6, f6, s6⟩ := new_box hn6
  refine ⟨rfl, o6, f6, fun w7 hs7 => ?_⟩
  obtain ⟨e57, hb7, hz6, hw7z⟩ := s6 hs7
  have e37 := e35.trans e57
  have e7 := e3.trans e37
  have hU7 := hU.ext e7
  have hx7 := e37.heap hxs
  have hxl := heap_lt hxs
  have hUl := hU.lt
  have z3 := e3.size
  have z2 := e2.size
  dsimp only [ptrB]
  have n45 : b4 ≠ b5 := by omega
  have nd : ∀ q, q < b4 → ¬ ones [b4, b5] q := fun q hq h => (ones_two.1 h).elim (fun e => by omega) (fun e => by omega)
  have hc1 := hm1.row.cells.ext (hm2.ext.trans (e23.trans e37))
  have hc2 := hm2.row.cells.ext (e23.trans e37)
  have hlt1 : ∀ q, blk a1 = some q → q < b4 := fun q hq => by have := hm1.row.lt hq; have := hm2.ext.size; have := e23.size; omega
  have hlt2 : ∀ q, blk a2 = some q → q < b4 := fun q hq => by have := hm2.row.lt hq; have := e23.size; omega
  refine ⟨lnL ⟨#[97, 10, 98]⟩, cC x, ones [b4, b5], ln_iter hx7 hU7 (by decide), ⟨?_, ?_⟩, ⟨rfl, e57.heap hb5, hb7⟩, ?_, ?_, ?_, ?_, trivial⟩
  · intro q hq; rcases ones_two.1 hq with rfl | rfl <;> omega
  · intro q hq
    refine ⟨cC_lt (heap_lt hx7) hU7 q hq, nd q ?_⟩
    rcases hq with rfl | rfl | rfl <;> omega
  · rintro k D W W' ⟨rfl, ha, hb⟩ hsz hq
    exact ⟨rfl, hq b4 _ (.inr (ones_two.2 (.inl rfl))) ha (.inl rfl), hq b5 _ (.inr (ones_two.2 (.inr rfl))) hb (.inl rfl)⟩
  · rintro _ k D W W' h hsz hq
    exact h
  · rintro k p D W hp ⟨rfl, ha, hb⟩ hM
    rw [wk_lines] at hp
    have hk : (k = 0 ∧ p = (0, ⟨#[97, 10]⟩)) ∨ (k = 1 ∧ p = (2, ⟨#[98]⟩)) := by
      match k, hp with
      | 0, hp => simp at hp; exact .inl ⟨rfl, hp.symm⟩
      | 1, hp => simp at hp; exact .inr ⟨rfl, hp.symm⟩
      | k + 2, hp => simp at hp
    have hv : wkN k + 1 + (p.1 : Int) = wkN (k + 1) ∧ p.2 = wkS (k + 1) ∧ 0 ≤ wkN k ∧ wkN k ≤ 4 ∧ p.1 ≤ 2 := by
      rcases hk with ⟨rfl, rfl⟩ | ⟨rfl, rfl⟩ <;> decide
    refine ⟨_, box_cell ha, inr_i64 (by omega) (by omega), inr_i64 (by omega) (by omega), rfl, box_old ha, box_free ha, fun w8 hs8 => ?_⟩
    have hb8 := (hs8.other n45.symm).trans hb
    have ha8 := hs8.box ha
    refine ⟨rfl, box_old hb8, box_free hb8, fun w9 hs9 => ⟨_, (Step.stored hs8 (ones_two.2 (.inl rfl)) hM.lt).trans (Step.stored hs9 (ones_two.2 (.inr rfl)) (fun q hq => by rw [hs8.size]; exact hM.lt q hq)), rfl, ?_, ?_⟩⟩
    · rw [hv.1] at ha8; exact (hs9.other n45).trans ha8
    · have := hs9.box hb8; rw [hv.2.1] at this; exact this
  · rintro D W ⟨rfl, ha, hb⟩ hM
    rw [lenX_eq, wk_lines] at ha hb
    have eW : Ext w W := hM.ext e7 (fun q hq => by rcases ones_two.1 hq with h | h <;> omega)
    have keep : ∀ {a : Option Addr} {vs : List Value}, CellsAt w7 a vs → (∀ q, blk a = some q → q < b4) → CellsAt W a vs := fun h hl => h.fr hM.fr (fun q hq => nd q (hl q hq))
    have k1 := keep hc1 hlt1
    have k2 := keep hc2 hlt2
    refine ⟨0, rfl, by omega, k1.ptr (i := 0) rfl fun _ _ h => ⟨_, h, bcase_mk (fun _ => ?_) (fun h => absurd h (by decide))⟩⟩
    refine ⟨1, rfl, by omega, k1.ptr (i := 1) rfl fun _ _ h => ⟨_, h, bcase_mk (fun _ => ?_) (fun h => absurd h (by decide))⟩⟩
    refine ⟨2, rfl, by omega, k1.ptr (i := 2) rfl fun _ _ h => ⟨_, h, bcase_mk (fun _ => ?_) (fun h => absurd h (by decide))⟩⟩
    refine ⟨0, rfl, by omega, k2.ptr (i := 0) rfl fun _ _ h => ⟨_, h, bcase_mk (fun _ => ?_) (fun h => absurd h (by decide))⟩⟩
    refine ⟨1, rfl, by omega, k2.ptr (i := 1) rfl fun _ _ h => ⟨_, h, bcase_mk (fun _ => ?_) (fun h => absurd h (by decide))⟩⟩
    refine ⟨_, box_cell ha, bcase_mk (fun _ => ⟨_, box_cell hb, fun w8 ht => ⟨(), congrArg Value.bool (by decide +kernel), eW.turn ht⟩⟩) (fun h => absurd h (by decide))⟩

set_option maxHeartbeats 1000000 in
set_option maxRecDepth 10000 in
theorem lawWh_ok : sLawS.Ok Tryd.prog 3 := by
  refine lawWh_vc ⟨rwhere_ok, where_ok, sameD_ok, wakes_ok, trivial⟩ ?_
  rintro s w ⟨hU, hs⟩
  have hncl := ncl_le s
  have hwl := where_len s
  refine ⟨s, rfl, ⟨hU, by omega⟩, ?_⟩
  rintro ⟨wa, wn, wc⟩ w1 ⟨hn1, hm1⟩
  dsimp only at hn1 hm1 ⊢
  rw [hwl] at hn1
  subst hn1
  have e1 := hm1.ext
  refine ⟨s, rfl, ⟨hU.ext e1, by omega⟩, ?_⟩
  rintro ⟨aa, an, ac⟩ w2 ⟨hn2, hm2⟩
  dsimp only at hn2 hm2 ⊢
  rw [hwl] at hn2
  subst hn2
  have e2 := e1.trans hm2.ext
  refine ⟨s, rfl, ⟨hU.ext e2, by omega⟩, ?_⟩
  rintro ⟨ba, bn, bc⟩ w3 ⟨hn3, hm3⟩
  dsimp only at hn3 hm3 ⊢
  rw [hwl] at hn3
  subst hn3
  have e3 := e2.trans hm3.ext
  have hcw := hm1.row.cells.ext (hm2.ext.trans hm3.ext)
  have hca := hm2.row.cells.ext hm3.ext
  refine ⟨⟨⟨aa, ac, whereL s⟩, ⟨wa, wc, whereL s⟩⟩, by dsimp only; rw [hwl], ⟨⟨hca, by dsimp only; omega⟩, ⟨hcw, by dsimp only; omega⟩⟩, ?_⟩
  rintro x4 w4 ⟨hx4, e34⟩
  refine bcase_mk (fun h => by rw [hx4] at h; simp at h) (fun _ => ?_)
  have e4 := e3.trans e34
  refine ⟨⟨⟨ba, bc, whereL s⟩, ⟨wa, wc, whereL s⟩⟩, by dsimp only; rw [hwl], ⟨⟨hm3.row.cells.ext e34, by dsimp only; omega⟩, ⟨hcw.ext e34, by dsimp only; omega⟩⟩, ?_⟩
  rintro x5 w5 ⟨hx5, e45⟩
  refine bcase_mk (fun h => by rw [hx5] at h; simp at h) (fun _ => ?_)
  have e5 := e4.trans e45
  have e35 := e34.trans e45
  have hra := hm2.row.ext (hm3.ext.trans e35)
  have hcw5 := hcw.ext e35
  have hcb5 := hm3.row.cells.ext e35
  have hlw : ∀ q, blk wa = some q → ¬ blk aa = some q := fun q hq hqa => by have := hm1.row.lt hq; have := hm2.new q hqa; omega
  have hlb : ∀ q, blk ba = some q → ¬ blk aa = some q := fun q hq hqa => by have := hm3.new q hq; have := hm2.row.lt hqa; omega
  have hna : ∀ q, blk aa = some q → w.heap.size ≤ q := fun q hq => by have := hm2.new q hq; have := e1.size; omega
  dsimp only [adS]
  refine ⟨⟨0, rfl, Nat.zero_le _, Fr.refl _ _, aa, ac, _, rfl, hra⟩, ?_⟩
  rintro _ i w6 ⟨hi, hf6, a', c', vs, heq, hr6⟩
  cases heq
  refine bcase_mk (fun h => ?_) (fun h => ?_)
  · have hlt : i < ncl s := by have := of_decide_eq_true h; omega
    refine ⟨i, rfl, hlt, hr6.wr hlt fun g hg => ?_⟩
    subst hg
    obtain ⟨ho, hfz⟩ := hr6.at_store hlt
    refine ⟨rfl, ho, hfz, fun w7 hs7 => ⟨inr_i64 (by omega) (by omega), i + 1, by simp, ⟨hlt, hf6.trans (Fr.stored hs7) (fun q _ hq => by rw [hq]; rfl), _, _, _, rfl, hr6.store hs7⟩, by omega⟩⟩
  · refine ⟨⟨⟨0, aa, ac⟩, rfl, rfl, Nat.zero_le _, Fr.refl _ _, ⟨_, hr6⟩, fun q hq => .inl hq⟩, ?_⟩
    rintro _ ⟨j, a7, c7⟩ w7 ⟨hj, hf7, ⟨us, hr7⟩, hnew⟩
    dsimp only at hj hf7 hr7 hnew ⊢
    have hf57 := hf6.trans hf7 (fun _ _ h => h)
    refine bcase_mk (fun h => ?_) (fun h => ?_)
    · have h := of_decide_eq_true h
      intro b w8 hn
      obtain ⟨a8, c8, w9, hrun, hko, hr9, hg9, hor, _⟩ := hr7.pushN (P := Tryd.prog) (ty := 22) elemI8 (by decide) (m := 1) (news := [.int .i8 78]) hn rfl (by simp [Value.oneCell']) (by unfold maxLen; omega) (.inr (by omega))
      refine ⟨a8, c8, w9, hrun, hko, inr_i64 (by omega) (by omega), ⟨j + 1, a8, c8⟩, by simp, rfl, ⟨by dsimp only; omega, ?_, ⟨_, hr9⟩, ?_⟩, by dsimp only; omega⟩
      · refine (hf7.trans (Fr.of_ext (S := fun _ => False) hn.ext) (fun _ _ h => h.elim)).trans (Fr.grown hg9) (fun q hq hh => ?_)
        rcases hnew q hh with h1 | h1
        · exact h1
        · omega
      · intro q hq
        dsimp only at hq
        rcases hor with rfl | ⟨rfl, _⟩
        · exact hnew q hq
        · right
          simp [blk] at hq
          have := hf7.size
          have := hn.ext.size
          omega
    · have hj30 : j = 30 := by have := of_decide_eq_false h; omega
      subst hj30
      refine ⟨⟨⟨ba, bc, whereL s⟩, ⟨wa, wc, whereL s⟩⟩, by dsimp only; rw [hwl], ⟨⟨hcb5.fr hf57 hlb, by dsimp only; omega⟩, ⟨hcw5.fr hf57 hlw, by dsimp only; omega⟩⟩, ?_⟩
      rintro x8 w8 ⟨hx8, e78⟩
      have e57 : Ext w w7 := Ext.fr_new e5 hf57 hna
      have e8 := e57.trans e78
      refine bcase_mk (fun _ => ?_) (fun h => by rw [hx8] at h; simp at h)
      refine ⟨inr_i64 (by omega) (by omega), bcase_mk (fun _ => ?_) (fun h => by simp at h)⟩
      refine ⟨(), rfl, hU.ext e8, ?_⟩
      rintro _ w9 e9
      exact yes_ext (e8.trans e9)

set_option maxHeartbeats 2000000 in
set_option maxRecDepth 10000 in
theorem lawLn_ok : sLawSI.Ok Tryd.prog 4 := by
  refine lawLn_vc ⟨rlines_ok, lines_ok, goesL_ok, wakes_ok, trivial⟩ ?_
  rintro ⟨s, most⟩ w ⟨hU, hs, _, _⟩
  dsimp only at hU hs ⊢
  have hncl := ncl_le s
  have hll : (lnL s).length ≤ 3000000 := by rw [lnL_len]; have := lnS_len s (ncl s); omega
  intro b w1 hn1
  have z1 := hn1.size
  refine ⟨s, rfl, ⟨hU.ext hn1.ext, hs⟩, ?_⟩
  rintro ⟨la, ln, lc⟩ w2 ⟨hln, hml⟩
  dsimp only at hln hml ⊢
  subst hln
  have e2 := hn1.ext.trans hml.ext
  intro b1 w3 hn3
  obtain ⟨o3, f3, s3⟩ := new_box hn3
  refine ⟨rfl, o3, f3, fun w4 hs4 => ?_⟩
  obtain ⟨e24, hb4, hz3, hw4z⟩ := s3 hs4
  refine ⟨_, _, _, box_cell hb4, ?_⟩
  intro b2 w5 hn5
  obtain ⟨o5, f5, s5⟩ := new_box hn5
  refine ⟨rfl, o5, f5, fun w6 hs6 => ?_⟩
  generalize hmn : (if ((lnL s).length : Int) < if (0 : Int) > most then (0 : Int) else most then ((lnL s).length : Int) else if (0 : Int) > most then (0 : Int) else most) = mn at hs6
  obtain ⟨e46, hb6, hz5, hw6z⟩ := s5 hs6
  refine ⟨s, rfl, trivial, ?_⟩
  rintro x w7 ⟨hx, hxs, e67⟩
  intro b3 w8 hn8
  obtain ⟨o8, f8, s8⟩ := new_box hn8
  refine ⟨rfl, o8, f8, fun w9 hs9 => ?_⟩
  obtain ⟨e79, hb9, hz8, hw9z⟩ := s8 hs9
  have e49 := e46.trans (e67.trans e79)
  have e9 := (e2.trans e24).trans e49
  have h1 := e49.heap hb4
  have h2 := (e67.trans e79).heap hb6
  have hx9 := e79.heap hxs
  have hcl9 := hml.row.cells.ext (e24.trans e49)
  have hxl := heap_lt hxs
  have hUl := hU.lt
  have z2 := hml.ext.size
  have z4 := e24.size
  have z67 := e67.size
  have hlla : ∀ q, blk la = some q → q < w2.heap.size := fun q hq => hml.row.lt hq
  have okIt : ∀ {V : World}, V.heap[x]? = some (.cells #[.string s] 9) → U8 V → GIt.ok ⟨62, #[.pointer (some ⟨x, 0, none⟩)], lnL s, cC x⟩ V := fun hxv hUv => ⟨ln_iter hxv hUv hs, cC_lt (heap_lt hxv) hUv, by dsimp only; omega⟩
  refine ⟨_, _, box_cell hb9, _, _, _, box_cell h1, _, box_cell h2, ⟨⟨62, #[.pointer (some ⟨x, 0, none⟩)], lnL s, cC x⟩, lnL s, la, lc, mn⟩, rfl, ⟨okIt hx9 (hU.ext e9), hcl9, rfl⟩, ?_⟩
  rintro _ w10 e910
  have e10 := e9.trans e910
  refine ⟨_, _, box_cell (e910.heap hb9), _, _, _, box_cell (e910.heap h1), ⟨⟨62, #[.pointer (some ⟨x, 0, none⟩)], lnL s, cC x⟩, lnL s, la, lc, -1⟩, rfl, ⟨okIt (e910.heap hx9) (hU.ext e10), hcl9.ext e910, rfl⟩, ?_⟩
  rintro _ w11 e1011
  intro b4 w12 hn12
  obtain ⟨o12, f12, s12⟩ := new_box hn12
  refine ⟨rfl, o12, f12, fun w13 hs13 => ?_⟩
  obtain ⟨e1113, hb13, hz12, hw13z⟩ := s12 hs13
  have e913 := e910.trans (e1011.trans e1113)
  have e13 := e9.trans e913
  have hf13 := e913.heap hb9
  have h1' := e913.heap h1
  have h2' := e913.heap h2
  have hx13 := e913.heap hx9
  have hcl13 := hcl9.ext e913
  have hbv : w13.heap[b]? = some (.cells #[.bool false] 4) := (hml.ext.trans (e24.trans (e49.trans e913))).heap hn1.heap
  have z913 := e913.size
  have zz : w9.heap.size ≤ w11.heap.size := (e910.trans e1011).size
  dsimp only [ptrB]
  have nbb : b ≠ b4 := by omega
  have nd : ∀ q, q ≠ b → q < b4 → ¬ ones [b, b4] q := fun q h1 h2 h => (ones_two.1 h).elim h1 (fun e => by omega)
  have hbl : ∀ q, q < w.heap.size → q ≠ b := fun q hq => by omega
  refine ⟨_, _, box_cell hf13, lnL s, cC x, ones [b, b4], ln_iter hx13 (hU.ext e13) hs, ⟨?_, ?_⟩, ⟨rfl, hb13, _, hbv⟩, ?_, ?_, ?_, ?_, trivial⟩
  · intro q hq; rcases ones_two.1 hq with rfl | rfl
    · exact heap_lt hbv
    · exact heap_lt hb13
  · intro q hq
    refine ⟨cC_lt (heap_lt hx13) (hU.ext e13) q hq, ?_⟩
    rcases hq with rfl | rfl | rfl
    · exact nd _ (by omega) (by omega)
    · exact nd _ (hbl _ hUl.1) (by omega)
    · exact nd _ (hbl _ hUl.2) (by omega)
  · rintro k D W W' ⟨rfl, ha, v, hb⟩ hsz hq
    exact ⟨rfl, hq b4 _ (.inr (ones_two.2 (.inr rfl))) ha (.inl rfl), v, hq b _ (.inr (ones_two.2 (.inl rfl))) hb (.inl rfl)⟩
  · rintro _ k D W W' h hsz hq
    exact h
  · rintro k p D W hp ⟨rfl, ha, v, hb⟩ hM
    have hkl : k < (lnL s).length := (List.getElem?_eq_some_iff.1 hp).1
    have old : ∀ {q : Nat} {o : Obj}, w13.heap[q]? = some o → q ≠ b → q < b4 → W.heap[q]? = some o := fun h h1 h2 => (hM.old (heap_lt h) (nd _ h1 h2)).trans h
    have h1W := old h1' (by omega) (by omega)
    have h2W := old h2' (by omega) (by omega)
    have hfW := old hf13 (by omega) (by omega)
    have hxW := old hx13 (by omega) (by omega)
    have hUW : U8 W := (hU.ext e13).fr hM.fr (nd _ (hbl _ hUl.1) (by omega)) (nd _ (hbl _ hUl.2) (by omega))
    have hclW : CellsAt W la ((lnL s).flatMap encPc) := hcl13.fr hM.fr (fun q hq => nd q (fun e => by have := hml.new q hq; omega) (by have := hlla q hq; omega))
    have fin : ∀ {V : World}, Ext W V → ∃ (n7 : Int), V.cell? ⟨b4, 0, none⟩ = some (.int .i64 n7) ∧ ∃ (a22 : Option Addr) (n8 c4 : Nat), V.cell? ⟨b1, 0, none⟩ = some (.slice a22 n8 c4) ∧ bcase (decide (n7 ≥ (n8 : Int)))
        (true = true ∧ (∃ old, V.cell? ⟨b, 0, none⟩ = some old) ∧ V.frozen? ⟨b, 0, none⟩ = false ∧ ∀ V2, Stored V ⟨b, 0, none⟩ (.bool false) V2 → False)
        (∃ (a23 : Option Addr) (n9 c5 : Nat), V.cell? ⟨b1, 0, none⟩ = some (.slice a23 n9 c5) ∧ ∃ (n10 : Int), V.cell? ⟨b4, 0, none⟩ = some (.int .i64 n10) ∧ ∃ (k1 : Nat), n10 = (k1 : Int) ∧ k1 < n9 ∧ ptrE a23 fun b5 o => ∃ (n11 : Int), V.cell? ⟨b5, o + k1 * 2, none⟩ = some (.int .i64 n11) ∧
          bcase (n11 != (p.1 : Int)) (true = true ∧ (∃ old, V.cell? ⟨b, 0, none⟩ = some old) ∧ V.frozen? ⟨b, 0, none⟩ = false ∧ ∀ V2, Stored V ⟨b, 0, none⟩ (.bool false) V2 → False)
          (∃ (a24 : Option Addr) (n12 c6 : Nat), V.cell? ⟨b1, 0, none⟩ = some (.slice a24 n12 c6) ∧ ∃ (n13 : Int), V.cell? ⟨b4, 0, none⟩ = some (.int .i64 n13) ∧ ∃ (k2 : Nat), n13 = (k2 : Int) ∧ k2 < n12 ∧ ptrE a24 fun b6 o1 => ∃ (s1 : ByteArray), V.cell? ⟨b6, o1 + k2 * 2 + 1, none⟩ = some (.string s1) ∧
            bcase (!s1.toList == p.2.toList) (true = true ∧ (∃ old, V.cell? ⟨b, 0, none⟩ = some old) ∧ V.frozen? ⟨b, 0, none⟩ = false ∧ ∀ V2, Stored V ⟨b, 0, none⟩ (.bool false) V2 → False)
            (∃ (n14 : Int), V.cell? ⟨b4, 0, none⟩ = some (.int .i64 n14) ∧ InR .i64 (n14 + 1) ∧ true = true ∧ (∃ old, V.cell? ⟨b4, 0, none⟩ = some old) ∧ V.frozen? ⟨b4, 0, none⟩ = false ∧ ∀ V2, Stored V ⟨b4, 0, none⟩ (.int .i64 (n14 + 1)) V2 →
              ∃ D' : Nat → Prop, Step (ones [b, b4]) W V2 D' ∧ D' = ones [b, b4] ∧ V2.heap[b4]? = some (.cells #[.int .i64 ((k + 1 : Nat) : Int)] 3) ∧ ∃ v, V2.heap[b]? = some (.cells #[.bool v] 4)))) := by
      intro V eV
      have ha' := eV.heap ha
      have hb' := eV.heap hb
      have h1V := eV.heap h1W
      have rd : ∀ {j : Nat} {v : Value} {K : Nat → Nat → Prop}, j < 2 → (encPc p)[j]? = some v → (∀ b o, V.cell? ⟨b, o + k * 2 + j, none⟩ = some v → K b o) → ptrE la K := fun hj hv hK => (hclW.ext eV).fld (s := 2) (by rw [enc_at hp hj]; exact hv) hK
      refine ⟨_, box_cell ha', _, _, _, box_cell h1V, bcase_mk (fun h => by have := of_decide_eq_true h; omega) (fun _ => ?_)⟩
      refine ⟨_, _, _, box_cell h1V, _, box_cell ha', k, rfl, hkl, rd (j := 0) (by decide) rfl fun _ _ hh => ⟨_, hh, bcase_mk (fun h => by simp at h) (fun _ => ?_)⟩⟩
      refine ⟨_, _, _, box_cell h1V, _, box_cell ha', k, rfl, hkl, rd (j := 1) (by decide) rfl fun _ _ hh => ⟨_, hh, bcase_mk (fun h => by rw [str_eq] at h; simp at h) (fun _ => ?_)⟩⟩
      refine ⟨_, box_cell ha', inr_i64 (by omega) (by omega), rfl, box_old ha', box_free ha', fun V2 hsV => ⟨_, (Step.ext eV hM.lt).trans (Step.stored hsV (ones_two.2 (.inr rfl)) (fun q hq => Nat.lt_of_lt_of_le (hM.lt q hq) eV.size)), rfl, ?_, v, (hsV.other nbb).trans hb'⟩⟩
      have := hsV.box ha'
      simpa using this
    refine ⟨_, box_cell ha, _, box_cell h2W, bcase_mk (fun _ => ?_) (fun _ => fin (Ext.refl _))⟩
    refine ⟨_, _, box_cell hfW, _, _, _, box_cell h1W, ⟨⟨62, #[.pointer (some ⟨x, 0, none⟩)], lnL s, cC x⟩, lnL s, la, lc, -1⟩, rfl, ⟨okIt hxW hUW, hclW, rfl⟩, ?_⟩
    rintro _ V eV
    exact fin eV
  · rintro D W ⟨rfl, ha, v, hb⟩ hM
    rw [lenX_eq] at ha
    have h1W := (hM.old (heap_lt h1') (nd _ (by omega) (by omega))).trans h1'
    have eW : Ext w W := hM.ext e13 (fun q hq => by rcases ones_two.1 hq with h | h <;> omega)
    refine ⟨_, box_cell ha, _, _, _, box_cell h1W, bcase_mk (fun _ => ?_) (fun h => by simp at h)⟩
    refine ⟨(), rfl, hU.ext eW, ?_⟩
    rintro _ V eV
    have hbV := eV.heap hb
    refine ⟨rfl, box_old hbV, box_free hbV, fun V2 hsV => ⟨_, box_cell (hsV.box hbV), fun V3 ht => ⟨(), rfl, ?_⟩⟩⟩
    exact ((eW.trans eV).stored hsV (by show _ ≤ b; omega)).turn ht

end Go.Proofs.YthpjkgoahneldaaDoor
end

section
/-
  Chapter 13: the laws BreaksLocal, BreaksWhole.
-/
namespace Go.Proofs.YthpjkgoahneldaaDoor
open Go Go.RowKit Vc Ut Tb Cl Orb

theorem elemStr : ElemOk Tryd.prog 37 9 1 16 := elemOk_mk (.string ⟨#[]⟩) (by kernel_rfl) (by kernel_rfl) rfl
theorem parts_ok : sParts.Ok Tryd.prog 26 := by
  refine parts_vc ⟨call_ok, trivial⟩ ?_
  rintro s w ⟨hU, hsm⟩
  have hncl := ncl_le s
  have hut := hU.lt
  have hpl := pc_len s
  refine ⟨s, rfl, trivial, ?_⟩
  rintro x w1 ⟨hx, hxs, e1⟩ b w2 hn2
  have hb1 := hn2.size
  have e02 := e1.trans hn2.ext
  have hU2 := hU.ext e02
  have hxs2 := hn2.ext.heap hxs
  have hxl := heap_lt hxs
  have z1 := e1.size
  dsimp only [ptrB]
  have h41 : (37 : TypeId) ≠ 9 := by decide
  refine ⟨pcL s, cC x, (fun q => q = b ∨ blk none = some q), pc_iter hxs2 hU2 hsm, ⟨?_, ?_⟩, ⟨none, 0, rfl, (⟨hn2.heap, Row.nil _ _ _⟩ : Grow w2 b _ _ none 0 [])⟩, ?_, ?_, ?_, ?_, trivial⟩
  · rintro q (rfl | h)
    · exact heap_lt hn2.heap
    · cases h
  · intro q hq
    refine ⟨cC_lt (heap_lt hxs2) hU2 q hq, ?_⟩
    rintro (h | h)
    · rcases hq with h' | h' | h' <;> omega
    · cases h
  · rintro k D W W' ⟨a, c, rfl, hg⟩ hsz hq
    exact ⟨a, c, rfl, hg.keep fun q hq' => hg.kept hq' (hq q · (.inr hq'))⟩
  · rintro _ k D W W' h hsz hq
    exact h
  · rintro k p D W hp ⟨a, c, rfl, hg⟩ hM
    have hkl : k < (pcL s).length := (List.getElem?_eq_some_iff.1 hp).1
    have hln : (((pcL s).take k).map strV).length ≤ ncl s := by simp; omega
    refine ⟨a, _, c, box_cell hg.hb, fun b1 w4 hn4 => ?_⟩
    obtain ⟨a', c', w5, hr, hko, ho, hfz, hpost⟩ := hg.push (P := Tryd.prog) (tt := 37) (ty := 37) elemStr h41 hn4 rfl (by unfold maxLen; omega) (by omega)
    refine ⟨a', c', w5, hr, hko, rfl, ho, hfz, fun w6 hs6 => ?_⟩
    obtain ⟨hg6, hfr, hnew⟩ := hpost hs6
    refine ⟨_, ⟨hfr, ?_⟩, a', c', rfl, ?_⟩
    · rintro q (rfl | hq)
      · exact ⟨heap_lt hg6.hb, .inl (.inl rfl)⟩
      · exact ⟨hg6.row.lt hq, (hnew q hq).elim (fun h => .inl (.inr h)) .inr⟩
    · rw [take_snoc (f := strV) hp]; exact hg6
  · rintro D W ⟨a, c, rfl, hg⟩ hM
    rw [lenX_eq, List.take_length] at hg
    have hl : ((pcL s).map strV).length = ncl s := by rw [List.length_map, hpl]
    have hb := hg.hb
    have hrow := hg.row
    rw [hl] at hb hrow
    refine ⟨a, _, c, box_cell hb, fun w3 ht => ⟨(a, ncl s, c), rfl, rfl, ?_⟩⟩
    have eW : Ext w W := hM.ext e02 (fun q hq => by rcases hq with rfl | h; omega; cases h)
    refine ⟨hrow.turn ht, fun q hq => ?_, Ext.turn eW ht⟩
    have := (hM.dom q (.inr hq)).2
    have hs2 := e02.size
    rcases this with (h | h) | h
    · omega
    · cases h
    · omega

theorem piece_snoc {s : ByteArray} {f i : Nat} (h : f ≤ i) : pieceS s f i ++ (pcP s i).2 = pieceS s f (i + 1) := by
  unfold pieceS pcP
  have h1 := bp_mono s h
  have h2 := bp_mono s (show i ≤ i + 1 by omega)
  show s.extract (bp s f) (bp s i) ++ s.extract (bp s i) (bp s (i + 1)) = _
  rw [ByteArray.extract_append_extract, Nat.min_eq_left h1, Nat.max_eq_right h2]

set_option maxHeartbeats 2000000 in
set_option maxRecDepth 10000 in
theorem lawLoc_ok : sLawSI.Ok Tryd.prog 5 := by
  refine lawLoc_vc ⟨where_ok, parts_ok, kindL_ok, wakes_ok, trivial⟩ ?_
  rintro ⟨s, wh⟩ w ⟨hU, hs, hw1, hw2⟩
  dsimp only at hU hs hw1 hw2 ⊢
  have hncl := ncl_le s
  have hpl := pc_len s
  have hwl := where_len s
  have psz : ∀ {j : Nat}, (pcP s j).2.size ≤ 1048576 := fun {j} => by
    have := pc_sz (s := s) (i := j); have := bp_le s (j + 1); omega
  refine ⟨s, rfl, ⟨hU, by omega⟩, ?_⟩
  rintro ⟨wa, wn, wc⟩ w1 ⟨hwn, hmw⟩
  dsimp only at hwn hmw ⊢
  rw [hwl] at hwn
  subst hwn
  have e1 := hmw.ext
  refine ⟨s, rfl, ⟨hU.ext e1, by omega⟩, ?_⟩
  rintro ⟨la, ln, lc⟩ w2 ⟨hln, hml⟩
  dsimp only at hln hml ⊢
  subst hln
  have e2 := e1.trans hml.ext
  have hcw := hmw.row.cells.ext hml.ext
  have hcl := hml.row.cells
  have rdW : ∀ {V : World} {i : Nat} {K : Nat → Nat → Prop}, Ext w2 V → i < ncl s → (∀ b o, V.cell? ⟨b, o + i, none⟩ = some (.int .i8 (whereI s i)) → K b o) → ptrE wa K := fun e hi hK => (hcw.ext e).ptr (by rw [List.getElem?_map, where_at hi]; rfl) hK
  have rdL : ∀ {V : World} {i : Nat} {K : Nat → Nat → Prop}, Ext w2 V → i < ncl s → (∀ b o, V.cell? ⟨b, o + i, none⟩ = some (.string (pcP s i).2) → K b o) → ptrE la K := fun e hi hK => (hcl.ext e).ptr (by rw [List.getElem?_map, pc_get hi]; rfl) hK
  refine bcase_mk (fun h => by simp at h) (fun _ => ⟨⟨0, rfl, Nat.zero_le _, Ext.refl _⟩, ?_⟩)
  rintro _ i w3 ⟨hi, e23⟩
  have e3 := e2.trans e23
  refine bcase_mk (fun h => ?_) (fun _ => ?_)
  · have hlt : i < ncl s := by have := of_decide_eq_true h; omega
    have hbd := whereI_bd s i
    intro w4 hd
    have e24 := e23.trans hd.ext
    refine ⟨i, rfl, hlt, rdW e23 hlt fun _ _ h => ⟨_, h, bcase_mk (fun h => by have := of_decide_eq_true h; omega) (fun _ => ?_)⟩⟩
    refine ⟨i, rfl, hlt, rdW e23 hlt fun _ _ h => ⟨_, h, bcase_mk (fun h => by have := of_decide_eq_true h; omega) (fun _ => ?_)⟩⟩
    refine ⟨i, rfl, hlt, rdW e23 hlt fun _ _ h => ⟨_, h, i, rfl, hlt, rdL e23 hlt fun _ _ h2 => ⟨_, h2, _, rfl, ⟨hU.ext (e2.trans e24), by have := psz (j := i); omega⟩, ?_⟩⟩⟩
    rintro v w5 ⟨hv, e45⟩
    have hv : v = kc s i := hv
    subst hv
    refine ⟨e45, bcase_mk (fun h => ?_) (fun _ => ⟨inr_i64 (by omega) (by omega), i + 1, by simp, ⟨hlt, e24.trans e45⟩, by omega⟩)⟩
    exfalso
    have := whereI_must (s := s) (i := i)
    have hx : (whereI s i == 2) = (kc s i == 2) := by
      rw [Bool.eq_iff_iff]; simpa using this
    rw [hx] at h
    simp at h
  · refine bcase_mk (fun h => ⟨(), rfl, hU.ext e3, fun _ w4 e4 => yes_ext (e3.trans e4)⟩) (fun h => ?_)
    have hn0 : ncl s ≠ 0 := by intro e; rw [e] at h; simp at h
    have hm1 := Int.tmod_lt_of_pos wh (b := (ncl s : Int)) (by omega)
    have hm2 := Int.lt_tmod_of_pos wh (b := (ncl s : Int)) (by omega)
    refine ⟨by omega, ⟨bcase_mk (fun h => ?_) (fun h => ?_), ?_⟩⟩
    · have h := of_decide_eq_true h
      exact ⟨inr_i64 (by omega) (by omega), (wh.tmod (ncl s : Int) + (ncl s : Int)).toNat, by congr 1; omega, by omega, Ext.refl _⟩
    · have h := of_decide_eq_false h
      exact ⟨(wh.tmod (ncl s : Int)).toNat, by congr 1; omega, by omega, Ext.refl _⟩
    rintro _ k w4 ⟨hk, e34⟩
    have e24 := e23.trans e34
    refine ⟨⟨⟨k, rfl, Int.le_refl _, fun j h1 h2 => by omega, Ext.refl _⟩, ?_⟩, ?_⟩
    · rintro _ f w5 ⟨hf, hsp, e45⟩
      refine bcase_mk (fun h => ?_) (fun h => ⟨f, rfl, hf, hsp, .inl (by have := of_decide_eq_false h; omega), e45⟩)
      have hf0 := of_decide_eq_true h
      refine ⟨f, rfl, by omega, rdL (e24.trans e45) (by omega) fun _ _ h => ⟨_, h, _, rfl, ⟨hU.ext (e2.trans (e24.trans e45)), by have := psz (j := f); omega⟩, ?_⟩⟩
      rintro v w6 ⟨hv, e56⟩
      have hv : v = kc s f := hv
      subst hv
      refine bcase_mk (fun h => ?_) (fun h => ⟨f, rfl, hf, hsp, .inr (by simpa using h), e45.trans e56⟩)
      have h : kc s f = 1 := by simpa using h
      refine ⟨inr_i64 (by omega) (by omega), f - 1, by congr 1; omega, ⟨by omega, fun j h1 h2 => ?_, e45.trans e56⟩, by omega⟩
      rcases Nat.lt_or_ge f j with hl | hl
      · exact hsp j hl h2
      · have : j = f := by omega
        subst this; exact h
    rintro _ f w5 ⟨hf, hsp, hso, e45⟩
    have e25 := e24.trans e45
    have hfk : f ≤ k := by omega
    simp only [Int.toNat_natCast]
    have hme : minE s k ≤ ncl s ∧ k < minE s k ∧ minE s k ≤ k + 2 ∧ (minE s k = ncl s ∨ minE s k = k + 2) := by unfold minE; split <;> omega
    have hnil : ByteArray.mk #[] = pieceS s f f := by unfold pieceS; apply ByteArray.ext; simp [ByteArray.data_extract]
    refine ⟨⟨⟨f, rfl, by rw [hnil], Nat.le_refl _, by omega, Ext.refl _⟩, ?_⟩, ?_⟩
    · rintro _ i2 w6 ⟨hi1, hi2, e56⟩
      have done : i2 = minE s k → ∃ (_ : Unit), Value.string (pieceS s f i2) = Value.string (pieceS s f (minE s k)) ∧ Ext w5 w6 := fun h => ⟨(), by rw [h], e56⟩
      refine bcase_mk (fun h => ?_) (fun h => done (by have := of_decide_eq_false h; omega))
      have hlt := of_decide_eq_true h
      refine ⟨inr_i64 (by omega) (by omega), bcase_mk (fun h => ?_) (fun h => done (by have := of_decide_eq_false h; omega))⟩
      have hle := of_decide_eq_true h
      have hi2n : i2 < ncl s := by omega
      refine ⟨i2, rfl, hi2n, rdL (e25.trans e56) hi2n fun _ _ h => ⟨_, h, ?_, inr_i64 (by omega) (by omega), i2 + 1, by simp, by rw [piece_snoc hi1], ⟨by omega, by omega, e56⟩, by omega⟩⟩
      have := psz (j := i2)
      have := piece_size (s := s) hi1
      have := bp_le s i2
      omega
    rintro _ _ w6 e56
    have e26 := e25.trans e56
    have e6 := e2.trans e26
    have hfe : f ≤ minE s k := by omega
    have hpn := piece_ncl (s := s) hfe hme.1
    have hpz : (pieceS s f (minE s k)).size ≤ 1048576 := by
      have := piece_size (s := s) hfe; have := bp_le s (minE s k); omega
    have hloc := where_local (s := s) (f := f) (k := k) (e := minE s k) hfk hk rfl (fun j h1 h2 => hsp j h1 (by omega)) hso
    generalize pieceS s f (minE s k) = t at hpn hpz hloc
    refine ⟨t, rfl, ⟨hU.ext e6, by omega⟩, ?_⟩
    rintro ⟨ma, mn, mc⟩ w7 ⟨hmn, hmm⟩
    dsimp only at hmn hmm ⊢
    have e67 := hmm.ext
    have e7 := e6.trans e67
    have hmin : (if (k : Int) + 2 < (ncl s : Int) then (k : Int) + 2 else (ncl s : Int)) = (minE s k : Int) := by
      unfold minE
      split <;> split <;> omega
    simp only [hmin]
    refine ⟨inr_i64 (by omega) (by omega), inr_i64 (by omega) (by omega), bcase_mk (fun h => ?_) (fun _ => ?_)⟩
    · rw [hmn, hpn] at h
      simp only [bne_iff_ne, ne_eq] at h
      omega
    refine ⟨t, rfl, ⟨hU.ext e7, by omega⟩, ?_⟩
    rintro ⟨pa, pn, pc⟩ w8 ⟨hpn8, hmp⟩
    dsimp only at hpn8 hmp ⊢
    rw [where_len] at hpn8
    intro w9 hd
    have e27 := e26.trans e67
    have e89 := hmp.ext.trans hd.ext
    refine bcase_mk (fun _ => ?_) (fun h => by rw [hpn8, hmn] at h; simp at h)
    refine ⟨inr_i64 (by omega) (by omega), k - f, by omega, by omega, hmp.row.cells.ptr (i := k - f) (by rw [List.getElem?_map, where_at (by omega)]; rfl) fun _ _ h => ⟨_, h, k, rfl, hk, rdW (e27.trans hmp.ext) hk fun _ _ h2 => ⟨_, h2, ?_⟩⟩⟩
    rw [hloc]
    refine bcase_mk (fun _ => ⟨(), trivial, hU.ext (e7.trans e89), fun _ w10 e10 => ⟨(), trivial, (e7.trans e89).trans e10⟩⟩) (fun h => by simp at h)

end Go.Proofs.YthpjkgoahneldaaDoor
end

section
/-
  From a law's function, shown to return true and to turn nothing, to its row: what is asked of readings.
-/
namespace Go.Proofs.YthpjkgoahneldaaDoor.Lw
open Go Go.RowKit Go.ChangeShapes Go.WideShapes Go.ChangeAt Vc

section
variable {H : Type} {enc : TypeId × Value → H} {P : Program}

theorem trodAll_stays (hl : laidOutB P = true) {W W' : World} (hx : Below W.heap.size W W') {sp : Nat → Bool} : ∀ {ts : List TypeId} {vs : List Value} {ds : List (DataW H)} {p : List MemPlace},
    ts.all (fun t => P.readableRec t && decide (t < P.types.size)) = true → DataW.TrodAll enc P W 0 (fun _ => true) true ts vs ds p → (∀ x ∈ p, x.block < W.heap.size) → (∀ x ∈ p, sp x.block = true) → DataW.TrodAll enc P W' 0 sp true ts vs ds p
  | [], vs, ds, p, _, h, _, _ => by
    obtain ⟨rfl, rfl, rfl⟩ := trodAll_nil h
    exact trodAll_mk0
  | t :: ts, vs, ds, p, hp, h, hlt, hs => by
    obtain ⟨v, vs', d, ds', a, b, rfl, rfl, rfl, h1, h2⟩ := trodAll_cons h
    simp only [List.all_cons, Bool.and_eq_true, decide_eq_true_eq] at hp
    have h3 := WideElems.Trod_stays (sp' := sp) hl hp.1.1 hp.1.2 h1 (fun x hx' => hx.same (hlt x (by simp [hx']))) (fun x hx' => hs x (by simp [hx']))
    exact ⟨a, b, h3, trodAll_stays hl hx (by simpa using hp.2) h2 (fun x hx' => hlt x (by simp [hx'])) (fun x hx' => hs x (by simp [hx'])), rfl⟩

/-- What a law's row asks behind the call. -/
theorem post_law {f : Func} {s : ChangeSpec} {apart fresh handsOn again : Bool} {W W' : World} {args : Array Value} {ds gs : List (DataW H)} {before : List MemPlace} {tb : TypeId} (hW : DataW.Whole enc P f.params.toList s.vars apart W args.toList ds gs before) (hvars : s.vars = [])
    (hfn : s.fn H ds = { results := [.lit (.bool true)], args := ds }) (hres : f.resultTypes = #[tb]) (htb : P.underlying tb = some .bool) (hl : laidOutB P = true) (hp : f.params.toList.all (fun t => P.readableRec t && decide (t < P.types.size)) = true) (hx : Below W.heap.size W W') :
    s.post enc P f apart fresh handsOn again W args (.bool true) W' := by
  have hW0 := hW
  obtain ⟨pa, pv, hA, hV, rfl, hz, hn⟩ := hW
  rw [hvars] at hV
  obtain ⟨rfl, rfl⟩ := trodVars_none hV
  simp only [List.append_nil] at hW0 hz hn
  have hlt : ∀ x ∈ pa, x.block < W.heap.size := fun x hx => by simpa using hW0.lt x hx
  have hr : ∀ (b : Nat) (sp : Nat → Bool) (hd : Bool), DataW.TrodAll enc P W' b sp hd f.resultTypes.toList ((Value.bool true).resultList f.resultTypes.size) (s.fn H (ds ++ [])).results [] := by
    intro b sp hd
    rw [List.append_nil, hfn, hres]
    exact trodAll_cons_mk (shut_bool htb _) trodAll_mk0
  have ha : ∀ sp : Nat → Bool, (∀ p ∈ pa, sp p.block = true) → DataW.TrodAll enc P W' 0 sp true f.params.toList args.toList (s.fn H (ds ++ [])).args pa := by
    intro sp hs
    rw [List.append_nil, hfn]
    exact trodAll_stays hl hx hp hA hlt hs
  have hv : ∀ sp : Nat → Bool, DataW.TrodVars enc P W' sp s.vars (s.fn H (ds ++ [])).vars [] := by
    intro sp
    rw [List.append_nil, hfn, hvars]
    rfl
  refine ⟨ds, [], pa, [], pa, [], hW0, hr _ _ _, ha _ (fun p hp => by simpa using hlt p hp), hv _, World.keptBut_mono (fun p hp => ⟨hp, .inr (.inl hp)⟩) (hx.frame _), fun _ => ?_⟩
  refine ⟨ok_one hres rfl (okWide_bool_mk htb _), _, _, ([] ++ pa) ++ [], ⟨[] ++ pa, [], trodAll_append (ha _ (fun _ _ => rfl)) (hr _ _ _), hv _, rfl, ?_, ?_⟩, ?_⟩
  · intro b off hp
    have hp' : MemPlace.cell b off ∈ pa := by simpa using hp
    rw [hx.frozen (hlt _ hp')]
    exact hz b off hp'
  · intro ha'
    have := hn ha'
    simpa using this
  · intro p hp _
    simpa using hp

/-- A law's call, as the engine shows it. -/
theorem law_calls {f : FuncId} {fn : Func} {s : ChangeSpec} {apart fresh handsOn again : Bool} {W : World} {args : Array Value} {ds gs : List (DataW H)} {before : List MemPlace} {tb : TypeId} (hW : DataW.Whole enc P fn.params.toList s.vars apart W args.toList ds gs before) (hvars : s.vars = [])
    (hfn : s.fn H ds = { results := [.lit (.bool true)], args := ds }) (hres : fn.resultTypes = #[tb]) (htb : P.underlying tb = some .bool) (hl : laidOutB P = true) (hp : fn.params.toList.all (fun t => P.readableRec t && decide (t < P.types.size)) = true)
    (h : Calls P f args W fun e W' => e = .returned (.bool true) ∧ Below W.heap.size W W') :
    Calls P f args W fun e W' => ∃ v, e = .returned v ∧ s.post enc P fn apart fresh handsOn again W args v W' :=
  h.mono fun e W' ⟨he, hx⟩ => ⟨_, he, post_law hW hvars hfn hres htb hl hp hx⟩

/-- A slice of numbers that came in. -/
theorem ints_in {W : World} {base b0 : Nat} {t e : TypeId} {k : IntKind} {v : Value} {d : DataW H} {p : List MemPlace} (ht : P.underlying t = some (.slice e)) (he : P.underlying e = some (.int k)) (hc : P.cellsOf e = 1) (hval : Value.okWide P W .any b0 t v)
    (h : DataW.Trod enc P W base (fun _ => true) true t v d p) : ∃ (ad : Option Addr) (c : Nat) (xs : List Int) (more : Nat), v = .slice ad xs.length c ∧ CellsAt W ad (xs.map (Value.int k)) ∧ (∀ x ∈ xs, (Lit.int k x).wf = true) ∧
      ((d = .nil ∧ xs = []) ∨ ∃ elems spare, d = .slice elems spare ∧ elems.length = xs.length) := by
  obtain ⟨fuel, hf⟩ := h
  rcases open_ints ht he hc hf with ⟨h1, h2⟩ | ⟨a, len, cap, zs, h1, h2, h3, h4, h5, h6, h7, h8⟩
  · refine ⟨none, 0, [], 0, ?_, CellsAt.nil _ _, by simp, .inl ⟨?_, rfl⟩⟩
    · cases v <;> simp_all [Value.cells]
      rename_i cs
      simp only [Value.okWide, ht] at hval
      simp [Cell.okWide, Cell.ok, ht] at hval
    · have := congrArg (fun x => x.1) h2; exact this
  · have hv : v = .slice (some a) len cap := by
      cases v <;> simp_all [Value.cells]
      rename_i cs
      simp only [Value.okWide, ht] at hval
      simp [Cell.okWide, Cell.ok, ht] at hval
    simp only [if_true] at h5
    have hlen : (zs.take len).length = len := by rw [List.length_take]; omega
    refine ⟨some a, cap, zs.take len, 0, by rw [hlen]; exact hv, ?_, fun x hx => h8 x (List.mem_of_mem_take hx), .inr ⟨lits k (zs.take len), lits k (zs.drop len), ?_, by simp [lits]⟩⟩
    · by_cases hz : zs.length = 0
      · left
        have : zs = [] := List.eq_nil_of_length_eq_zero hz
        simp [this]
      · have h0 := h7 0 (by omega)
        obtain ⟨b, o, sp⟩ := a
        have hsp : sp = none := by
          cases sp with
          | none => rfl
          | some q =>
            simp only [Addr.add, if_true, World.cell?] at h0
            split at h0 <;> simp at h0
        subst hsp
        refine .inr ⟨b, o, rfl, fun j u hj => ?_⟩
        rw [List.getElem?_map] at hj
        obtain ⟨x, hx, rfl⟩ := Option.map_eq_some_iff.1 hj
        rw [List.getElem?_take] at hx
        split at hx
        · have hj2 : j < zs.length := (List.getElem?_eq_some_iff.1 hx).1
          have := h7 j hj2
          rw [add_lit] at this
          rw [this, List.getD_eq_getElem?_getD, hx]
          rfl
        · cases hx
    · exact congrArg (fun x => x.1) h6
end

/-- One sized slice of numbers. -/
theorem reach_le {n b : Nat} (h : n * b ≤ reachBytes) : n * b ≤ 140737488351232 := h

end Go.Proofs.YthpjkgoahneldaaDoor.Lw
end
