/-
  Chapter 2's tables: the reference's functions and the program's both give the number that the table says.
-/
import Derived.Test.YtniiamobbgnjaaaDoorVgK
import Derived.Test.YtniiamobbgnjaaaDoorGn
set_option linter.unusedVariables false
set_option linter.unusedSimpArgs false
namespace Go.Proofs.YtniiamobbgnjaaaDoor
open Go Go.RowKit Vc Tb Cl

theorem known_ok : (sRune .i32 knownF).Ok Tryd.prog 63 := by
  refine known_vc trivial ?_
  intro g w _
  refine bcase_mk (fun h => ⟨_, rfl, ?_, rfl⟩) (fun h => ⟨_, rfl, ?_, rfl⟩)
  · unfold knownF; rw [h]
  · unfold knownF; rw [h]

def chainC (L : List (List RC × Int)) (K : Int → Prop) (d x : Int) : Prop := match L with
  | [] => K d
  | (c, v) :: l => bcase (anyC c x) (K v) (chainC l K d x)
theorem chainC_mk {L : List (List RC × Int)} {K : Int → Prop} {d x : Int} (h : K (lookC L d x)) : chainC L K d x := by
  induction L with
  | nil => exact h
  | cons p l ih =>
    obtain ⟨c, v⟩ := p
    simp only [lookC] at h
    simp only [chainC]
    cases hb : anyC c x with
    | true => rw [hb] at h; exact h
    | false => rw [hb] at h; exact ih h

theorem bounds_at {T : List (Int × Int)} (h : boundsOk T = true) (j : Nat) : 0 ≤ (T.getD j (0, 0)).1 ∧ (T.getD j (0, 0)).1 ≤ 1114111 ∧ 0 ≤ (T.getD j (0, 0)).2 ∧ (T.getD j (0, 0)).2 ≤ 255 := by
  by_cases hj : j < T.length
  · have h1 := List.all_eq_true.1 h T[j] (List.getElem_mem hj)
    simp only [Bool.and_eq_true, decide_eq_true_eq] at h1
    rw [List.getD_eq_getElem?_getD, List.getElem?_eq_getElem hj]
    exact ⟨h1.1.1.1, h1.1.1.2, h1.1.2, h1.2⟩
  · rw [List.getD_eq_getElem?_getD, List.getElem?_eq_none (by omega)]
    simp

theorem find_ok : sFind.Ok Tryd.prog 59 := by
  refine find_vc trivial ?_
  rintro ⟨b, T, r⟩ w ⟨hc, hpos, hlen, hbd, h0⟩
  have hk := knownF_bd r
  dsimp only at hc hpos hlen hbd h0 ⊢
  refine ⟨bcase_mk (fun h => ⟨(), ?_, rfl⟩) (fun h => ⟨(), ?_, rfl⟩), ?_⟩
  · unfold knownF; rw [h]
  · unfold knownF; rw [h]
  generalize knownF r = q at hk ⊢
  rintro _ _ w' rfl
  refine ⟨⟨(0, T.length), rfl, rfl, hpos, Nat.le_refl _, by rw [h0]; exact hk.1, .inl rfl, rfl⟩, ?_⟩
  rintro _ ⟨lo, hi⟩ w2 ⟨h1, h2, h3, h4, rfl⟩
  dsimp only at h1 h2 h3 h4 ⊢
  refine ⟨inr_i64 (by omega) (by omega), bcase_mk (fun h => ?_) (fun h => ?_)⟩
  · simp only [gt_iff_lt, decide_eq_true_eq] at h
    refine ⟨inr_i64 (by omega) (by omega), by omega, by omega, inr_i64 (by omega) (by omega), (lo + hi) / 2, by omega, by omega, ?_⟩
    have hm : (lo + hi) / 2 < T.length := by omega
    refine ⟨_, (hc _ hm).1, bcase_mk (fun h => ?_) (fun h => ?_)⟩
    · simp only [gt_iff_lt, decide_eq_true_eq] at h
      exact ⟨(lo, (lo + hi) / 2), rfl, by simp, ⟨by dsimp only; omega, by dsimp only; omega, h3, .inr h, rfl⟩, by dsimp only; omega⟩
    · simp only [gt_iff_lt, decide_eq_false_iff_not] at h
      exact ⟨((lo + hi) / 2, hi), by simp, rfl, ⟨by dsimp only; omega, by dsimp only; omega, Int.not_lt.1 h, h4, rfl⟩, by dsimp only; omega⟩
  · simp only [gt_iff_lt, decide_eq_false_iff_not] at h
    have hlo : lo < T.length := by omega
    have hhi : hi = lo + 1 := by omega
    subst hhi
    refine bcase_mk (fun h => ?_) (fun h => ?_)
    · simp only [decide_eq_true_eq] at h
      have hh : lo + 1 < T.length := by omega
      have hb := bounds_at hbd (lo + 1)
      refine fun w3 hw3 => ⟨lo, rfl, hlo, _, (hc _ hlo).2, lo + 1, rfl, hh, _, (hc _ hh).1, inr_i32 (by omega) (by omega), (_, _), rfl, ⟨lo, hlo, h3, rfl, .inr ⟨hh, ?_, rfl⟩⟩, hw3.ext⟩
      rcases h4 with h4 | h4
      · omega
      · exact h4
    · simp only [decide_eq_false_iff_not] at h
      refine ⟨lo, rfl, hlo, _, (hc _ hlo).2, (_, _), rfl, ⟨lo, hlo, h3, rfl, .inl ⟨by omega, rfl⟩⟩, Ext.refl _⟩

/-- The cells of a table that was laid out in a block. -/
def tblCells (T : List (Int × Int)) : List Value := match T with
  | [] => []
  | (a, v) :: r => .int .i32 a :: .int .u8 v :: tblCells r

theorem tblCells_at {T : List (Int × Int)} {j : Nat} (hj : j < T.length) : (tblCells T)[j * 2]? = some (.int .i32 (T.getD j (0, 0)).1) ∧ (tblCells T)[j * 2 + 1]? = some (.int .u8 (T.getD j (0, 0)).2) := by
  induction T generalizing j with
  | nil => simp at hj
  | cons p r ih =>
    obtain ⟨a, v⟩ := p
    cases j with
    | zero => simp [tblCells]
    | succ j =>
      have := ih (j := j) (by simpa using hj)
      rw [show (j + 1) * 2 = j * 2 + 1 + 1 from by omega]
      simpa [tblCells] using this

theorem tbl_new {w w1 : World} {T : List (Int × Int)} {e : TypeId} {b : Nat} {cs : Array Value} (h : New w (.cells cs e) b w1) (hcs : cs.toList = tblCells T) : CellsT w1 b T := by
  intro j hj
  have := tblCells_at hj
  rw [← hcs] at this
  constructor
  · rw [h.cell, Nat.zero_add, ← Array.getElem?_toList]; exact this.1
  · rw [h.cell, Nat.zero_add, ← Array.getElem?_toList]; exact this.2

theorem small_val {T : List (Int × Int)} {r u t : Int} (hs : smallOk T = true) (h : FindOk T r u t) : 0 ≤ u ∧ u ≤ 127 := by
  obtain ⟨j, h1, _, rfl, _⟩ := h
  have h2 := List.all_eq_true.1 hs T[j] (List.getElem_mem h1)
  simp only [Bool.and_eq_true, decide_eq_true_eq] at h2
  rw [List.getD_eq_getElem?_getD, List.getElem?_eq_getElem h1]
  exact h2

set_option maxRecDepth 20000 in
theorem rkind_ok : (sRune .i8 kindR).Ok Tryd.prog 54 := by
  refine rkind_vc ⟨known_ok, trivial⟩ ?_
  intro g w _
  refine ⟨g, rfl, trivial, ?_⟩
  rintro x w' ⟨rfl, rfl⟩
  exact chainC_mk (L := kindL) (d := kindD) (K := fun v => ∃ x1 : Int, Value.int .i8 v = Value.int .i8 x1 ∧ x1 = kindR g ∧ w' = w') ⟨_, rfl, rfl, rfl⟩
set_option maxRecDepth 20000 in
theorem kinds_ok : (sTab kindT).Ok Tryd.prog 48 := by
  refine kinds_vc ⟨find_ok, trivial⟩ ?_
  intro g w _ b w1 hn
  refine ⟨⟨b, kindT, g⟩, rfl, ⟨tbl_new hn rfl, (by decide +kernel : 0 < kindT.length), (by decide +kernel : kindT.length ≤ 1000), (by decide +kernel : boundsOk kindT = true), rfl⟩, ?_⟩
  rintro ⟨u, t⟩ w2 ⟨h1, h2⟩
  exact ⟨(u, t), rfl, h1, hn.ext.trans h2⟩
set_option maxRecDepth 20000 in
theorem rwid_ok : (sRune .i64 widR).Ok Tryd.prog 66 := by
  refine rwid_vc ⟨known_ok, trivial⟩ ?_
  intro g w _
  refine ⟨g, rfl, trivial, ?_⟩
  rintro x w' ⟨rfl, rfl⟩
  exact chainC_mk (L := widL) (d := widD) (K := fun v => ∃ x1 : Int, Value.int .i64 v = Value.int .i64 x1 ∧ x1 = widR g ∧ w' = w') ⟨_, rfl, rfl, rfl⟩
set_option maxRecDepth 20000 in
theorem wids_ok : (sTab widT).Ok Tryd.prog 60 := by
  refine wids_vc ⟨find_ok, trivial⟩ ?_
  intro g w _ b w1 hn
  refine ⟨⟨b, widT, g⟩, rfl, ⟨tbl_new hn rfl, (by decide +kernel : 0 < widT.length), (by decide +kernel : widT.length ≤ 1000), (by decide +kernel : boundsOk widT = true), rfl⟩, ?_⟩
  rintro ⟨u, t⟩ w2 ⟨h1, h2⟩
  exact ⟨(u, t), rfl, h1, hn.ext.trans h2⟩
theorem ckind_ok : (sRuneX .i8 kindR).Ok Tryd.prog 36 := by
  refine ckind_vc ⟨kinds_ok, trivial⟩ ?_
  intro g w _
  refine ⟨g, rfl, trivial, ?_⟩
  rintro ⟨u, t⟩ w' ⟨h1, h2⟩
  have hs := small_val (by decide +kernel) h1
  exact ⟨inr_i8 (by dsimp only at hs ⊢; omega) (by dsimp only at hs ⊢; omega), u, rfl, h1.val kind_agree, h2⟩
theorem wid_small {r u t : Int} (h : FindOk widT (knownF r) u t) : 0 ≤ u ∧ u ≤ 3 := by
  obtain ⟨j, h1, _, rfl, _⟩ := h
  have h2 : widT.all (fun p => decide (0 ≤ p.2) && decide (p.2 ≤ 3)) = true := by decide +kernel
  have h3 := List.all_eq_true.1 h2 widT[j] (List.getElem_mem h1)
  simp only [Bool.and_eq_true, decide_eq_true_eq] at h3
  rw [List.getD_eq_getElem?_getD, List.getElem?_eq_getElem h1]
  exact h3
theorem rwide_ok : (sWide (fun w w' => w' = w)).Ok Tryd.prog 64 := by
  refine rwide_vc ⟨rwid_ok, trivial⟩ ?_
  rintro ⟨r, b⟩ w _
  refine ⟨r, rfl, trivial, ?_⟩
  rintro x w' ⟨rfl, rfl⟩
  have hd : widR r = 0 ∨ widR r = 1 ∨ widR r = 2 ∨ widR r = 3 := by
    have h2 : (widL.all (fun p => decide (p.2 = 0 ∨ p.2 = 1 ∨ p.2 = 2 ∨ p.2 = 3))) = true := by decide +kernel
    have : ∀ (l : List (List RC × Int)) (q : Int), l.all (fun p => decide (p.2 = 0 ∨ p.2 = 1 ∨ p.2 = 2 ∨ p.2 = 3)) = true → lookC l 1 q = 0 ∨ lookC l 1 q = 1 ∨ lookC l 1 q = 2 ∨ lookC l 1 q = 3 := by
      intro l q hl
      induction l with
      | nil => simp [lookC]
      | cons p l ih =>
        obtain ⟨c, v⟩ := p
        simp only [List.all_cons, Bool.and_eq_true, decide_eq_true_eq] at hl
        simp only [lookC]
        split
        · exact hl.1
        · exact ih hl.2
    exact this widL (knownF r) h2
  refine bcase_mk (fun h => ?_) (fun h => ⟨_, rfl, ?_, rfl⟩)
  · have h3 : widR r = 3 := by simpa using h
    refine bcase_mk (fun hb => ⟨_, rfl, ?_, rfl⟩) (fun hb => ⟨_, rfl, ?_, rfl⟩)
    · have hb : b = true := hb
      show _ = wideR r b
      unfold wideR; rw [h3, hb]; rfl
    · have hb : b = false := hb
      show _ = wideR r b
      unfold wideR; rw [h3, hb]; rfl
  · have h3 : widR r ≠ 3 := by simpa using h
    show _ = wideR r b
    unfold wideR; rw [if_pos (by omega)]
theorem cwide_ok : (sWide (fun w w' => Ext w w')).Ok Tryd.prog 49 := by
  refine cwide_vc ⟨wids_ok, trivial⟩ ?_
  rintro ⟨r, b⟩ w _
  refine ⟨r, rfl, trivial, ?_⟩
  rintro ⟨u, t⟩ w' ⟨h1, h2⟩
  have hs := wid_small h1
  have hv : u = widR r := h1.val wid_agree
  dsimp only at hs ⊢
  refine bcase_mk (fun h => ?_) (fun h => ?_)
  · have h : u < 3 := by simpa using h
    exact ⟨inr_i64 (by omega) (by omega), _, rfl, by show _ = wideR r b; unfold wideR; rw [← hv, if_pos h], h2⟩
  · have h : ¬ u < 3 := by simpa using h
    refine bcase_mk (fun hb => ⟨_, rfl, ?_, h2⟩) (fun hb => ⟨_, rfl, ?_, h2⟩)
    · have hb : b = true := hb
      show _ = wideR r b
      unfold wideR; rw [← hv, if_neg h, hb]; rfl
    · have hb : b = false := hb
      show _ = wideR r b
      unfold wideR; rw [← hv, if_neg h, hb]; rfl


end Go.Proofs.YtniiamobbgnjaaaDoor
