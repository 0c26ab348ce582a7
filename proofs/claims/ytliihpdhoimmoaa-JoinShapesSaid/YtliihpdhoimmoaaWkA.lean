/-
  Chapter 2's table of joining: the reference's function and the program's both give the number that the table says.
-/
import Derived.Test.YtliihpdhoimmoaaVgA
set_option linter.unusedVariables false
set_option linter.unusedSimpArgs false
namespace Go.Proofs.Ytliihpdhoimmoaa
open Go Go.RowKit Vc Tb

theorem known_ok : (sRune .i32 knownF).Ok Try.prog 33 := by
  refine known_vc trivial ?_
  intro g w _
  refine bcase_mk (fun h => ⟨_, rfl, ?_, rfl⟩) (fun h => ⟨_, rfl, ?_, rfl⟩)
  · unfold knownF; rw [h]
  · unfold knownF; rw [h]

def chainC (L : List (List RC × Int)) (K : Int → Prop) (d x : Int) : Prop := match L with
  | [] => K d
  | (c, v) :: l => bcase (anyC c x) (K v) (chainC l K d x)
theorem chainC_mk {L : List (List RC × Int)} {K : Int → Prop} {d x : Int} (h : K (lookC L d x)) : chainC L K d x := by
  induction L with
  | nil => exact h
  | cons p l ih =>
    obtain ⟨c, v⟩ := p
    simp only [lookC] at h
    simp only [chainC]
    cases hb : anyC c x with
    | true => rw [hb] at h; exact h
    | false => rw [hb] at h; exact ih h

theorem rjoin_ok : (sRune .i8 joinR).Ok Try.prog 28 := by
  refine rjoin_vc ⟨known_ok, trivial⟩ ?_
  intro g w _
  refine ⟨g, rfl, trivial, ?_⟩
  rintro x w' ⟨rfl, rfl⟩
  exact chainC_mk (L := joinL) (d := joinD) (K := fun v => ∃ x1 : Int, Value.int IntKind.i8 v = Value.int IntKind.i8 x1 ∧ x1 = joinR g ∧ w' = w') ⟨_, rfl, rfl, rfl⟩

theorem bounds_at {T : List (Int × Int)} (h : boundsOk T = true) (j : Nat) : 0 ≤ (T.getD j (0, 0)).1 ∧ (T.getD j (0, 0)).1 ≤ 1114111 ∧ 0 ≤ (T.getD j (0, 0)).2 ∧ (T.getD j (0, 0)).2 ≤ 255 := by
  by_cases hj : j < T.length
  · have h1 := List.all_eq_true.1 h T[j] (List.getElem_mem hj)
    simp only [Bool.and_eq_true, decide_eq_true_eq] at h1
    rw [List.getD_eq_getElem?_getD, List.getElem?_eq_getElem hj]
    exact ⟨h1.1.1.1, h1.1.1.2, h1.1.2, h1.2⟩
  · rw [List.getD_eq_getElem?_getD, List.getElem?_eq_none (by omega)]
    simp

theorem find_ok : sFind.Ok Try.prog 34 := by
  refine find_vc trivial ?_
  rintro ⟨b, T, r⟩ w ⟨hc, hpos, hlen, hbd, h0⟩
  have hk := knownF_bd r
  dsimp only at hc hpos hlen hbd h0 ⊢
  refine ⟨bcase_mk (fun h => ⟨(), ?_, rfl⟩) (fun h => ⟨(), ?_, rfl⟩), ?_⟩
  · unfold knownF; rw [h]
  · unfold knownF; rw [h]
  generalize knownF r = q at hk ⊢
  rintro _ _ w' rfl
  refine ⟨⟨(0, T.length), rfl, rfl, hpos, Nat.le_refl _, by rw [h0]; exact hk.1, .inl rfl, rfl⟩, ?_⟩
  rintro _ ⟨lo, hi⟩ w2 ⟨h1, h2, h3, h4, rfl⟩
  dsimp only at h1 h2 h3 h4 ⊢
  refine ⟨inr_i64 (by omega) (by omega), bcase_mk (fun h => ?_) (fun h => ?_)⟩
  · simp only [gt_iff_lt, decide_eq_true_eq] at h
    refine ⟨inr_i64 (by omega) (by omega), by omega, by omega, inr_i64 (by omega) (by omega), (lo + hi) / 2, by omega, by omega, ?_⟩
    have hm : (lo + hi) / 2 < T.length := by omega
    refine ⟨_, (hc _ hm).1, bcase_mk (fun h => ?_) (fun h => ?_)⟩
    · simp only [gt_iff_lt, decide_eq_true_eq] at h
      exact ⟨(lo, (lo + hi) / 2), rfl, by simp, ⟨by dsimp only; omega, by dsimp only; omega, h3, .inr h, rfl⟩, by dsimp only; omega⟩
    · simp only [gt_iff_lt, decide_eq_false_iff_not] at h
      exact ⟨((lo + hi) / 2, hi), by simp, rfl, ⟨by dsimp only; omega, by dsimp only; omega, Int.not_lt.1 h, h4, rfl⟩, by dsimp only; omega⟩
  · simp only [gt_iff_lt, decide_eq_false_iff_not] at h
    have hlo : lo < T.length := by omega
    have hhi : hi = lo + 1 := by omega
    subst hhi
    refine bcase_mk (fun h => ?_) (fun h => ?_)
    · simp only [decide_eq_true_eq] at h
      have hh : lo + 1 < T.length := by omega
      have hb := bounds_at hbd (lo + 1)
      refine fun w3 hw3 => ⟨lo, rfl, hlo, _, (hc _ hlo).2, lo + 1, rfl, hh, _, (hc _ hh).1, inr_i32 (by omega) (by omega), (_, _), rfl, ⟨lo, hlo, h3, rfl, .inr ⟨hh, ?_, rfl⟩⟩, hw3.ext⟩
      rcases h4 with h4 | h4
      · omega
      · exact h4
    · simp only [decide_eq_false_iff_not] at h
      refine ⟨lo, rfl, hlo, _, (hc _ hlo).2, (_, _), rfl, ⟨lo, hlo, h3, rfl, .inl ⟨by omega, rfl⟩⟩, Ext.refl _⟩

/-- The cells of a table that was laid out in a block. -/
def tblCells (T : List (Int × Int)) : List Value := match T with
  | [] => []
  | (a, v) :: r => .int .i32 a :: .int .u8 v :: tblCells r

theorem tblCells_at {T : List (Int × Int)} {j : Nat} (hj : j < T.length) : (tblCells T)[j * 2]? = some (.int .i32 (T.getD j (0, 0)).1) ∧ (tblCells T)[j * 2 + 1]? = some (.int .u8 (T.getD j (0, 0)).2) := by
  induction T generalizing j with
  | nil => simp at hj
  | cons p r ih =>
    obtain ⟨a, v⟩ := p
    cases j with
    | zero => simp [tblCells]
    | succ j =>
      have := ih (j := j) (by simpa using hj)
      rw [show (j + 1) * 2 = j * 2 + 1 + 1 from by omega]
      simpa [tblCells] using this

theorem tbl_new {w w1 : World} {T : List (Int × Int)} {e : TypeId} {b : Nat} {cs : Array Value} (h : New w (.cells cs e) b w1) (hcs : cs.toList = tblCells T) : CellsT w1 b T := by
  intro j hj
  have := tblCells_at hj
  rw [← hcs] at this
  constructor
  · rw [h.cell, Nat.zero_add, ← Array.getElem?_toList]; exact this.1
  · rw [h.cell, Nat.zero_add, ← Array.getElem?_toList]; exact this.2

theorem joins_ok : (sTab joinT).Ok Try.prog 32 := by
  refine joins_vc ⟨find_ok, trivial⟩ ?_
  intro g w _ b w1 hn
  refine ⟨⟨b, joinT, g⟩, rfl, ⟨tbl_new hn rfl, (by decide : 0 < joinT.length), (by decide : joinT.length ≤ 1000), (by decide +kernel : boundsOk joinT = true), rfl⟩, ?_⟩
  rintro ⟨u, t⟩ w2 ⟨h1, h2⟩
  exact ⟨(u, t), rfl, h1, hn.ext.trans h2⟩

theorem small_val {T : List (Int × Int)} {r u t : Int} (hs : smallOk T = true) (h : FindOk T r u t) : 0 ≤ u ∧ u ≤ 127 := by
  obtain ⟨j, h1, _, rfl, _⟩ := h
  have h2 := List.all_eq_true.1 hs T[j] (List.getElem_mem h1)
  simp only [Bool.and_eq_true, decide_eq_true_eq] at h2
  rw [List.getD_eq_getElem?_getD, List.getElem?_eq_getElem h1]
  exact h2

theorem cjoin_ok : (sRuneX .i8 joinR).Ok Try.prog 26 := by
  refine cjoin_vc ⟨joins_ok, trivial⟩ ?_
  intro g w _
  refine ⟨g, rfl, trivial, ?_⟩
  rintro ⟨u, t⟩ w' ⟨h1, h2⟩
  have hs := small_val (by decide +kernel) h1
  exact ⟨inr_i8 (by dsimp only at hs ⊢; omega) (by dsimp only at hs ⊢; omega), u, rfl, h1.val join_agree, h2⟩

end Go.Proofs.Ytliihpdhoimmoaa
