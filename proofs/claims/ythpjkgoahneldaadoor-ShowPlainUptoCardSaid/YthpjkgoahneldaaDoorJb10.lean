/-
  Texts joined by program: WkK, WkP, VgA, WkA, El, WkN.
-/
import Derived.Test.YthpjkgoahneldaaDoorJb09
import Derived.Test.YthpjkgoahneldaaDoorJb05
import Derived.Test.YthpjkgoahneldaaDoorProg
import Derived.KernelRfl
import Derived.Test.YthpjkgoahneldaaDoorSh
set_option linter.unusedVariables false
set_option linter.unusedSimpArgs false

section
/-
  Chapter 2's tables: the reference's functions and the program's both give the number that the table says.
-/
namespace Go.Proofs.YthpjkgoahneldaaDoor
open Go Go.RowKit Vc Tb Cl

theorem known_ok : (sRune .i32 knownF).Ok Tryd.prog 128 := by
  refine known_vc trivial ?_
  intro g w _
  refine bcase_mk (fun h => ⟨_, rfl, ?_, rfl⟩) (fun h => ⟨_, rfl, ?_, rfl⟩)
  · unfold knownF; rw [h]
  · unfold knownF; rw [h]

def chainC (L : List (List RC × Int)) (K : Int → Prop) (d x : Int) : Prop := match L with
  | [] => K d
  | (c, v) :: l => bcase (anyC c x) (K v) (chainC l K d x)
theorem chainC_mk {L : List (List RC × Int)} {K : Int → Prop} {d x : Int} (h : K (lookC L d x)) : chainC L K d x := by
  induction L with
  | nil => exact h
  | cons p l ih =>
    obtain ⟨c, v⟩ := p
    simp only [lookC] at h
    simp only [chainC]
    cases hb : anyC c x with
    | true => rw [hb] at h; exact h
    | false => rw [hb] at h; exact ih h

theorem bounds_at {T : List (Int × Int)} (h : boundsOk T = true) (j : Nat) : 0 ≤ (T.getD j (0, 0)).1 ∧ (T.getD j (0, 0)).1 ≤ 1114111 ∧ 0 ≤ (T.getD j (0, 0)).2 ∧ (T.getD j (0, 0)).2 ≤ 255 := by
  by_cases hj : j < T.length
  · have h1 := List.all_eq_true.1 h T[j] (List.getElem_mem hj)
    simp only [Bool.and_eq_true, decide_eq_true_eq] at h1
    rw [List.getD_eq_getElem?_getD, List.getElem?_eq_getElem hj]
    exact ⟨h1.1.1.1, h1.1.1.2, h1.1.2, h1.2⟩
  · rw [List.getD_eq_getElem?_getD, List.getElem?_eq_none (by omega)]
    simp

theorem find_ok : sFind.Ok Tryd.prog 130 := by
  refine find_vc trivial ?_
  rintro ⟨b, T, r⟩ w ⟨hc, hpos, hlen, hbd, h0⟩
  have hk := knownF_bd r
  dsimp only at hc hpos hlen hbd h0 ⊢
  refine ⟨bcase_mk (fun h => ⟨(), ?_, rfl⟩) (fun h => ⟨(), ?_, rfl⟩), ?_⟩
  · unfold knownF; rw [h]
  · unfold knownF; rw [h]
  generalize knownF r = q at hk ⊢
  rintro _ _ w' rfl
  refine ⟨⟨(0, T.length), rfl, rfl, hpos, Nat.le_refl _, by rw [h0]; exact hk.1, .inl rfl, rfl⟩, ?_⟩
  rintro _ ⟨lo, hi⟩ w2 ⟨h1, h2, h3, h4, rfl⟩
  dsimp only at h1 h2 h3 h4 ⊢
  refine ⟨inr_i64 (by omega) (by omega), bcase_mk (fun h => ?_) (fun h => ?_)⟩
  · simp only [gt_iff_lt, decide_eq_true_eq] at h
    refine ⟨inr_i64 (by omega) (by omega), by omega, by omega, inr_i64 (by omega) (by omega), (lo + hi) / 2, by omega, by omega, ?_⟩
    have hm : (lo + hi) / 2 < T.length := by omega
    refine ⟨_, (hc _ hm).1, bcase_mk (fun h => ?_) (fun h => ?_)⟩
    · simp only [gt_iff_lt, decide_eq_true_eq] at h
      exact ⟨(lo, (lo + hi) / 2), rfl, by simp, ⟨by dsimp only; omega, by dsimp only; omega, h3, .inr h, rfl⟩, by dsimp only; omega⟩
    · simp only [gt_iff_lt, decide_eq_false_iff_not] at h
      exact ⟨((lo + hi) / 2, hi), by simp, rfl, ⟨by dsimp only; omega, by dsimp only; omega, Int.not_lt.1 h, h4, rfl⟩, by dsimp only; omega⟩
  · simp only [gt_iff_lt, decide_eq_false_iff_not] at h
    have hlo : lo < T.length := by omega
    have hhi : hi = lo + 1 := by omega
    subst hhi
    refine bcase_mk (fun h => ?_) (fun h => ?_)
    · simp only [decide_eq_true_eq] at h
      have hh : lo + 1 < T.length := by omega
      have hb := bounds_at hbd (lo + 1)
      refine fun w3 hw3 => ⟨lo, rfl, hlo, _, (hc _ hlo).2, lo + 1, rfl, hh, _, (hc _ hh).1, inr_i32 (by omega) (by omega), (_, _), rfl, ⟨lo, hlo, h3, rfl, .inr ⟨hh, ?_, rfl⟩⟩, hw3.ext⟩
      rcases h4 with h4 | h4
      · omega
      · exact h4
    · simp only [decide_eq_false_iff_not] at h
      refine ⟨lo, rfl, hlo, _, (hc _ hlo).2, (_, _), rfl, ⟨lo, hlo, h3, rfl, .inl ⟨by omega, rfl⟩⟩, Ext.refl _⟩

/-- The cells of a table that was laid out in a block. -/
def tblCells (T : List (Int × Int)) : List Value := match T with
  | [] => []
  | (a, v) :: r => .int .i32 a :: .int .u8 v :: tblCells r

theorem tblCells_at {T : List (Int × Int)} {j : Nat} (hj : j < T.length) : (tblCells T)[j * 2]? = some (.int .i32 (T.getD j (0, 0)).1) ∧ (tblCells T)[j * 2 + 1]? = some (.int .u8 (T.getD j (0, 0)).2) := by
  induction T generalizing j with
  | nil => simp at hj
  | cons p r ih =>
    obtain ⟨a, v⟩ := p
    cases j with
    | zero => simp [tblCells]
    | succ j =>
      have := ih (j := j) (by simpa using hj)
      rw [show (j + 1) * 2 = j * 2 + 1 + 1 from by omega]
      simpa [tblCells] using this

theorem tbl_new {w w1 : World} {T : List (Int × Int)} {e : TypeId} {b : Nat} {cs : Array Value} (h : New w (.cells cs e) b w1) (hcs : cs.toList = tblCells T) : CellsT w1 b T := by
  intro j hj
  have := tblCells_at hj
  rw [← hcs] at this
  constructor
  · rw [h.cell, Nat.zero_add, ← Array.getElem?_toList]; exact this.1
  · rw [h.cell, Nat.zero_add, ← Array.getElem?_toList]; exact this.2

theorem small_val {T : List (Int × Int)} {r u t : Int} (hs : smallOk T = true) (h : FindOk T r u t) : 0 ≤ u ∧ u ≤ 127 := by
  obtain ⟨j, h1, _, rfl, _⟩ := h
  have h2 := List.all_eq_true.1 hs T[j] (List.getElem_mem h1)
  simp only [Bool.and_eq_true, decide_eq_true_eq] at h2
  rw [List.getD_eq_getElem?_getD, List.getElem?_eq_getElem h1]
  exact h2

set_option maxRecDepth 20000 in
theorem rkind_ok : (sRune .i8 kindR).Ok Tryd.prog 102 := by
  refine rkind_vc ⟨known_ok, trivial⟩ ?_
  intro g w _
  refine ⟨g, rfl, trivial, ?_⟩
  rintro x w' ⟨rfl, rfl⟩
  exact chainC_mk (L := kindL) (d := kindD) (K := fun v => ∃ x1 : Int, Value.int .i8 v = Value.int .i8 x1 ∧ x1 = kindR g ∧ w' = w') ⟨_, rfl, rfl, rfl⟩
set_option maxRecDepth 20000 in
theorem kinds_ok : (sTab kindT).Ok Tryd.prog 106 := by
  refine kinds_vc ⟨find_ok, trivial⟩ ?_
  intro g w _ b w1 hn
  refine ⟨⟨b, kindT, g⟩, rfl, ⟨tbl_new hn rfl, (by decide +kernel : 0 < kindT.length), (by decide +kernel : kindT.length ≤ 1000), (by decide +kernel : boundsOk kindT = true), rfl⟩, ?_⟩
  rintro ⟨u, t⟩ w2 ⟨h1, h2⟩
  exact ⟨(u, t), rfl, h1, hn.ext.trans h2⟩
set_option maxRecDepth 20000 in
theorem rwid_ok : (sRune .i64 widR).Ok Tryd.prog 139 := by
  refine rwid_vc ⟨known_ok, trivial⟩ ?_
  intro g w _
  refine ⟨g, rfl, trivial, ?_⟩
  rintro x w' ⟨rfl, rfl⟩
  exact chainC_mk (L := widL) (d := widD) (K := fun v => ∃ x1 : Int, Value.int .i64 v = Value.int .i64 x1 ∧ x1 = widR g ∧ w' = w') ⟨_, rfl, rfl, rfl⟩
set_option maxRecDepth 20000 in
theorem wids_ok : (sTab widT).Ok Tryd.prog 137 := by
  refine wids_vc ⟨find_ok, trivial⟩ ?_
  intro g w _ b w1 hn
  refine ⟨⟨b, widT, g⟩, rfl, ⟨tbl_new hn rfl, (by decide +kernel : 0 < widT.length), (by decide +kernel : widT.length ≤ 1000), (by decide +kernel : boundsOk widT = true), rfl⟩, ?_⟩
  rintro ⟨u, t⟩ w2 ⟨h1, h2⟩
  exact ⟨(u, t), rfl, h1, hn.ext.trans h2⟩
set_option maxRecDepth 20000 in
theorem rbrk_ok : (sRune .i8 brkR).Ok Tryd.prog 87 := by
  refine rbrk_vc ⟨known_ok, trivial⟩ ?_
  intro g w _
  refine ⟨g, rfl, trivial, ?_⟩
  rintro x w' ⟨rfl, rfl⟩
  exact chainC_mk (L := brkL) (d := brkD) (K := fun v => ∃ x1 : Int, Value.int .i8 v = Value.int .i8 x1 ∧ x1 = brkR g ∧ w' = w') ⟨_, rfl, rfl, rfl⟩
set_option maxRecDepth 20000 in
theorem brks_ok : (sTab brkT).Ok Tryd.prog 100 := by
  refine brks_vc ⟨find_ok, trivial⟩ ?_
  intro g w _ b w1 hn
  refine ⟨⟨b, brkT, g⟩, rfl, ⟨tbl_new hn rfl, (by decide +kernel : 0 < brkT.length), (by decide +kernel : brkT.length ≤ 1000), (by decide +kernel : boundsOk brkT = true), rfl⟩, ?_⟩
  rintro ⟨u, t⟩ w2 ⟨h1, h2⟩
  exact ⟨(u, t), rfl, h1, hn.ext.trans h2⟩
theorem ckind_ok : (sRuneX .i8 kindR).Ok Tryd.prog 75 := by
  refine ckind_vc ⟨kinds_ok, trivial⟩ ?_
  intro g w _
  refine ⟨g, rfl, trivial, ?_⟩
  rintro ⟨u, t⟩ w' ⟨h1, h2⟩
  have hs := small_val (by decide +kernel) h1
  exact ⟨inr_i8 (by dsimp only at hs ⊢; omega) (by dsimp only at hs ⊢; omega), u, rfl, h1.val kind_agree, h2⟩
theorem cbrk_ok : (sRuneX .i8 brkR).Ok Tryd.prog 64 := by
  refine cbrk_vc ⟨brks_ok, trivial⟩ ?_
  intro g w _
  refine ⟨g, rfl, trivial, ?_⟩
  rintro ⟨u, t⟩ w' ⟨h1, h2⟩
  have hs := small_val (by decide +kernel) h1
  exact ⟨inr_i8 (by dsimp only at hs ⊢; omega) (by dsimp only at hs ⊢; omega), u, rfl, h1.val brk_agree, h2⟩
theorem wid_small {r u t : Int} (h : FindOk widT (knownF r) u t) : 0 ≤ u ∧ u ≤ 3 := by
  obtain ⟨j, h1, _, rfl, _⟩ := h
  have h2 : widT.all (fun p => decide (0 ≤ p.2) && decide (p.2 ≤ 3)) = true := by decide +kernel
  have h3 := List.all_eq_true.1 h2 widT[j] (List.getElem_mem h1)
  simp only [Bool.and_eq_true, decide_eq_true_eq] at h3
  rw [List.getD_eq_getElem?_getD, List.getElem?_eq_getElem h1]
  exact h3
theorem rwide_ok : (sWide (fun w w' => w' = w)).Ok Tryd.prog 122 := by
  refine rwide_vc ⟨rwid_ok, trivial⟩ ?_
  rintro ⟨r, b⟩ w _
  refine ⟨r, rfl, trivial, ?_⟩
  rintro x w' ⟨rfl, rfl⟩
  have hd : widR r = 0 ∨ widR r = 1 ∨ widR r = 2 ∨ widR r = 3 := by
    have h2 : (widL.all (fun p => decide (p.2 = 0 ∨ p.2 = 1 ∨ p.2 = 2 ∨ p.2 = 3))) = true := by decide +kernel
    have : ∀ (l : List (List RC × Int)) (q : Int), l.all (fun p => decide (p.2 = 0 ∨ p.2 = 1 ∨ p.2 = 2 ∨ p.2 = 3)) = true → lookC l 1 q = 0 ∨ lookC l 1 q = 1 ∨ lookC l 1 q = 2 ∨ lookC l 1 q = 3 := by
      intro l q hl
      induction l with
      | nil => simp [lookC]
      | cons p l ih =>
        obtain ⟨c, v⟩ := p
        simp only [List.all_cons, Bool.and_eq_true, decide_eq_true_eq] at hl
        simp only [lookC]
        split
        · exact hl.1
        · exact ih hl.2
    exact this widL (knownF r) h2
  refine bcase_mk (fun h => ?_) (fun h => ⟨_, rfl, ?_, rfl⟩)
  · have h3 : widR r = 3 := by simpa using h
    refine bcase_mk (fun hb => ⟨_, rfl, ?_, rfl⟩) (fun hb => ⟨_, rfl, ?_, rfl⟩)
    · have hb : b = true := hb
      show _ = wideR r b
      unfold wideR; rw [h3, hb]; rfl
    · have hb : b = false := hb
      show _ = wideR r b
      unfold wideR; rw [h3, hb]; rfl
  · have h3 : widR r ≠ 3 := by simpa using h
    show _ = wideR r b
    unfold wideR; rw [if_pos (by omega)]
theorem cwide_ok : (sWide (fun w w' => Ext w w')).Ok Tryd.prog 114 := by
  refine cwide_vc ⟨wids_ok, trivial⟩ ?_
  rintro ⟨r, b⟩ w _
  refine ⟨r, rfl, trivial, ?_⟩
  rintro ⟨u, t⟩ w' ⟨h1, h2⟩
  have hs := wid_small h1
  have hv : u = widR r := h1.val wid_agree
  dsimp only at hs ⊢
  refine bcase_mk (fun h => ?_) (fun h => ?_)
  · have h : u < 3 := by simpa using h
    exact ⟨inr_i64 (by omega) (by omega), _, rfl, by show _ = wideR r b; unfold wideR; rw [← hv, if_pos h], h2⟩
  · have h : ¬ u < 3 := by simpa using h
    refine bcase_mk (fun hb => ⟨_, rfl, ?_, h2⟩) (fun hb => ⟨_, rfl, ?_, h2⟩)
    · have hb : b = true := hb
      show _ = wideR r b
      unfold wideR; rw [← hv, if_neg h, hb]; rfl
    · have hb : b = false := hb
      show _ = wideR r b
      unfold wideR; rw [← hv, if_neg h, hb]; rfl


end Go.Proofs.YthpjkgoahneldaaDoor
end

section
/-
  Chapter 3: what a character is: the program's words and the document's say the same.
-/
namespace Go.Proofs.YthpjkgoahneldaaDoor
open Go Go.RowKit Vc Tb Cl

theorem regional_ok : (sRB regB).Ok Tryd.prog 109 := by
  refine regional_vc trivial ?_
  intro r w _
  exact ⟨_, rfl, rfl, Ext.refl _⟩
theorem rregional_ok : (sRB regB).Ok Tryd.prog 121 := by
  refine rregional_vc trivial ?_
  intro r w _
  exact ⟨_, rfl, rfl, Ext.refl _⟩
theorem joiner_ok : (sRB joinB).Ok Tryd.prog 108 := by
  refine joiner_vc trivial ?_
  intro r w _
  exact ⟨_, rfl, rfl, Ext.refl _⟩
theorem rjoiner_ok : (sRB joinB).Ok Tryd.prog 118 := by
  refine rjoiner_vc trivial ?_
  intro r w _
  exact ⟨_, rfl, rfl, Ext.refl _⟩
theorem picture_ok : (sRB picB).Ok Tryd.prog 110 := by
  refine picture_vc ⟨ckind_ok, cwide_ok, trivial⟩ ?_
  intro r w _
  refine ⟨r, rfl, trivial, ?_⟩
  rintro _ w1 ⟨rfl, e1⟩
  refine bcase_mk (fun h => ?_) (fun h => ?_)
  · refine ⟨(r, false), rfl, trivial, ?_⟩
    rintro _ w2 ⟨rfl, e2⟩
    refine ⟨_, rfl, ?_, e1.trans e2⟩
    unfold picB; rw [h]; rfl
  · refine ⟨_, rfl, ?_, e1⟩
    unfold picB; rw [h]; rfl
theorem rpicture_ok : (sRB picB).Ok Tryd.prog 141 := by
  refine rpicture_vc ⟨rkind_ok, rwide_ok, trivial⟩ ?_
  intro r w _
  refine ⟨r, rfl, trivial, ?_⟩
  rintro _ _ ⟨rfl, rfl⟩
  refine bcase_mk (fun h => ?_) (fun h => ?_)
  · refine ⟨(r, false), rfl, trivial, ?_⟩
    rintro _ _ ⟨rfl, rfl⟩
    refine ⟨_, rfl, ?_, Ext.refl _⟩
    unfold picB; rw [h]; rfl
  · refine ⟨_, rfl, ?_, Ext.refl _⟩
    unfold picB; rw [h]; rfl
theorem alone_ok : (sRB aloneB).Ok Tryd.prog 107 := by
  refine alone_vc ⟨ckind_ok, joiner_ok, trivial⟩ ?_
  intro r w _
  refine ⟨r, rfl, trivial, ?_⟩
  rintro _ w1 ⟨rfl, e1⟩
  refine bcase_mk (fun h => ⟨_, rfl, ?_, e1⟩) (fun h => bcase_mk (fun h1 => ?_) (fun h1 => ⟨_, rfl, ?_, e1⟩))
  · unfold aloneB; rw [h]; rfl
  · refine ⟨r, rfl, trivial, ?_⟩
    rintro _ w2 ⟨rfl, e2⟩
    refine ⟨_, rfl, ?_, e1.trans e2⟩
    have hr : (r == 8232 || r == 8233) = false := by
      rw [Bool.or_eq_false_iff, beq_eq_false_iff_ne, beq_eq_false_iff_ne]
      have hk : kindR r = 1 := by simpa using h1
      refine ⟨?_, ?_⟩
      · rintro rfl; revert hk; decide +kernel
      · rintro rfl; revert hk; decide +kernel
    unfold aloneB; rw [h, h1, hr]; simp
  · unfold aloneB; rw [h, h1]; simp
theorem ralone_ok : (sRB aloneB).Ok Tryd.prog 124 := by
  refine ralone_vc ⟨rkind_ok, rjoiner_ok, trivial⟩ ?_
  intro r w _
  refine ⟨r, rfl, trivial, ?_⟩
  rintro _ _ ⟨rfl, rfl⟩
  refine bcase_mk (fun h => ⟨_, rfl, ?_, Ext.refl _⟩) (fun h => bcase_mk (fun h1 => ⟨_, rfl, ?_, Ext.refl _⟩) (fun h1 => bcase_mk (fun h2 => ⟨_, rfl, ?_, Ext.refl _⟩) (fun h2 => bcase_mk (fun h3 => ?_) (fun h3 => ⟨_, rfl, ?_, Ext.refl _⟩))))
  · unfold aloneB; rw [h]; rfl
  · unfold aloneB; rw [h, h1]; rfl
  · unfold aloneB; rw [h, h1, h2]; rfl
  · refine ⟨r, rfl, trivial, ?_⟩
    rintro _ w2 ⟨rfl, e2⟩
    refine ⟨_, rfl, ?_, e2⟩
    unfold aloneB; rw [h, h1, h2, h3]; simp
  · unfold aloneB; rw [h, h1, h2, h3]; rfl
theorem part_ok : (sRN partP).Ok Tryd.prog 131 := by
  refine part_vc trivial ?_
  intro r w _
  have hP : ∀ {k : Nat} {v : Int} {n : Nat}, partN r = k → bitN k = n → v = (n : Int) → ∃ x : Nat, Value.int .i64 v = .int .i64 (x : Int) ∧ x = partP r ∧ Ext w w := by
    intro k v n h1 h2 h3
    exact ⟨n, by rw [h3], by unfold partP; rw [h1, h2], Ext.refl _⟩
  refine bcase_mk (fun h => ?_) (fun h => ?_)
  · have h : r < 4352 ∨ 55203 < r := by simpa using h
    refine hP (k := 0) ?_ rfl rfl
    unfold partN
    rw [if_neg (by omega), if_neg (by omega), if_neg (by omega), if_neg (by omega)]
  have h : ¬ r < 4352 ∧ ¬ 55203 < r := by simpa using h
  refine bcase_mk (fun h1 => ?_) (fun h1 => ?_)
  · have h1 := of_decide_eq_true h1
    refine hP (k := 1) ?_ rfl rfl
    unfold partN; rw [if_pos (by omega)]
  have h1 := of_decide_eq_false h1
  refine bcase_mk (fun h2 => ?_) (fun h2 => ?_)
  · have h2 := of_decide_eq_true h2
    refine hP (k := 2) ?_ rfl rfl
    unfold partN; rw [if_neg (by omega), if_pos (by omega)]
  have h2 := of_decide_eq_false h2
  refine bcase_mk (fun h3 => ?_) (fun h3 => ?_)
  · have h3 := of_decide_eq_true h3
    refine hP (k := 3) ?_ rfl rfl
    unfold partN; rw [if_neg (by omega), if_neg (by omega), if_pos (by omega)]
  have h3 := of_decide_eq_false h3
  refine bcase_mk (fun h4 => ?_) (fun h4 => ?_)
  · have h4 := of_decide_eq_true h4
    refine hP (k := 0) ?_ rfl rfl
    unfold partN; rw [if_neg (by omega), if_neg (by omega), if_neg (by omega), if_neg (by omega)]
  have h4 := of_decide_eq_false h4
  refine ⟨inr_i32 (by omega) (by omega), by omega, by omega, bcase_mk (fun h5 => ?_) (fun h5 => ?_)⟩
  · have h5 : (r - 44032) % 28 = 0 := by simpa using h5
    refine hP (k := 4) ?_ rfl rfl
    unfold partN; rw [if_neg (by omega), if_neg (by omega), if_neg (by omega), if_pos (by omega), if_pos h5]
  · have h5 : ¬ (r - 44032) % 28 = 0 := by simpa using h5
    refine hP (k := 5) ?_ rfl rfl
    unfold partN; rw [if_neg (by omega), if_neg (by omega), if_neg (by omega), if_pos (by omega), if_neg h5]
theorem rpart_ok : (sRN partN).Ok Tryd.prog 150 := by
  refine rpart_vc trivial ?_
  intro r w _
  have hP : ∀ {n : Nat} {v : Int}, partN r = n → v = (n : Int) → ∃ x : Nat, Value.int .i64 v = .int .i64 (x : Int) ∧ x = partN r ∧ Ext w w := by
    intro n v h1 h3
    exact ⟨n, by rw [h3], h1.symm, Ext.refl _⟩
  refine bcase_mk (fun h => ?_) (fun h => ?_)
  · simp only [Bool.and_eq_true, decide_eq_true_eq] at h
    refine hP (n := 1) ?_ rfl
    unfold partN; rw [if_pos (by omega)]
  simp only [Bool.and_eq_false_iff, decide_eq_false_iff_not] at h
  refine bcase_mk (fun h1 => ?_) (fun h1 => ?_)
  · simp only [Bool.and_eq_true, decide_eq_true_eq] at h1
    refine hP (n := 2) ?_ rfl
    unfold partN; rw [if_neg (by omega), if_pos (by omega)]
  simp only [Bool.and_eq_false_iff, decide_eq_false_iff_not] at h1
  refine bcase_mk (fun h2 => ?_) (fun h2 => ?_)
  · simp only [Bool.and_eq_true, decide_eq_true_eq] at h2
    refine hP (n := 3) ?_ rfl
    unfold partN; rw [if_neg (by omega), if_neg (by omega), if_pos (by omega)]
  simp only [Bool.and_eq_false_iff, decide_eq_false_iff_not] at h2
  have none : ¬ (44032 ≤ r ∧ r ≤ 55203) → partN r = 0 := fun h4 => by
    unfold partN; rw [if_neg (by omega), if_neg (by omega), if_neg (by omega), if_neg h4]
  have last : ∀ (A : ¬ (44032 ≤ r ∧ r ≤ 55203)), bcase (decide (r ≥ 44032) && decide (r ≤ 55203)) (∃ x : Nat, Value.int .i64 5 = .int .i64 (x : Int) ∧ x = partN r ∧ Ext w w) (∃ x : Nat, Value.int .i64 0 = .int .i64 (x : Int) ∧ x = partN r ∧ Ext w w) := fun A =>
    bcase_mk (fun h => by simp only [Bool.and_eq_true, decide_eq_true_eq] at h; omega) (fun _ => hP (none A) rfl)
  refine bcase_mk (fun h3 => ?_) (fun h3 => last (by have := of_decide_eq_false h3; omega))
  refine bcase_mk (fun h4 => ?_) (fun h4 => last (by have := of_decide_eq_false h4; omega))
  have h3 := of_decide_eq_true h3
  have h4 := of_decide_eq_true h4
  refine ⟨inr_i32 (by omega) (by omega), by omega, by omega, bcase_mk (fun h5 => ?_) (fun h5 => ?_)⟩
  · have h5 : (r - 44032) % 28 = 0 := by simpa using h5
    refine hP (n := 4) ?_ rfl
    unfold partN; rw [if_neg (by omega), if_neg (by omega), if_neg (by omega), if_pos (by omega), if_pos h5]
  · have h5 : ¬ (r - 44032) % 28 = 0 := by simpa using h5
    refine bcase_mk (fun _ => hP (n := 5) ?_ rfl) (fun h => by simp only [Bool.and_eq_false_iff, decide_eq_false_iff_not] at h; omega)
    unfold partN; rw [if_neg (by omega), if_neg (by omega), if_neg (by omega), if_pos (by omega), if_neg h5]

theorem part_lt (r : Int) : partN r < 6 := by
  unfold partN
  repeat' split
  all_goals omega
theorem goes_all : ∀ a : Fin 6, ∀ b : Fin 6, (bitN a.val = 1 → (IntKind.i64.wrap ((BitVec.ofInt IntKind.i64.bits 27 &&& BitVec.ofInt IntKind.i64.bits ((bitN b.val : Nat) : Int)).toNat : Int) != 0) = sylT a.val b.val) ∧
    ((bitN a.val = 2 ∨ bitN a.val = 8) → (IntKind.i64.wrap ((BitVec.ofInt IntKind.i64.bits 6 &&& BitVec.ofInt IntKind.i64.bits ((bitN b.val : Nat) : Int)).toNat : Int) != 0) = sylT a.val b.val) ∧
    ((bitN a.val = 4 ∨ bitN a.val = 16) → (IntKind.i64.wrap ((BitVec.ofInt IntKind.i64.bits 4 &&& BitVec.ofInt IntKind.i64.bits ((bitN b.val : Nat) : Int)).toNat : Int) != 0) = sylT a.val b.val) ∧
    (bitN a.val ≠ 1 → bitN a.val ≠ 2 → bitN a.val ≠ 8 → bitN a.val ≠ 4 → bitN a.val ≠ 16 → false = sylT a.val b.val) := by decide +kernel
theorem goesP_ok : (sTwoB sylB).Ok Tryd.prog 111 := by
  refine goesP_vc ⟨part_ok, trivial⟩ ?_
  rintro ⟨a, b⟩ w _
  dsimp only
  obtain ⟨g1, g2, g3, g4⟩ := goes_all ⟨partN a, part_lt a⟩ ⟨partN b, part_lt b⟩
  dsimp only at g1 g2 g3 g4
  refine ⟨a, rfl, trivial, ?_⟩
  rintro _ w1 ⟨rfl, e1⟩
  refine bcase_mk (fun h => ?_) (fun h => ?_)
  · refine ⟨b, rfl, trivial, ?_⟩
    rintro _ w2 ⟨rfl, e2⟩
    exact ⟨_, rfl, g1 (by simp only [beq_iff_eq] at h; unfold partP at h; omega), e1.trans e2⟩
  refine bcase_mk (fun h1 => ?_) (fun h1 => ?_)
  · refine ⟨b, rfl, trivial, ?_⟩
    rintro _ w2 ⟨rfl, e2⟩
    exact ⟨_, rfl, g2 (by simp only [Bool.or_eq_true, beq_iff_eq] at h1; unfold partP at h1; omega), e1.trans e2⟩
  refine bcase_mk (fun h2 => ?_) (fun h2 => ?_)
  · refine ⟨b, rfl, trivial, ?_⟩
    rintro _ w2 ⟨rfl, e2⟩
    exact ⟨_, rfl, g3 (by simp only [Bool.or_eq_true, beq_iff_eq] at h2; unfold partP at h2; omega), e1.trans e2⟩
  · refine ⟨b, rfl, trivial, ?_⟩
    rintro _ w2 ⟨rfl, e2⟩
    simp only [Bool.or_eq_false_iff, beq_eq_false_iff_ne, ne_eq] at h h1 h2
    unfold partP at h h1 h2
    exact ⟨_, rfl, g4 (by omega) (by omega) (by omega) (by omega) (by omega), e1.trans e2⟩
theorem syl_all : ∀ a : Fin 6, ∀ b : Fin 6, (a.val = 1 → (((b.val : Nat) : Int) == 1 || (((b.val : Nat) : Int) == 2 || (((b.val : Nat) : Int) == 4 || ((b.val : Nat) : Int) == 5))) = sylT a.val b.val) ∧ ((a.val = 2 ∨ a.val = 4) → (((b.val : Nat) : Int) == 2 || ((b.val : Nat) : Int) == 3) = sylT a.val b.val) ∧
    ((a.val = 3 ∨ a.val = 5) → (((b.val : Nat) : Int) == 3) = sylT a.val b.val) ∧ (a.val = 0 → false = sylT a.val b.val) := by decide +kernel
theorem syl_ok : (sTwoB sylB).Ok Tryd.prog 142 := by
  refine syl_vc ⟨rpart_ok, trivial⟩ ?_
  rintro ⟨a, b⟩ w _
  dsimp only
  obtain ⟨g1, g2, g3, g4⟩ := syl_all ⟨partN a, part_lt a⟩ ⟨partN b, part_lt b⟩
  have hlt := part_lt a
  dsimp only at g1 g2 g3 g4
  refine ⟨a, rfl, trivial, ?_⟩
  rintro _ w1 ⟨rfl, e1⟩
  refine ⟨b, rfl, trivial, ?_⟩
  rintro _ w2 ⟨rfl, e2⟩
  have E := e1.trans e2
  refine bcase_mk (fun h => ⟨_, rfl, g1 (by simp only [beq_iff_eq] at h; omega), E⟩) (fun h => ?_)
  refine bcase_mk (fun h1 => ⟨_, rfl, g2 (by simp only [Bool.or_eq_true, beq_iff_eq] at h1; omega), E⟩) (fun h1 => ?_)
  refine bcase_mk (fun h2 => ⟨_, rfl, g3 (by simp only [Bool.or_eq_true, beq_iff_eq] at h2; omega), E⟩) (fun h2 => ?_)
  simp only [Bool.or_eq_false_iff, beq_eq_false_iff_ne, ne_eq] at h h1 h2
  exact ⟨_, rfl, g4 (by omega), E⟩

theorem takes_ok : sTakes.Ok Tryd.prog 125 := by
  refine takes_vc ⟨rkind_ok, rjoiner_ok, rregional_ok, rpicture_ok, syl_ok, trivial⟩ ?_
  rintro ⟨x, z, y, n⟩ w _
  dsimp only
  have hn : ((n : Int) == 1) = (n == 1) := by
    rw [Bool.eq_iff_iff, beq_iff_eq, beq_iff_eq]; omega
  rw [hn]
  clear hn
  refine ⟨y, rfl, trivial, ?_⟩
  rintro _ w1 ⟨rfl, hw⟩
  have E : Ext w w1 := by rw [hw]; exact Ext.refl w
  clear hw
  repeat' first
    | refine ⟨_, rfl, ?_, E⟩
    | refine bcase_mk (fun h => ?_) (fun h => ?_)
    | (refine ⟨_, rfl, trivial, ?_⟩; rintro _ _ ⟨rfl, e⟩; replace E := E.trans e)
    | (refine ⟨(_, _), rfl, trivial, ?_⟩; rintro _ _ ⟨rfl, e⟩; replace E := E.trans e)
  all_goals (clear E; simp_all only [takesB, Bool.true_or, Bool.or_true, Bool.false_or, Bool.and_true, Bool.and_false, Bool.false_and, Bool.true_and, Bool.or_false])

end Go.Proofs.YthpjkgoahneldaaDoor
end

section
/-
  Verification conditions, printed by a program out of the specifications beside this text: each theorem says that the condition suffices. (Lean's kernel compares the printed condition with what 'wpE' computes.)
-/
set_option linter.unusedVariables false
namespace Go.Proofs.YthpjkgoahneldaaDoor
open Go Go.RowKit Vc Ut

set_option maxRecDepth 1000000 in
theorem within_vc (hsp : SpecsOk Tryd.prog []) (h : ∀ (g : Nat × Nat × Nat) (w : World), True → ∃ (x : Bool), Value.bool (decide ((↑g.fst : Int) ≥ (↑g.snd.fst : Int)) && decide ((↑g.fst : Int) ≤ (↑g.snd.snd : Int))) = Value.bool x ∧ x = decide (g.snd.fst ≤ g.fst ∧ g.fst ≤ g.snd.snd) ∧ w = w) :
    (sWithin).Ok Tryd.prog 144 :=
  ok_of_vc sWithin (annOf []) [] (fun _ _ => rfl) (fun _ _ => rfl) hsp Tryd.func144 rfl (n := 3) (fun _ => rfl) (by kernel_rfl) (vcast (by kernel_rfl) h)

set_option maxRecDepth 1000000 in
theorem second_vc (hsp : SpecsOk Tryd.prog spSecond) (h : ∀ (g : Nat) (w : World), True → ∃ (g1 : Nat × Nat × Nat), #[Value.int IntKind.u8 (↑g : Int), Value.int IntKind.u8 (194 : Int), Value.int IntKind.u8 (223 : Int)] = #[Value.int IntKind.u8 (↑g1.fst : Int), Value.int IntKind.u8 (↑g1.snd.fst : Int), Value.int IntKind.u8 (↑g1.snd.snd : Int)] ∧ True ∧ ∀ (x : Bool) (w' : World), x = decide (g1.snd.fst ≤ g1.fst ∧ g1.fst ≤ g1.snd.snd) ∧ w' = w → bcase x (∃ (x1 : Nat × Nat × Nat), Value.tuple #[Value.int IntKind.u8 (128 : Int), Value.int IntKind.u8 (191 : Int), Value.int IntKind.i64 (2 : Int)] = Value.tuple #[Value.int IntKind.u8 (↑x1.fst : Int), Value.int IntKind.u8 (↑x1.snd.fst : Int), Value.int IntKind.i64 (↑x1.snd.snd : Int)] ∧ x1 = secN g ∧ w' = w) (bcase ((↑g : Int) == (224 : Int)) (∃ (x1 : Nat × Nat × Nat), Value.tuple #[Value.int IntKind.u8 (160 : Int), Value.int IntKind.u8 (191 : Int), Value.int IntKind.i64 (3 : Int)] = Value.tuple #[Value.int IntKind.u8 (↑x1.fst : Int), Value.int IntKind.u8 (↑x1.snd.fst : Int), Value.int IntKind.i64 (↑x1.snd.snd : Int)] ∧ x1 = secN g ∧ w' = w) (bcase ((↑g : Int) == (237 : Int)) (∃ (x1 : Nat × Nat × Nat), Value.tuple #[Value.int IntKind.u8 (128 : Int), Value.int IntKind.u8 (159 : Int), Value.int IntKind.i64 (3 : Int)] = Value.tuple #[Value.int IntKind.u8 (↑x1.fst : Int), Value.int IntKind.u8 (↑x1.snd.fst : Int), Value.int IntKind.i64 (↑x1.snd.snd : Int)] ∧ x1 = secN g ∧ w' = w) (∃ (g2 : Nat × Nat × Nat), #[Value.int IntKind.u8 (↑g : Int), Value.int IntKind.u8 (225 : Int), Value.int IntKind.u8 (239 : Int)] = #[Value.int IntKind.u8 (↑g2.fst : Int), Value.int IntKind.u8 (↑g2.snd.fst : Int), Value.int IntKind.u8 (↑g2.snd.snd : Int)] ∧ True ∧ ∀ (x1 : Bool) (w'1 : World), x1 = decide (g2.snd.fst ≤ g2.fst ∧ g2.fst ≤ g2.snd.snd) ∧ w'1 = w' → bcase x1 (∃ (x2 : Nat × Nat × Nat), Value.tuple #[Value.int IntKind.u8 (128 : Int), Value.int IntKind.u8 (191 : Int), Value.int IntKind.i64 (3 : Int)] = Value.tuple #[Value.int IntKind.u8 (↑x2.fst : Int), Value.int IntKind.u8 (↑x2.snd.fst : Int), Value.int IntKind.i64 (↑x2.snd.snd : Int)] ∧ x2 = secN g ∧ w'1 = w) (bcase ((↑g : Int) == (240 : Int)) (∃ (x2 : Nat × Nat × Nat), Value.tuple #[Value.int IntKind.u8 (144 : Int), Value.int IntKind.u8 (191 : Int), Value.int IntKind.i64 (4 : Int)] = Value.tuple #[Value.int IntKind.u8 (↑x2.fst : Int), Value.int IntKind.u8 (↑x2.snd.fst : Int), Value.int IntKind.i64 (↑x2.snd.snd : Int)] ∧ x2 = secN g ∧ w'1 = w) (∃ (g3 : Nat × Nat × Nat), #[Value.int IntKind.u8 (↑g : Int), Value.int IntKind.u8 (241 : Int), Value.int IntKind.u8 (243 : Int)] = #[Value.int IntKind.u8 (↑g3.fst : Int), Value.int IntKind.u8 (↑g3.snd.fst : Int), Value.int IntKind.u8 (↑g3.snd.snd : Int)] ∧ True ∧ ∀ (x2 : Bool) (w'2 : World), x2 = decide (g3.snd.fst ≤ g3.fst ∧ g3.fst ≤ g3.snd.snd) ∧ w'2 = w'1 → bcase x2 (∃ (x3 : Nat × Nat × Nat), Value.tuple #[Value.int IntKind.u8 (128 : Int), Value.int IntKind.u8 (191 : Int), Value.int IntKind.i64 (4 : Int)] = Value.tuple
 #[Value.int IntKind.u8 (↑x3.fst : Int), Value.int IntKind.u8 (↑x3.snd.fst : Int), Value.int IntKind.i64 (↑x3.snd.snd : Int)] ∧ x3 = secN g ∧ w'2 = w) (bcase ((↑g : Int) == (244 : Int)) (∃ (x3 : Nat × Nat × Nat), Value.tuple #[Value.int IntKind.u8 (128 : Int), Value.int IntKind.u8 (143 : Int), Value.int IntKind.i64 (4 : Int)] = Value.tuple #[Value.int IntKind.u8 (↑x3.fst : Int), Value.int IntKind.u8 (↑x3.snd.fst : Int), Value.int IntKind.i64 (↑x3.snd.snd : Int)] ∧ x3 = secN g ∧ w'2 = w) (∃ (x3 : Nat × Nat × Nat), Value.tuple #[Value.int IntKind.u8 (0 : Int), Value.int IntKind.u8 (0 : Int), Value.int IntKind.i64 (0 : Int)] = Value.tuple #[Value.int IntKind.u8 (↑x3.fst : Int), Value.int IntKind.u8 (↑x3.snd.fst : Int), Value.int IntKind.i64 (↑x3.snd.snd : Int)] ∧ x3 = secN g ∧ w'2 = w)))))))) :
    (sSecond).Ok Tryd.prog 143 :=
  ok_of_vc sSecond (annOf spSecond) spSecond (fun _ _ => rfl) (fun _ _ => rfl) hsp Tryd.func143 rfl (n := 1) (fun _ => rfl) (by kernel_rfl) (vcast (by kernel_rfl) h)

set_option maxRecDepth 1000000 in
theorem begins_vc (hsp : SpecsOk Tryd.prog spBegins) (h : ∀ (g : ByteArray) (w : World), g.size ≤ (67108864 : Nat) → bcase (g.toList == (ByteArray.mk #[]).toList) (∃ (x : Nat × Nat), Value.tuple #[Value.int IntKind.i64 (0 : Int), Value.int IntKind.i64 (0 : Int)] = Value.tuple #[Value.int IntKind.i64 (↑x.fst : Int), Value.int IntKind.i64 (↑x.snd : Int)] ∧ x.fst = begN g ∧ x.snd = begS g ∧ w = w) (∃ (k : Nat), (0 : Int) = (↑k : Int) ∧ k < g.size ∧ bcase (decide ((↑(g.data.toList.getD k (0 : UInt8)).toNat : Int) < (128 : Int))) (∃ (x : Nat × Nat), Value.tuple #[Value.int IntKind.i64 (1 : Int), Value.int IntKind.i64 (1 : Int)] = Value.tuple #[Value.int IntKind.i64 (↑x.fst : Int), Value.int IntKind.i64 (↑x.snd : Int)] ∧ x.fst = begN g ∧ x.snd = begS g ∧ w = w) (∃ (k1 : Nat), (0 : Int) = (↑k1 : Int) ∧ k1 < g.size ∧ ∃ (g1 : Nat), #[Value.int IntKind.u8 (↑(g.data.toList.getD k1 (0 : UInt8)).toNat : Int)] = #[Value.int IntKind.u8 (↑g1 : Int)] ∧ True ∧ ∀ (x : Nat × Nat × Nat) (w' : World), x = secN g1 ∧ w' = w → bcase ((↑x.snd.snd : Int) == (0 : Int)) (∃ (x1 : Nat × Nat), Value.tuple #[Value.int IntKind.i64 (0 : Int), Value.int IntKind.i64 (0 : Int)] = Value.tuple #[Value.int IntKind.i64 (↑x1.fst : Int), Value.int IntKind.i64 (↑x1.snd : Int)] ∧ x1.fst = begN g ∧ x1.snd = begS g ∧ w' = w) ((∃ (x1 : Nat), Value.int IntKind.i64 (1 : Int) = Value.int IntKind.i64 (↑x1 : Int) ∧ Value.int IntKind.u8 (↑x.fst : Int) = Value.int IntKind.u8 (↑(loB g x1) : Int) ∧ Value.int IntKind.u8 (↑x.snd.fst : Int) = Value.int IntKind.u8 (↑(hiB g x1) : Int) ∧ w' = w' ∧ (1 : Nat) ≤ x1 ∧ x1 ≤ (secN (bt g (0 : Nat))).snd.snd ∧ x1 ≤ g.size ∧ runB g ((secN (bt g (0 : Nat))).snd.snd - x1) x1 = runB g ((secN (bt g (0 : Nat))).snd.snd - (1 : Nat)) (1 : Nat)) ∧ ∀ (u : Nat → Value) (x1 : Nat) (w'1 : World), w'1 = w' ∧ (1 : Nat) ≤ x1 ∧ x1 ≤ (secN (bt g (0 : Nat))).snd.snd ∧ x1 ≤ g.size ∧ runB g ((secN (bt g (0 : Nat))).snd.snd - x1) x1 = runB g ((secN (bt g (0 : Nat))).snd.snd - (1 : Nat)) (1 : Nat) → bcase (decide ((↑x1 : Int) < (↑x.snd.snd : Int))) (bcase (decide ((↑x1 : Int) < (↑g.size : Int))) (∃ (k2 : Nat), (↑x1 : Int) = (↑k2 : Int) ∧ k2 < g.size ∧ ∃ (g2 : Nat × Nat × Nat), #[Value.int IntKind.u8 (↑(g.data.toList.getD k2 (0 : UInt8)).toNat : Int), Value.int IntKind.u8 (↑(loB g x1) : Int), Value.int IntKind.u8 (↑(hiB g x1) : Int)] = #[Value.int IntKind.u8 (↑g2.fst : Int), Value.int IntKind.u8 (↑g2.snd.fst : Int), Value.int IntKind.u8 (↑g2.snd.snd : Int)] ∧ True ∧ ∀ (x2 : Bool) (w'2 : World), x2 = decide (g2.snd.fst ≤ g2.fst ∧ g2.fst ≤ g2.snd.snd) ∧ w'2 = w'1 → bcase x2 (InR IntKind.i64 ((↑x1 : Int) + (1 : Int)) ∧ ∃ (y : Nat), Value.int IntKind.i64 ((↑x1 : Int) + (1 : Int)) = Value.int IntKind.i64 (↑y : Int) ∧ Value.int IntKind.u8 (128 : Int) = Value.int IntKind.u8 (↑(loB g y) : Int) ∧ Value.int IntKind.u8 (191 : Int) = Value.int IntKind.u8 (↑(hiB g y) : Int) ∧ (w'2 = w' ∧ (1 : Nat) ≤ y ∧ y ≤ (secN (bt g (0 : Nat))).snd.snd ∧ y ≤ g.size ∧
 runB g ((secN (bt g (0 : Nat))).snd.snd - y) y = runB g ((secN (bt g (0 : Nat))).snd.snd - (1 : Nat)) (1 : Nat)) ∧ g.size - y < g.size - x1) (∃ (x3 : Nat × Nat), Value.tuple #[Value.int IntKind.i64 (↑x1 : Int), Value.int IntKind.i64 (↑x.snd.snd : Int)] = Value.tuple #[Value.int IntKind.i64 (↑x3.fst : Int), Value.int IntKind.i64 (↑x3.snd : Int)] ∧ x3.fst = begN g ∧ x3.snd = begS g ∧ w'2 = w)) (∃ (x2 : Nat × Nat), Value.tuple #[Value.int IntKind.i64 (↑x1 : Int), Value.int IntKind.i64 (↑x.snd.snd : Int)] = Value.tuple #[Value.int IntKind.i64 (↑x2.fst : Int), Value.int IntKind.i64 (↑x2.snd : Int)] ∧ x2.fst = begN g ∧ x2.snd = begS g ∧ w'1 = w)) (∃ (x2 : Nat × Nat), Value.tuple #[Value.int IntKind.i64 (↑x1 : Int), Value.int IntKind.i64 (↑x.snd.snd : Int)] = Value.tuple #[Value.int IntKind.i64 (↑x2.fst : Int), Value.int IntKind.i64 (↑x2.snd : Int)] ∧ x2.fst = begN g ∧ x2.snd = begS g ∧ w'1 = w))))) :
    (sBegins).Ok Tryd.prog 126 :=
  ok_of_vc sBegins annBegins spBegins (fun _ _ => rfl) (fun _ _ => rfl) hsp Tryd.func126 rfl (n := 1) (fun _ => rfl) (by kernel_rfl) (vcast (by kernel_rfl) h)

set_option maxRecDepth 1000000 in
theorem number_vc (hsp : SpecsOk Tryd.prog []) (h : ∀ (g : ByteArray) (w : World), (1 : Nat) ≤ g.size ∧ g.size ≤ (4 : Nat) → ∀ (b : Nat) (w1 : World), New w (Obj.cells #[Value.int IntKind.u8 (127 : Int), Value.int IntKind.u8 (31 : Int), Value.int IntKind.u8 (15 : Int), Value.int IntKind.u8 (7 : Int)] (5 : Nat)) b w1 → ∀ (w11 : World), Drew w1 w11 → ∃ (k : Nat), (0 : Int) = (↑k : Int) ∧ k < g.size ∧ InR IntKind.i64 ((↑g.size : Int) - (1 : Int)) ∧ ∃ (k1 : Nat), (↑g.size : Int) - (1 : Int) = (↑k1 : Int) ∧ k1 < (4 : Nat) ∧ ∃ (n : Int), w1.cell? { block := b, off := (0 : Nat) + k1 } = some (Value.int IntKind.u8 n) ∧ InR IntKind.i32 (IntKind.u8.wrap (↑(BitVec.ofInt IntKind.u8.bits (↑(g.data.toList.getD k (0 : UInt8)).toNat : Int) &&& BitVec.ofInt IntKind.u8.bits n).toNat : Int)) ∧ (∃ (x : Nat), Value.int IntKind.i64 (1 : Int) = Value.int IntKind.i64 ((↑x : Int) + (1 : Int)) ∧ Value.int IntKind.i32 (IntKind.u8.wrap (↑(BitVec.ofInt IntKind.u8.bits (↑(g.data.toList.getD k (0 : UInt8)).toNat : Int) &&& BitVec.ofInt IntKind.u8.bits n).toNat : Int)) = Value.int IntKind.i32 (↑(numP g g.size x) : Int) ∧ x + (1 : Nat) ≤ g.size ∧ Ext w11 w11) ∧ ∀ (u : Nat → Value) (x : Nat) (w' : World), x + (1 : Nat) ≤ g.size ∧ Ext w11 w' → bcase (decide ((↑x : Int) + (1 : Int) < (↑g.size : Int))) (InR IntKind.i32 ((64 : Int) * (↑(numP g g.size x) : Int)) ∧ ∃ (k2 : Nat), (↑x : Int) + (1 : Int) = (↑k2 : Int) ∧ k2 < g.size ∧ InR IntKind.i32 (IntKind.u8.wrap (↑(BitVec.ofInt IntKind.u8.bits (↑(g.data.toList.getD k2 (0 : UInt8)).toNat : Int) &&& BitVec.ofInt IntKind.u8.bits (63 : Int)).toNat : Int)) ∧ InR IntKind.i32 ((64 : Int) * (↑(numP g g.size x) : Int) + IntKind.u8.wrap (↑(BitVec.ofInt IntKind.u8.bits (↑(g.data.toList.getD k2 (0 : UInt8)).toNat : Int) &&& BitVec.ofInt IntKind.u8.bits (63 : Int)).toNat : Int)) ∧ InR IntKind.i64 ((↑x : Int) + (1 : Int) + (1 : Int)) ∧ ∃ (y : Nat), Value.int IntKind.i64 ((↑x : Int) + (1 : Int) + (1 : Int)) = Value.int IntKind.i64 ((↑y : Int) + (1 : Int)) ∧ Value.int IntKind.i32 ((64 : Int) * (↑(numP g g.size x) : Int) + IntKind.u8.wrap (↑(BitVec.ofInt IntKind.u8.bits (↑(g.data.toList.getD k2 (0 : UInt8)).toNat : Int) &&& BitVec.ofInt IntKind.u8.bits (63 : Int)).toNat : Int)) = Value.int IntKind.i32 (↑(numP g g.size y) : Int) ∧ (y + (1 : Nat) ≤ g.size ∧ Ext w11 w') ∧ g.size - y < g.size - x) (∃ (x1 : Nat), Value.int IntKind.i32 (↑(numP g g.size x) : Int) = Value.int IntKind.i32 (↑x1 : Int) ∧ x1 = numR g g.size ∧ Ext w w')) :
    (sNumber).Ok Tryd.prog 127 :=
  ok_of_vc sNumber annNumber [] (fun _ _ => rfl) (fun _ _ => rfl) hsp Tryd.func127 rfl (n := 1) (fun _ => rfl) (by kernel_rfl) (vcast (by kernel_rfl) h)

set_option maxRecDepth 1000000 in
theorem rnext_vc (hsp : SpecsOk Tryd.prog spRNext) (h : ∀ (g : ByteArray) (w : World), U8 w ∧ g.size ≤ (67108864 : Nat) → ∃ (g1 : ByteArray), #[Value.string g] = #[Value.string g1] ∧ g1.size ≤ (67108864 : Nat) ∧ ∀ (x : Nat × Nat) (w' : World), x.fst = begN g1 ∧ x.snd = begS g1 ∧ w' = w → bcase (g.toList == (ByteArray.mk #[]).toList) (∃ (x1 : Int × Nat), Value.tuple #[Value.int IntKind.i32 (65533 : Int), Value.int IntKind.i64 (0 : Int)] = Value.tuple #[Value.int IntKind.i32 x1.fst, Value.int IntKind.i64 (↑x1.snd : Int)] ∧ x1.fst = nxR g ∧ x1.snd = nxN g ∧ Ext w w') (bcase ((↑x.fst : Int) == (0 : Int) || decide ((↑x.fst : Int) < (↑x.snd : Int))) (∃ (x1 : Int × Nat), Value.tuple #[Value.int IntKind.i32 (65533 : Int), Value.int IntKind.i64 (1 : Int)] = Value.tuple #[Value.int IntKind.i32 x1.fst, Value.int IntKind.i64 (↑x1.snd : Int)] ∧ x1.fst = nxR g ∧ x1.snd = nxN g ∧ Ext w w') (∃ (k : Nat), (↑x.snd : Int) = (↑k : Int) ∧ (0 : Nat) ≤ k ∧ k ≤ g.size ∧ ∃ (g2 : ByteArray), #[Value.string (g.extract (0 : Nat) k)] = #[Value.string g2] ∧ ((1 : Nat) ≤ g2.size ∧ g2.size ≤ (4 : Nat)) ∧ ∀ (x1 : Nat) (w'1 : World), x1 = numR g2 g2.size ∧ Ext w' w'1 → ∃ (x2 : Int × Nat), Value.tuple #[Value.int IntKind.i32 (↑x1 : Int), Value.int IntKind.i64 (↑x.snd : Int)] = Value.tuple #[Value.int IntKind.i32 x2.fst, Value.int IntKind.i64 (↑x2.snd : Int)] ∧ x2.fst = nxR g ∧ x2.snd = nxN g ∧ Ext w w'1))) :
    ((sDec nxR nxN)).Ok Tryd.prog 86 :=
  ok_of_vc (sDec nxR nxN) (annOf spRNext) spRNext (fun _ _ => rfl) (fun _ _ => rfl) hsp Tryd.func86 rfl (n := 1) (fun _ => rfl) (by kernel_rfl) (vcast (by kernel_rfl) h)

set_option maxRecDepth 1000000 in
theorem next_vc (hsp : SpecsOk Tryd.prog spNext) (h : ∀ (g : ByteArray) (w : World), U8 w ∧ g.size ≤ (67108864 : Nat) → ∃ (g1 : ByteArray), #[Value.string g] = #[Value.string g1] ∧ (U8 w ∧ g1.size ≤ (67108864 : Nat)) ∧ ∀ (x : Int × Nat) (w' : World), x.fst = nxR g1 ∧ x.snd = nxN g1 ∧ Ext w w' → ∃ (x1 : Int × Nat), Value.tuple #[Value.int IntKind.i32 x.fst, Value.int IntKind.i64 (↑x.snd : Int)] = Value.tuple #[Value.int IntKind.i32 x1.fst, Value.int IntKind.i64 (↑x1.snd : Int)] ∧ x1.fst = nxR g ∧ x1.snd = nxN g ∧ Ext w w') :
    ((sDec nxR nxN)).Ok Tryd.prog 63 :=
  ok_of_vc (sDec nxR nxN) (annOf spNext) spNext (fun _ _ => rfl) (fun _ _ => rfl) hsp Tryd.func63 rfl (n := 1) (fun _ => rfl) (by kernel_rfl) (vcast (by kernel_rfl) h)

end Go.Proofs.YthpjkgoahneldaaDoor
end

section
/-
  Chapter 1: one step of the decoders: the document's and the library's say the same.
-/
namespace Go.Proofs.YthpjkgoahneldaaDoor
open Go Go.RowKit Vc Ut

theorem U8.ext {w w' : World} (h : U8 w) (hx : Ext w w') : U8 w' := ⟨fun c hc => hx.cell (h.1 c hc), fun i hi => ⟨hx.cell (h.2 i hi).1, hx.cell (h.2 i hi).2⟩⟩
theorem U8.fr {S : Nat → Prop} {w w' : World} (h : U8 w) (hf : Fr S w w') (h0 : ¬ S 0) (h1 : ¬ S 1) : U8 w' := by
  have k : ∀ (g o : Nat) (v : Value), ¬ S g → w.cell? ⟨g, o, none⟩ = some v → w'.cell? ⟨g, o, none⟩ = some v := fun g o v hg hc =>
    (World.cell?_of_block (w := w) (hf.block g (World.block_lt_of_cell? w _ hc) hg)).trans hc
  exact ⟨fun c hc => k _ _ _ h0 (h.1 c hc), fun i hi => ⟨k _ _ _ h1 (h.2 i hi).1, k _ _ _ h1 (h.2 i hi).2⟩⟩
theorem U8.lt {w : World} (h : U8 w) : 0 < w.heap.size ∧ 1 < w.heap.size :=
  ⟨World.block_lt_of_cell? w _ (h.1 0 (by decide)), World.block_lt_of_cell? w _ (h.2 0 (by decide)).1⟩

theorem str_eq (a b : ByteArray) : (a.toList == b.toList) = decide (a = b) := by
  rw [ByteArray.toList_eq, ByteArray.toList_eq]
  by_cases h : a = b
  · subst h; simp
  · rw [decide_eq_false h]
    have : ¬ a.data.toList = b.data.toList := fun hh => h (ByteArray.ext (Array.ext' hh))
    simpa using this
theorem size_zero {a : ByteArray} (h : a.size = 0) : a = ByteArray.mk #[] := by
  apply ByteArray.ext
  exact Array.eq_empty_of_size_eq_zero h
theorem str_nil (a : ByteArray) : (a.toList == (ByteArray.mk #[]).toList) = decide (a.size = 0) := by
  rw [str_eq]
  exact decide_eq_decide.2 ⟨fun h => by rw [h]; rfl, size_zero⟩

theorem within_ok : sWithin.Ok Tryd.prog 144 := by
  refine within_vc trivial ?_
  rintro ⟨c, a, b⟩ w _
  refine ⟨_, rfl, ?_, rfl⟩
  dsimp only
  rw [Bool.decide_and]
  congr 1 <;> exact decide_eq_decide.2 (by omega)

theorem second_ok : sSecond.Ok Tryd.prog 143 := by
  refine second_vc ⟨within_ok, trivial⟩ ?_
  rintro c w _
  refine ⟨(c, 194, 223), rfl, trivial, ?_⟩
  rintro x w1 ⟨rfl, rfl⟩
  dsimp only
  refine bcase_mk (fun h => ⟨(128, 191, 2), rfl, ?_, rfl⟩) (fun h1 => ?_)
  · simp only [decide_eq_true_eq] at h; unfold secN; rw [if_pos h]
  simp only [decide_eq_false_iff_not] at h1
  refine bcase_mk (fun h => ⟨(160, 191, 3), rfl, ?_, rfl⟩) (fun h2 => ?_)
  · simp only [beq_iff_eq] at h; unfold secN; rw [if_neg h1, if_pos (by omega)]
  simp only [beq_eq_false_iff_ne, ne_eq] at h2
  refine bcase_mk (fun h => ⟨(128, 159, 3), rfl, ?_, rfl⟩) (fun h3 => ?_)
  · simp only [beq_iff_eq] at h; unfold secN; rw [if_neg h1, if_neg (by omega), if_pos (by omega)]
  simp only [beq_eq_false_iff_ne, ne_eq] at h3
  refine ⟨(c, 225, 239), rfl, trivial, ?_⟩
  rintro x w2 ⟨rfl, rfl⟩
  refine bcase_mk (fun h => ⟨(128, 191, 3), rfl, ?_, rfl⟩) (fun h4 => ?_)
  · simp only [decide_eq_true_eq] at h; unfold secN; rw [if_neg h1, if_neg (by omega), if_neg (by omega), if_pos h]
  simp only [decide_eq_false_iff_not] at h4
  refine bcase_mk (fun h => ⟨(144, 191, 4), rfl, ?_, rfl⟩) (fun h5 => ?_)
  · simp only [beq_iff_eq] at h; unfold secN; rw [if_neg h1, if_neg (by omega), if_neg (by omega), if_neg h4, if_pos (by omega)]
  simp only [beq_eq_false_iff_ne, ne_eq] at h5
  refine ⟨(c, 241, 243), rfl, trivial, ?_⟩
  rintro x w3 ⟨rfl, rfl⟩
  refine bcase_mk (fun h => ⟨(128, 191, 4), rfl, ?_, rfl⟩) (fun h6 => ?_)
  · simp only [decide_eq_true_eq] at h; unfold secN; rw [if_neg h1, if_neg (by omega), if_neg (by omega), if_neg h4, if_neg (by omega), if_pos h]
  simp only [decide_eq_false_iff_not] at h6
  refine bcase_mk (fun h => ⟨(128, 143, 4), rfl, ?_, rfl⟩) (fun h7 => ⟨(0, 0, 0), rfl, ?_, rfl⟩)
  · simp only [beq_iff_eq] at h; unfold secN; rw [if_neg h1, if_neg (by omega), if_neg (by omega), if_neg h4, if_neg (by omega), if_neg h6, if_pos (by omega)]
  · simp only [beq_eq_false_iff_ne, ne_eq] at h7; unfold secN; rw [if_neg h1, if_neg (by omega), if_neg (by omega), if_neg h4, if_neg (by omega), if_neg h6, if_neg (by omega)]

theorem runB_stop {s : ByteArray} {f n : Nat} (h : ¬ okB s n) : runB s f n = n := by
  cases f with
  | zero => rfl
  | succ f => unfold runB; rw [if_neg h]
theorem runB_go {s : ByteArray} {k n : Nat} (h : okB s n) (hk : n < k) : runB s (k - n) n = runB s (k - (n + 1)) (n + 1) := by
  rw [show k - n = k - (n + 1) + 1 from by omega]
  unfold runB
  rw [if_pos h]
  cases k - (n + 1) <;> rfl

set_option maxRecDepth 20000 in
theorem begins_ok : sBegins.Ok Tryd.prog 126 := by
  refine begins_vc ⟨second_ok, within_ok, trivial⟩ ?_
  rintro s w hsm
  rw [str_nil]
  refine bcase_mk (fun h => ?_) (fun h => ?_)
  · have h0 : s.size = 0 := by simpa using h
    exact ⟨(0, 0), rfl, by unfold begN; rw [if_pos h0], by unfold begS; rw [if_pos h0], rfl⟩
  have h0 : ¬ s.size = 0 := by simpa using h
  refine ⟨0, rfl, by omega, ?_⟩
  refine bcase_mk (fun h => ?_) (fun h => ?_)
  · have h1 : bt s 0 < 128 := by simp only [decide_eq_true_eq] at h; unfold bt; omega
    exact ⟨(1, 1), rfl, by unfold begN; rw [if_neg h0, if_pos h1], by unfold begS; rw [if_neg h0, if_pos h1], rfl⟩
  have h1 : ¬ bt s 0 < 128 := by simp only [decide_eq_false_iff_not] at h; unfold bt; omega
  refine ⟨0, rfl, by omega, bt s 0, rfl, trivial, ?_⟩
  rintro x w1 ⟨rfl, rfl⟩
  have hS : begS s = (secN (bt s 0)).2.2 := by unfold begS; rw [if_neg h0, if_neg h1]
  refine bcase_mk (fun h => ?_) (fun h => ?_)
  · have h2 : (secN (bt s 0)).2.2 = 0 := by simp only [beq_iff_eq] at h; omega
    exact ⟨(0, 0), rfl, by unfold begN; rw [if_neg h0, if_neg h1, if_pos h2], by rw [hS, h2], rfl⟩
  have h2 : ¬ (secN (bt s 0)).2.2 = 0 := by simp only [beq_eq_false_iff_ne, ne_eq] at h; omega
  have hN : begN s = runB s ((secN (bt s 0)).2.2 - 1) 1 := by unfold begN; rw [if_neg h0, if_neg h1, if_neg h2]
  have hbd := secN_bd (bt s 0)
  refine ⟨⟨1, rfl, rfl, rfl, rfl, Nat.le_refl _, by omega, by omega, rfl⟩, ?_⟩
  rintro _ n w2 ⟨rfl, hn1, hn2, hn3, hrun⟩
  have done : runB s ((secN (bt s 0)).2.2 - n) n = n → ∃ x2 : Nat × Nat, Value.tuple #[.int .i64 n, .int .i64 (secN (bt s 0)).2.2] = Value.tuple #[.int .i64 x2.1, .int .i64 x2.2] ∧ x2.1 = begN s ∧ x2.2 = begS s ∧ w2 = w2 :=
    fun hd => ⟨(n, (secN (bt s 0)).2.2), rfl, by rw [hN, ← hrun, hd], hS.symm, rfl⟩
  refine bcase_mk (fun h => ?_) (fun h => ?_)
  · have hk : n < (secN (bt s 0)).2.2 := by simp only [decide_eq_true_eq] at h; omega
    refine bcase_mk (fun h => ?_) (fun h => ?_)
    · have hs : n < s.size := by simp only [decide_eq_true_eq] at h; omega
      refine ⟨n, rfl, hs, (bt s n, loB s n, hiB s n), rfl, trivial, ?_⟩
      rintro x w3 ⟨rfl, rfl⟩
      dsimp only
      refine bcase_mk (fun h => ?_) (fun h => ?_)
      · have hok : okB s n := by simp only [decide_eq_true_eq] at h; exact ⟨hs, h⟩
        refine ⟨inr_i64 (by omega) (by omega), n + 1, by simp, ?_, ?_, ⟨rfl, by omega, by omega, by omega, by rw [← hrun, runB_go hok hk]⟩, by omega⟩
        · unfold loB; rw [if_neg (by omega)]; rfl
        · unfold hiB; rw [if_neg (by omega)]; rfl
      · exact done (runB_stop (fun hok => by simp only [decide_eq_false_iff_not] at h; exact h hok.2))
    · exact done (runB_stop (fun hok => by simp only [decide_eq_false_iff_not] at h; have := hok.1; omega))
  · have hk : n = (secN (bt s 0)).2.2 := by simp only [decide_eq_false_iff_not] at h; omega
    refine done ?_
    rw [← hk, Nat.sub_self]; rfl

set_option maxRecDepth 100000 in
theorem and_masks : ∀ x : Fin 256, IntKind.u8.wrap ((BitVec.ofInt IntKind.u8.bits ((x.val : Nat) : Int) &&& BitVec.ofInt IntKind.u8.bits 127).toNat : Int) = ((x.val % 128 : Nat) : Int) ∧
    IntKind.u8.wrap ((BitVec.ofInt IntKind.u8.bits ((x.val : Nat) : Int) &&& BitVec.ofInt IntKind.u8.bits 31).toNat : Int) = ((x.val % 32 : Nat) : Int) ∧
    IntKind.u8.wrap ((BitVec.ofInt IntKind.u8.bits ((x.val : Nat) : Int) &&& BitVec.ofInt IntKind.u8.bits 15).toNat : Int) = ((x.val % 16 : Nat) : Int) ∧
    IntKind.u8.wrap ((BitVec.ofInt IntKind.u8.bits ((x.val : Nat) : Int) &&& BitVec.ofInt IntKind.u8.bits 7).toNat : Int) = ((x.val % 8 : Nat) : Int) ∧
    IntKind.u8.wrap ((BitVec.ofInt IntKind.u8.bits ((x.val : Nat) : Int) &&& BitVec.ofInt IntKind.u8.bits 63).toNat : Int) = ((x.val % 64 : Nat) : Int) := by decide
theorem and_mask (s : ByteArray) (i : Nat) {m : Int} {k : Nat} (h : (m = 127 ∧ k = 128) ∨ (m = 31 ∧ k = 32) ∨ (m = 15 ∧ k = 16) ∨ (m = 7 ∧ k = 8) ∨ (m = 63 ∧ k = 64)) :
    IntKind.u8.wrap ((BitVec.ofInt IntKind.u8.bits ((s.data.toList.getD i 0).toNat : Int) &&& BitVec.ofInt IntKind.u8.bits m).toNat : Int) = ((bt s i % k : Nat) : Int) := by
  have := and_masks ⟨bt s i, bt_lt s i⟩
  dsimp only at this
  rcases h with ⟨rfl, rfl⟩ | ⟨rfl, rfl⟩ | ⟨rfl, rfl⟩ | ⟨rfl, rfl⟩ | ⟨rfl, rfl⟩
  · exact this.1
  · exact this.2.1
  · exact this.2.2.1
  · exact this.2.2.2.1
  · exact this.2.2.2.2

theorem number_ok : sNumber.Ok Tryd.prog 127 := by
  refine number_vc trivial ?_
  rintro s w ⟨h1, h4⟩ b w1 hn w2 hd
  have hcell : ∃ m : Int, w1.cell? ⟨b, 0 + (s.size - 1), none⟩ = some (.int .u8 m) ∧ ((m = 127 ∧ maskN s.size = 128) ∨ (m = 31 ∧ maskN s.size = 32) ∨ (m = 15 ∧ maskN s.size = 16) ∨ (m = 7 ∧ maskN s.size = 8) ∨ (m = 63 ∧ maskN s.size = 64)) := by
    rw [Nat.zero_add, hn.cell]
    have : s.size = 1 ∨ s.size = 2 ∨ s.size = 3 ∨ s.size = 4 := by omega
    rcases this with h | h | h | h <;> rw [h]
    · exact ⟨127, rfl, .inl ⟨rfl, rfl⟩⟩
    · exact ⟨31, rfl, .inr (.inl ⟨rfl, rfl⟩)⟩
    · exact ⟨15, rfl, .inr (.inr (.inl ⟨rfl, rfl⟩))⟩
    · exact ⟨7, rfl, .inr (.inr (.inr (.inl ⟨rfl, rfl⟩)))⟩
  obtain ⟨m, hc, hm⟩ := hcell
  have hmod := and_mask s 0 hm
  have hb := bt_lt s 0
  have hml : bt s 0 % maskN s.size ≤ bt s 0 := Nat.mod_le _ _
  refine ⟨0, rfl, by omega, inr_i64 (by omega) (by omega), s.size - 1, by omega, by omega, m, hc, ?_, ⟨0, rfl, ?_, by omega, Ext.refl _⟩, ?_⟩
  · rw [hmod]; exact inr_i32 (by omega) (by omega)
  · rw [hmod]; rfl
  rintro _ n w3 ⟨hn1, hw3⟩
  refine bcase_mk (fun h => ?_) (fun h => ?_)
  · have hn2 : n + 1 < s.size := by simp only [decide_eq_true_eq] at h; omega
    have hp := numP_le s s.size n
    have hp64 : (64 : Nat) ^ n ≤ 64 ^ 2 := Nat.pow_le_pow_right (by omega) (by omega)
    have hm63 := and_mask s (n + 1) (m := 63) (k := 64) (.inr (.inr (.inr (.inr ⟨rfl, rfl⟩))))
    have h64 : bt s (n + 1) % 64 < 64 := Nat.mod_lt _ (by omega)
    refine ⟨inr_i32 (by omega) (by omega), n + 1, by omega, hn2, ?_, ?_, inr_i64 (by omega) (by omega), n + 1, by simp, ?_, ⟨by omega, hw3⟩, by omega⟩
    · rw [hm63]; exact inr_i32 (by omega) (by omega)
    · rw [hm63]; exact inr_i32 (by omega) (by omega)
    · rw [hm63]; simp only [numP]; simp
  · have hn2 : n = s.size - 1 := by simp only [decide_eq_false_iff_not] at h; omega
    refine ⟨numP s s.size n, rfl, by unfold numR; rw [hn2], ?_⟩
    exact Ext.trans hn.ext (Ext.trans hd.ext hw3)

theorem numP_ext {s : ByteArray} {k a n : Nat} (hk : k ≤ s.size) (hn : n < k) : numP (s.extract 0 k) a n = numP s a n := by
  induction n with
  | zero => simp only [numP]; rw [bt_ext (by omega)]
  | succ n ih => simp only [numP]; rw [ih (by omega), bt_ext (by omega), Nat.zero_add]

theorem rnext_ok : (sDec nxR nxN).Ok Tryd.prog 86 := by
  refine rnext_vc ⟨begins_ok, number_ok, trivial⟩ ?_
  rintro s w ⟨hU, hsm⟩
  refine ⟨s, rfl, hsm, ?_⟩
  rintro ⟨n, k⟩ w1 ⟨hn, hk, rfl⟩
  dsimp only at hn hk ⊢
  have hx := nextR_nx s
  rw [str_nil]
  refine bcase_mk (fun h => ?_) (fun h => ?_)
  · have h0 : s.size = 0 := by simpa using h
    exact ⟨(65533, 0), rfl, by unfold nxR; rw [if_pos h0], by unfold nxN; rw [if_pos h0], Ext.refl _⟩
  have h0 : ¬ s.size = 0 := by simpa using h
  unfold nextR at hx
  rw [if_neg h0] at hx
  refine bcase_mk (fun h => ?_) (fun h => ?_)
  · have hb : begN s = 0 ∨ begN s < begS s := by simp only [Bool.or_eq_true, beq_iff_eq, decide_eq_true_eq] at h; omega
    rw [if_pos hb] at hx
    exact ⟨(65533, 1), rfl, hx.1, hx.2, Ext.refl _⟩
  · have hb : ¬ (begN s = 0 ∨ begN s < begS s) := by simp only [Bool.or_eq_false_iff, beq_eq_false_iff_ne, ne_eq, decide_eq_false_iff_not] at h; omega
    rw [if_neg hb] at hx
    have hle := begN_le s
    have hsz : (s.extract 0 k).size = k := by rw [size_ext (by omega)]; rfl
    refine ⟨k, rfl, Nat.zero_le _, by omega, _, rfl, by rw [hsz]; omega, ?_⟩
    rintro x w2 ⟨hx2, hw2⟩
    refine ⟨(x, k), rfl, ?_, by rw [hk]; exact hx.2, hw2⟩
    dsimp only
    rw [hx2, hsz, ← hx.1, hk]
    unfold numR
    rw [numP_ext (by omega) (by omega)]

theorem dec_ok : (sDec nxR nxN).Ok Tryd.prog 99 := by
  rintro (s : ByteArray) w ⟨hU, hsm⟩
  refine (Tryd.utf8_DecodeRuneInString s w hU).mono fun e w' ⟨he, hx⟩ => ⟨(nxR s, nxN s), ?_, ⟨rfl, rfl, hx⟩, KO.below hx (Nat.le_refl _)⟩
  have := decodeGo_eq s
  rw [he, this.1, this.2]; rfl
theorem next_ok : (sDec nxR nxN).Ok Tryd.prog 63 := by
  refine next_vc ⟨dec_ok, trivial⟩ ?_
  rintro s w hp
  refine ⟨s, rfl, hp, ?_⟩
  rintro x w1 ⟨h1, h2, h3⟩
  exact ⟨x, rfl, h1, h2, h3⟩
/-! ### FullRuneInString -/

theorem wholeB_cases (s : ByteArray) (h0 : s.size ≠ 0) : wholeB s = if begS s ≤ s.size then true else if 1 < s.size ∧ ¬ okB s 1 then true else if 2 < s.size ∧ ¬ okB s 2 then true else false := by
  have hle := begN_le s
  unfold wholeB
  by_cases h1 : begS s ≤ s.size
  · rw [if_pos h1]; simp only [decide_eq_true_eq]; omega
  · rw [if_neg h1]
    have hS : begS s = (secN (bt s 0)).2.2 ∧ ¬ bt s 0 < 128 := by
      unfold begS at h1 ⊢
      rw [if_neg h0] at h1 ⊢
      by_cases h : bt s 0 < 128
      · rw [if_pos h] at h1; omega
      · exact ⟨if_neg h, h⟩
    have hN : begN s = runB s (begS s - 1) 1 := by
      unfold begN; rw [if_neg h0, if_neg hS.2, ← hS.1, if_neg (by omega)]
    have : s.size = 1 ∨ s.size = 2 ∨ s.size = 3 := by omega
    rcases this with h | h | h
    · have : ¬ okB s 1 := fun hh => by have := hh.1; omega
      rw [runB_stop this] at hN
      rw [if_neg (by omega), if_neg (by omega)]; simp only [decide_eq_false_iff_not]; omega
    · have n2 : ¬ okB s 2 := fun hh => by have := hh.1; omega
      by_cases k1 : okB s 1
      · rw [runB_go k1 (by omega), runB_stop n2] at hN
        rw [if_neg (fun hh => hh.2 k1), if_neg (by omega)]; simp only [decide_eq_false_iff_not]; omega
      · rw [runB_stop k1] at hN
        rw [if_pos ⟨by omega, k1⟩]; simp only [decide_eq_true_eq]; omega
    · have n3 : ¬ okB s 3 := fun hh => by have := hh.1; omega
      by_cases k1 : okB s 1
      · rw [runB_go k1 (by omega)] at hN
        rw [if_neg (fun hh => hh.2 k1)]
        by_cases k2 : okB s 2
        · rw [runB_go k2 (by omega), runB_stop n3] at hN
          rw [if_neg (fun hh => hh.2 k2)]; simp only [decide_eq_false_iff_not]; omega
        · rw [runB_stop k2] at hN
          rw [if_pos ⟨by omega, k2⟩]; simp only [decide_eq_true_eq]; omega
      · rw [runB_stop k1] at hN
        rw [if_pos ⟨by omega, k1⟩]; simp only [decide_eq_true_eq]; omega

set_option maxRecDepth 100000 in
theorem first_sec : ∀ c : Fin 256, IntKind.u8.wrap ((BitVec.ofInt IntKind.u8.bits ((Lib.firstT c.val : Nat) : Int) &&& BitVec.ofInt IntKind.u8.bits 7).toNat : Int) = (if c.val < 128 then 0 else if (secN c.val).2.2 = 0 then 1 else ((secN c.val).2.2 : Int)) ∧
    ((Lib.firstT c.val : Nat) : Int).fdiv (2 ^ min (Int.toNat 4) IntKind.u8.bits) = ((Lib.firstT c.val / 16 : Nat) : Int) ∧ Lib.firstT c.val / 16 < 16 ∧
    ((secN c.val).2.2 ≠ 0 → Lib.accLo (Lib.firstT c.val / 16) = (secN c.val).1 ∧ Lib.accHi (Lib.firstT c.val / 16) = (secN c.val).2.1) := by decide

end Go.Proofs.YthpjkgoahneldaaDoor
end

section
/-
  Elements of slices; the rest of a text.
-/
namespace Go.Proofs.YthpjkgoahneldaaDoor
open Go Go.RowKit Vc Ut

theorem elem32 : ElemOk Tryd.prog 88 21 1 4 := elemOk_mk (.int .i32 0) (by kernel_rfl) (by kernel_rfl) rfl
theorem elem64 : ElemOk Tryd.prog 45 3 1 8 := elemOk_mk (.int .i64 0) (by kernel_rfl) (by kernel_rfl) rfl
theorem elem8 : ElemOk Tryd.prog 64 5 1 1 := elemOk_mk (.int .u8 0) (by kernel_rfl) (by kernel_rfl) rfl
theorem elemI8 : ElemOk Tryd.prog 22 25 1 1 := elemOk_mk (.int .i8 0) (by kernel_rfl) (by kernel_rfl) rfl
theorem ext_size {s : ByteArray} {n : Nat} (h : s.size ≤ 67108864) : (s.extract (pos s n) s.size).size ≤ 67108864 := by
  rw [size_ext (Nat.le_refl _)]; omega
theorem nx_drop {s : ByteArray} {n : Nat} (h : pos s n < s.size) : nxR (s.extract (pos s n) s.size) = dcR s (pos s n) ∧ nxN (s.extract (pos s n) s.size) = dcN s (pos s n) := by
  have hz : ¬ (s.extract (pos s n) s.size).size = 0 := by rw [size_ext (Nat.le_refl _)]; omega
  unfold nxR nxN dcR dcN
  rw [if_neg hz, if_neg hz, decode_drop s (by omega)]
  exact ⟨rfl, rfl⟩

end Go.Proofs.YthpjkgoahneldaaDoor
end

section
/-
  Chapter 3: the program's step is the document's.
-/
namespace Go.Proofs.YthpjkgoahneldaaDoor
open Go Go.RowKit Vc Ut Tb Cl

theorem next_first {s : ByteArray} (h : 0 < s.size) : nextL s = pos s (firstN s 0) := by
  have h0 : 0 < ncl s := Nat.pos_of_ne_zero (fun e => by have := ncl_zero.1 e; omega)
  unfold nextL bp
  rw [bk_succ h0]
  show pos s (bk s 0 + firstN s (bk s 0)) = _
  rw [show bk s 0 = 0 from rfl, Nat.zero_add]
theorem next_zero {s : ByteArray} (h : s.size = 0) : nextL s = 0 := by
  have := bp_le s 1
  unfold nextL; omega
theorem goB0 (s : ByteArray) (n : Nat) : goB s 0 n = (decide (n < cnt s) && (decide (n < 32) && (!isBad s n && takesB (sg s 0) (sg s (n - 1)) (sg s n) n))) := by
  unfold goB; rw [Nat.zero_add]

/-- Where the run stands with n signs taken. -/
structure At (s : ByteArray) (n : Nat) : Prop where
  pos : 1 ≤ n
  cnt : n ≤ cnt s
  most : n ≤ 32
  size : 0 < s.size
  go : goN s 0 (33 - n) n = firstN s 0
theorem At.stop {s : ByteArray} {n : Nat} (h : At s n) (hg : goB s 0 n = false) : Ut.pos s n = nextL s := by
  rw [next_first h.size, ← h.go, goN_stop hg]
theorem At.next {s : ByteArray} {n : Nat} (h : At s n) (hg : goB s 0 n = true) : At s (n + 1) := by
  have h1 := goN_step hg
  rw [goB0] at hg
  simp only [Bool.and_eq_true, decide_eq_true_eq] at hg
  exact ⟨by omega, by omega, by omega, h.size, by rw [← h1.2]; exact h.go⟩
/-- What the test says: the text's end, or a bad byte. -/
theorem At.test {s : ByteArray} {n : Nat} (h : At s n) {r : Int} {k : Nat} (hr : r = nxR (s.extract (Ut.pos s n) s.size)) (hk : k = nxN (s.extract (Ut.pos s n) s.size)) (hn : n < 32) :
    (((Ut.pos s n : Int) == (s.size : Int) || r == 65533 && (k : Int) == 1) = true → goB s 0 n = false) ∧
    (((Ut.pos s n : Int) == (s.size : Int) || r == 65533 && (k : Int) == 1) = false → Ut.pos s n < s.size ∧ r = sg s n ∧ k = dcN s (Ut.pos s n) ∧ goB s 0 n = takesB (sg s 0) (sg s (n - 1)) (sg s n) n) := by
  have hle := pos_le s n
  rw [goB0]
  by_cases hp : Ut.pos s n < s.size
  · obtain ⟨e1, e2⟩ := nx_drop hp
    rw [e1] at hr; rw [e2] at hk
    subst hr hk
    have hc := cnt_lt.2 hp
    have hne : ((Ut.pos s n : Int) == (s.size : Int)) = false := by rw [beq_eq_false_iff_ne]; omega
    have hb : (dcR s (Ut.pos s n) == 65533 && ((dcN s (Ut.pos s n) : Nat) : Int) == 1) = isBad s n := by
      unfold isBad
      rw [Bool.eq_iff_iff]
      simp only [Bool.and_eq_true, beq_iff_eq, decide_eq_true_eq]
      omega
    rw [hne, Bool.false_or, hb, decide_eq_true hc, decide_eq_true hn]
    refine ⟨fun h => by rw [h]; rfl, fun h => ⟨hp, rfl, rfl, by rw [h]; rfl⟩⟩
  · have he : Ut.pos s n = s.size := by omega
    have hc : ¬ n < Ut.cnt s := fun hh => hp (cnt_lt.1 hh)
    have h1 : ((Ut.pos s n : Int) == (s.size : Int)) = true := by rw [he]; exact beq_self_eq_true _
    rw [h1]
    refine ⟨fun _ => by rw [decide_eq_false hc]; rfl, fun h => by simp at h⟩

theorem cnext_ok : (sSN nextL).Ok Tryd.prog 76 := by
  refine cnext_vc ⟨next_ok, alone_ok, ckind_ok, joiner_ok, regional_ok, picture_ok, goesP_ok, trivial⟩ ?_
  rintro (s : ByteArray) w ⟨hU, hsm⟩
  have hp0 : pos s 0 = 0 := rfl
  refine ⟨?_, ?_, ?_, trivial⟩
  · refine ⟨s, rfl, ⟨hU, hsm⟩, ?_⟩
    rintro ⟨r, m⟩ w1 ⟨hr, hm, e1⟩
    dsimp only at hr hm ⊢
    refine bcase_mk (fun h => ?_) (fun h => ?_)
    · rw [str_nil] at h
      refine ⟨0, rfl, ?_, e1⟩
      rw [next_zero (of_decide_eq_true h)]
    rw [str_nil] at h
    have hz : 0 < s.size := Nat.pos_of_ne_zero (of_decide_eq_false h)
    have hc0 : 0 < cnt s := cnt_lt.2 (by rw [hp0]; exact hz)
    have hR : r = sg s 0 := by rw [hr]; unfold nxR sg; rw [if_neg (by omega), hp0]
    have hM : m = pos s 1 := by rw [hm, pos_succ (n := 0) (by rw [hp0]; exact hz), hp0]; unfold nxN; rw [if_neg (by omega), Nat.zero_add]
    have hMd : m = dcN s (pos s 0) := by rw [hM, pos_succ (n := 0) (by rw [hp0]; exact hz), hp0, Nat.zero_add]
    clear hr hm
    -- what follows where the first sign neither is bad nor stands alone
    have go : ∀ {w2 : World}, Ext w w2 → isBad s 0 = false → aloneB (sg s 0) = false → At s 1 := by
      intro w2 _ hb ha
      refine ⟨Nat.le_refl _, hc0, by decide, hz, ?_⟩
      have hcr : crB s 0 = false := by
        unfold crB
        by_cases h13 : sg s 0 = 13
        · rw [h13, alone_13] at ha; cases ha
        · rw [beq_eq_false_iff_ne.2 h13]; rfl
      unfold firstN
      rw [if_neg (by rw [hb]; decide), if_neg (by rw [hcr]; decide), if_neg (by rw [ha]; decide)]
    subst hR
    have key : ∀ {w2 : World}, Ext w w2 → At s 1 → ∀ (k : Nat), (m : Int) = (k : Int) → k = pos s 1 := fun _ _ k hk => by omega
    have hbad : isBad s 0 = (sg s 0 == 65533 && (m : Int) == 1) := by
      unfold isBad
      rw [Bool.eq_iff_iff]
      simp only [Bool.and_eq_true, beq_iff_eq, decide_eq_true_eq]
      unfold sg
      omega
    have single : ∀ {w2 : World}, Ext w w2 → (isBad s 0 = true ∨ aloneB (sg s 0) = true) → ∃ _ : Unit, Value.int .i32 (sg s 0) = .int .i32 (sg s 0) ∧ Value.int .i64 (m : Int) = .int .i64 (pos s 1 : Int) ∧ 0 < s.size ∧ (isBad s 0 = true ∨ aloneB (sg s 0) = true) ∧ Ext w w2 := fun e hh => ⟨(), rfl, by rw [hM], hz, hh, e⟩
    refine bcase_mk (fun h1 => bcase_mk (fun h2 => single e1 (.inl (by rw [hbad, h1, h2]; rfl))) (fun h2 => ?_)) (fun h1 => ?_)
    · have hb : isBad s 0 = false := by rw [hbad]; simp [h2]
      refine ⟨sg s 0, rfl, trivial, ?_⟩
      rintro _ w2 ⟨rfl, e2⟩
      refine bcase_mk (fun ha => single (e1.trans e2) (.inr ha)) (fun ha => ?_)
      have hA := go (e1.trans e2) hb ha
      have hple := pos_le s 1
      refine ⟨pos s 1, by rw [hM], hple, Nat.le_refl _, _, rfl, ⟨hU.ext (e1.trans e2), ext_size hsm⟩, ?_⟩
      rintro ⟨r', m'⟩ w3 ⟨hr', hm', e3⟩
      dsimp only at hr' hm' ⊢
      obtain ⟨t1, t2⟩ := hA.test hr' hm' (by decide)
      have E3 := (e1.trans e2).trans e3
      rw [hM]
      refine ⟨?_, ?_⟩
      · refine bcase_mk (fun h3 => ⟨_, rfl, hA.stop (t1 h3), E3⟩) (fun h3 => ?_)
        obtain ⟨hp, hr2, hm2, hgo⟩ := t2 h3
        clear t1 t2 h3 hr' hm'
        subst hr2
        have take : takesB (sg s 0) (sg s 0) (sg s 1) 1 = true → goB s 0 1 = true := fun h => by rw [hgo]; exact h
        have stop : takesB (sg s 0) (sg s 0) (sg s 1) 1 = false → pos s 1 = nextL s := fun h => hA.stop (by rw [hgo]; exact h)
        refine ⟨sg s 1, rfl, trivial, ?_⟩
        rintro _ w4 ⟨rfl, e4⟩
        clear hgo single hbad go key h1 hb ha
        have E := e4
        clear e4
        repeat' first
          | refine ⟨1, rfl, take ?_, E⟩
          | refine ⟨_, rfl, stop ?_, E3.trans E⟩
          | refine bcase_mk (fun h => ?_) (fun h => ?_)
          | (refine ⟨_, rfl, trivial, ?_⟩; rintro _ _ ⟨rfl, e⟩; replace E := E.trans e)
          | (refine ⟨(_, _), rfl, trivial, ?_⟩; rintro _ _ ⟨rfl, e⟩; replace E := E.trans e)
        all_goals (clear E take stop; first | (simp_all only [takesB, Bool.true_or, Bool.or_true, Bool.false_or, Bool.or_false, Bool.and_true, Bool.and_false, Bool.false_and, Bool.true_and, beq_self_eq_true, reduceCtorEq]; done) | (simp_all only [takesB, Bool.true_or, Bool.or_true, Bool.false_or, Bool.or_false, Bool.and_true, Bool.and_false, Bool.false_and, Bool.true_and, beq_self_eq_true, reduceCtorEq]; rename_i h; exact h))
      · rintro _ c w5 ⟨hc, hg, e5⟩
        have hc1 : c = 1 := by omega
        subst hc1
        have hN := hA.next hg
        have hp := cnt_lt.1 (show 1 < cnt s from hN.cnt)
        obtain ⟨x1, x2⟩ := nx_drop hp
        rw [x1] at hr'; rw [x2] at hm'
        have hdc := dcN_le hp
        have hps := pos_succ hp
        refine ⟨inr_i64 (by omega) (by omega), inr_i64 (by omega) (by omega), 2, rfl, by rw [hr']; rfl, rfl, ?_, hN.pos, hN.cnt, hN.most, hN.size, hN.go, E3.trans e5⟩
        rw [hps, hm']; simp
    · have hb : isBad s 0 = false := by rw [hbad]; simp [h1]
      refine ⟨sg s 0, rfl, trivial, ?_⟩
      rintro _ w2 ⟨rfl, e2⟩
      refine bcase_mk (fun ha => single (e1.trans e2) (.inr ha)) (fun ha => ?_)
      have hA := go (e1.trans e2) hb ha
      have hple := pos_le s 1
      refine ⟨pos s 1, by rw [hM], hple, Nat.le_refl _, _, rfl, ⟨hU.ext (e1.trans e2), ext_size hsm⟩, ?_⟩
      rintro ⟨r', m'⟩ w3 ⟨hr', hm', e3⟩
      dsimp only at hr' hm' ⊢
      obtain ⟨t1, t2⟩ := hA.test hr' hm' (by decide)
      have E3 := (e1.trans e2).trans e3
      rw [hM]
      refine ⟨?_, ?_⟩
      · refine bcase_mk (fun h3 => ⟨_, rfl, hA.stop (t1 h3), E3⟩) (fun h3 => ?_)
        obtain ⟨hp, hr2, hm2, hgo⟩ := t2 h3
        clear t1 t2 h3 hr' hm'
        subst hr2
        have take : takesB (sg s 0) (sg s 0) (sg s 1) 1 = true → goB s 0 1 = true := fun h => by rw [hgo]; exact h
        have stop : takesB (sg s 0) (sg s 0) (sg s 1) 1 = false → pos s 1 = nextL s := fun h => hA.stop (by rw [hgo]; exact h)
        refine ⟨sg s 1, rfl, trivial, ?_⟩
        rintro _ w4 ⟨rfl, e4⟩
        clear hgo single hbad go key h1 hb ha
        have E := e4
        clear e4
        repeat' first
          | refine ⟨1, rfl, take ?_, E⟩
          | refine ⟨_, rfl, stop ?_, E3.trans E⟩
          | refine bcase_mk (fun h => ?_) (fun h => ?_)
          | (refine ⟨_, rfl, trivial, ?_⟩; rintro _ _ ⟨rfl, e⟩; replace E := E.trans e)
          | (refine ⟨(_, _), rfl, trivial, ?_⟩; rintro _ _ ⟨rfl, e⟩; replace E := E.trans e)
        all_goals (clear E take stop; first | (simp_all only [takesB, Bool.true_or, Bool.or_true, Bool.false_or, Bool.or_false, Bool.and_true, Bool.and_false, Bool.false_and, Bool.true_and, beq_self_eq_true, reduceCtorEq]; done) | (simp_all only [takesB, Bool.true_or, Bool.or_true, Bool.false_or, Bool.or_false, Bool.and_true, Bool.and_false, Bool.false_and, Bool.true_and, beq_self_eq_true, reduceCtorEq]; rename_i h; exact h))
      · rintro _ c w5 ⟨hc, hg, e5⟩
        have hc1 : c = 1 := by omega
        subst hc1
        have hN := hA.next hg
        have hp := cnt_lt.1 (show 1 < cnt s from hN.cnt)
        obtain ⟨x1, x2⟩ := nx_drop hp
        rw [x1] at hr'; rw [x2] at hm'
        have hdc := dcN_le hp
        have hps := pos_succ hp
        refine ⟨inr_i64 (by omega) (by omega), inr_i64 (by omega) (by omega), 2, rfl, by rw [hr']; rfl, rfl, ?_, hN.pos, hN.cnt, hN.most, hN.size, hN.go, E3.trans e5⟩
        rw [hps, hm']; simp
  · rintro _ n w1 ⟨n1, n2, n3, n4, n5, e1⟩
    have hA : At s n := ⟨n1, n2, n3, n4, n5⟩
    refine bcase_mk (fun h => ⟨_, rfl, hA.stop ?_, e1⟩) (fun h => ?_)
    · have h : n = 32 := by simp only [beq_iff_eq] at h; omega
      rw [goB0, h]; simp
    have hn : n < 32 := by simp only [beq_eq_false_iff_ne, ne_eq] at h; omega
    have hple := pos_le s n
    refine ⟨pos s n, rfl, hple, Nat.le_refl _, _, rfl, ⟨hU.ext e1, ext_size hsm⟩, ?_⟩
    rintro ⟨r', m'⟩ w3 ⟨hr', hm', e3⟩
    dsimp only at hr' hm' ⊢
    obtain ⟨t1, t2⟩ := hA.test hr' hm' hn
    have E3 := e1.trans e3
    have hnb : ((n : Int) == 1) = (n == 1) := by
      rw [Bool.eq_iff_iff, beq_iff_eq, beq_iff_eq]; omega
    refine ⟨?_, ?_⟩
    · refine bcase_mk (fun h3 => ⟨_, rfl, hA.stop (t1 h3), E3⟩) (fun h3 => ?_)
      obtain ⟨hp, hr2, hm2, hgo⟩ := t2 h3
      clear t1 t2 h3 hr' hm'
      subst hr2
      have take : takesB (sg s 0) (sg s (n - 1)) (sg s n) n = true → goB s 0 n = true := fun h => by rw [hgo]; exact h
      have stop : takesB (sg s 0) (sg s (n - 1)) (sg s n) n = false → pos s n = nextL s := fun h => hA.stop (by rw [hgo]; exact h)
      refine ⟨sg s n, rfl, trivial, ?_⟩
      rintro _ w4 ⟨rfl, e4⟩
      rw [hnb]
      clear hgo hnb h
      have E := e4
      clear e4
      repeat' first
        | refine ⟨n, rfl, take ?_, E⟩
        | refine ⟨_, rfl, stop ?_, E3.trans E⟩
        | refine bcase_mk (fun h => ?_) (fun h => ?_)
        | (refine ⟨_, rfl, trivial, ?_⟩; rintro _ _ ⟨rfl, e⟩; replace E := E.trans e)
        | (refine ⟨(_, _), rfl, trivial, ?_⟩; rintro _ _ ⟨rfl, e⟩; replace E := E.trans e)
      all_goals (clear E take stop; first | (simp_all only [takesB, Bool.true_or, Bool.or_true, Bool.false_or, Bool.or_false, Bool.and_true, Bool.and_false, Bool.false_and, Bool.true_and, reduceCtorEq]; done) | (simp_all only [takesB, Bool.true_or, Bool.or_true, Bool.false_or, Bool.or_false, Bool.and_true, Bool.and_false, Bool.false_and, Bool.true_and, reduceCtorEq]; rename_i h; exact h))
    · rintro _ c w5 ⟨hc, hg, e5⟩
      have hc1 : c = n := by omega
      subst hc1
      have hN := hA.next hg
      have hp := cnt_lt.1 (show c < cnt s from hN.cnt)
      obtain ⟨x1, x2⟩ := nx_drop hp
      rw [x1] at hr'; rw [x2] at hm'
      have hdc := dcN_le hp
      have hps := pos_succ hp
      refine ⟨inr_i64 (by omega) (by omega), inr_i64 (by omega) (by omega), c + 1, rfl, by rw [hr']; rfl, by simp, ?_, ⟨hN.pos, hN.cnt, hN.most, hN.size, hN.go, E3.trans e5⟩, by omega⟩
      rw [hps, hm']; simp
  · rintro _ _ w1 ⟨hz, hs, e1⟩
    have hno : ∀ {w2 : World}, ¬ (crB s 0 = true) → pos s 1 = nextL s := by
      intro _ hcr
      rw [next_first hz]
      unfold firstN
      rcases hs with hs | hs
      · rw [if_pos hs]
      · split
        · rfl
        · simp only [if_neg hcr, if_pos hs]
    refine bcase_mk (fun h => ?_) (fun h => ⟨_, rfl, hno (w2 := w) ?_, e1⟩)
    · have h13 : sg s 0 = 13 := by simpa using h
      obtain ⟨c1, c2, c3⟩ := cr_is hz h13
      have hnb : ¬ isBad s 0 = true := by
        unfold isBad
        simp only [decide_eq_true_eq]
        unfold sg at h13
        omega
      refine bcase_mk (fun h1 => ?_) (fun h1 => ⟨_, rfl, hno (w2 := w) ?_, e1⟩)
      · have h1 := of_decide_eq_true h1
        refine ⟨1, rfl, by omega, bcase_mk (fun h2 => ⟨2, rfl, ?_, e1⟩) (fun h2 => ⟨_, rfl, hno (w2 := w) ?_, e1⟩)⟩
        · have hb : bt s 1 = 10 := by simp only [beq_iff_eq] at h2; unfold bt; omega
          have hcr := c2.2 ⟨by omega, hb⟩
          rw [next_first hz]
          unfold firstN
          rw [if_neg hnb, if_pos hcr, c3 hcr]
        · intro hcr
          have := (c2.1 hcr).2
          simp only [beq_eq_false_iff_ne, ne_eq] at h2
          unfold bt at this
          omega
      · have h1 := of_decide_eq_false h1
        intro hcr
        have := (c2.1 hcr).1
        omega
    · intro hcr
      unfold crB at hcr
      rw [h] at hcr
      cases hcr

end Go.Proofs.YthpjkgoahneldaaDoor
end
