/-
  Brackets and mirrors; the stretches by the document's loop, in plain words.
-/
import Derived.Test.YtlklgngdagebfaaTs
set_option linter.unusedVariables false
set_option linter.unusedSimpArgs false
namespace Go.Proofs.Ytlklgngdagebfaa.Tb

def braL : List Int := [40, 41, 91, 93, 123, 125, 12296, 12297, 12298, 12299, 12300, 12301, 12302, 12303, 12304, 12305, 12308, 12309, 12310, 12311, 12312, 12313, 12314, 12315, 65288, 65289, 65339, 65341, 65371, 65373]
def mirL : List Int := [60, 62, 171, 187, 8249, 8250, 8804, 8805, 65308, 65310]
def idxOf (l : List Int) (r : Int) : Option Nat := l.findIdx? (fun x => x == r)
def pairF (r : Int) : Int × Bool × Bool := match idxOf braL r with
  | some i => (braL.getD (i ^^^ 1) 0, i % 2 == 0, true)
  | none => (0, false, false)
def otherF (xs : List Int) (r : Int) : Int × Bool := match idxOf xs r with
  | some i => (xs.getD (i ^^^ 1) 0, true)
  | none => (0, false)
def mirF (r : Int) : Int := if (otherF braL r).2 then (otherF braL r).1 else if (otherF mirL r).2 then (otherF mirL r).1 else r

theorem idxOf_some {l : List Int} {r : Int} {i : Nat} (hi : i < l.length) (h : l.getD i 0 = r) (hn : ∀ j, j < i → l.getD j 0 ≠ r) : idxOf l r = some i := by
  unfold idxOf
  rw [List.findIdx?_eq_some_iff_getElem]
  rw [List.getD_eq_getElem?_getD, List.getElem?_eq_getElem hi] at h
  refine ⟨hi, by simpa using h, fun j hj => ?_⟩
  have := hn j hj
  rw [List.getD_eq_getElem?_getD, List.getElem?_eq_getElem (by omega)] at this
  simpa using this
theorem idxOf_none {l : List Int} {r : Int} (hn : ∀ j, j < l.length → l.getD j 0 ≠ r) : idxOf l r = none := by
  unfold idxOf
  rw [List.findIdx?_eq_none_iff]
  intro x hx
  obtain ⟨j, hj, rfl⟩ := List.mem_iff_getElem.1 hx
  have := hn j hj
  rw [List.getD_eq_getElem?_getD, List.getElem?_eq_getElem hj] at this
  simpa using this
theorem pair_other (r : Int) : otherF braL r = ((pairF r).1, (pairF r).2.2) := by
  unfold otherF pairF
  split <;> rfl

def valueF (t r : Int) : Int × Bool := if t = 0 then (kindR r, true) else if t = 1 then (dirR r, true) else if t = 2 then (widR r, true) else if t = 3 then (markR r, true) else if t = 4 then (joinR r, true) else if t = 5 then (brkR r, true) else (0, false)
/-- The document's loop over its borders. -/
def goF : List Int → List Int → Int → List (Int × Int) → List (Int × Int)
  | b :: b' :: B, x :: V, v, out => goF (b' :: B) V v (if x = v ∧ b ≠ 55296 then joinF out (b, b' - 1) else out)
  | _, _, _, out => out
theorem goF_ref (v : Int) : ∀ (B V : List Int) (out : List (Int × Int)), goF B V v out = (pick v ((pairsF B V).filter fun p => p.1 != 55296)).foldl joinF out
  | [], _, out => by simp [goF, pairsF, pick]
  | [_], _, out => by simp [goF, pairsF, pick]
  | _ :: _ :: _, [], out => by simp [goF, pairsF, pick]
  | b :: b' :: B, x :: V, out => by
    simp only [goF, pairsF]
    rw [goF_ref v (b' :: B) V]
    by_cases hb : b = 55296
    · subst hb
      rw [if_neg (by simp), List.filter_cons_of_neg (by simp)]
    · rw [List.filter_cons_of_pos (by simpa using hb)]
      by_cases hx : x = v
      · rw [if_pos ⟨hx, hb⟩]
        unfold pick
        rw [List.filterMap_cons_some (b := (b, b' - 1)) (by simp [hx])]
        rfl
      · rw [if_neg (fun h => hx h.1)]
        unfold pick
        rw [List.filterMap_cons_none (by simp [hx])]
def refT (t v : Int) : List (Int × Int) := if (valueF t 0).2 then goF bordL (bordL.map fun b => (valueF t b).1) v [] else []
def spansT (t v : Int) : List (Int × Int) := if t = 0 then spansF kindT v else if t = 1 then spansF dirT v else if t = 2 then spansF widT v else if t = 3 then spansF markT v else if t = 4 then spansF joinT v else if t = 5 then spansF brkT v else []

theorem spans_ref (t v : Int) : refT t v = spansT t v := by
  unfold refT spansT
  by_cases h0 : t = 0
  · subst h0
    have : (bordL.map fun b => (valueF 0 b).1) = kindV := kindV_eq
    rw [if_pos (by rfl), if_pos rfl, this, goF_ref]; exact kind_same v
  by_cases h1 : t = 1
  · subst h1
    have : (bordL.map fun b => (valueF 1 b).1) = dirV := dirV_eq
    rw [if_pos (by rfl), if_neg (by decide), if_pos rfl, this, goF_ref]; exact dir_same v
  by_cases h2 : t = 2
  · subst h2
    have : (bordL.map fun b => (valueF 2 b).1) = widV := widV_eq
    rw [if_pos (by rfl), if_neg (by decide), if_neg (by decide), if_pos rfl, this, goF_ref]; exact wid_same v
  by_cases h3 : t = 3
  · subst h3
    have : (bordL.map fun b => (valueF 3 b).1) = markV := markV_eq
    rw [if_pos (by rfl), if_neg (by decide), if_neg (by decide), if_neg (by decide), if_pos rfl, this, goF_ref]; exact mark_same v
  by_cases h4 : t = 4
  · subst h4
    have : (bordL.map fun b => (valueF 4 b).1) = joinV := joinV_eq
    rw [if_pos (by rfl), if_neg (by decide), if_neg (by decide), if_neg (by decide), if_neg (by decide), if_pos rfl, this, goF_ref]; exact join_same v
  by_cases h5 : t = 5
  · subst h5
    have : (bordL.map fun b => (valueF 5 b).1) = brkV := brkV_eq
    rw [if_pos (by rfl), if_neg (by decide), if_neg (by decide), if_neg (by decide), if_neg (by decide), if_neg (by decide), if_pos rfl, this, goF_ref]; exact brk_same v
  have hv : (valueF t 0).2 = false := by
    unfold valueF
    rw [if_neg h0, if_neg h1, if_neg h2, if_neg h3, if_neg h4, if_neg h5]
  rw [hv, if_neg (by decide), if_neg h0, if_neg h1, if_neg h2, if_neg h3, if_neg h4, if_neg h5]

end Go.Proofs.Ytlklgngdagebfaa.Tb
