/-
  The stretches of a value, in plain words: by the steps of a table ('spansF'), by the document's borders ('refF'); they are the same.
-/
import Derived.Test.YtlklgngdagebfaaTv
set_option linter.unusedVariables false
set_option linter.unusedSimpArgs false
namespace Go.Proofs.Ytlklgngdagebfaa.Tb

def findF : List (Int × Int) → Int → Int × Int
  | [], _ => (0, 0)
  | [(_, v)], _ => (v, 1114111)
  | (_, v) :: (b, u) :: T, r => if r < b then (v, b - 1) else findF ((b, u) :: T) r
def risingB : List (Int × Int) → Bool
  | [] => true
  | [_] => true
  | (a, _) :: (b, u) :: T => decide (a < b) && risingB ((b, u) :: T)

theorem rising_le : ∀ {T : List (Int × Int)} {a v : Int}, risingB ((a, v) :: T) = true → ∀ j, j < ((a, v) :: T).length → a ≤ (((a, v) :: T).getD j (0, 0)).1
  | _, a, v, _, 0, _ => by simp
  | [], a, v, _, j + 1, hj => by simp at hj
  | (b, u) :: T, a, v, h, j + 1, hj => by
    simp only [risingB, Bool.and_eq_true, decide_eq_true_eq] at h
    have := rising_le h.2 j (by simpa using hj)
    rw [List.getD_cons_succ]
    omega
theorem findF_of : ∀ {T : List (Int × Int)} {r u t : Int}, risingB T = true → FindOk T r u t → findF T r = (u, t)
  | [], r, u, t, _, ⟨j, hj, _⟩ => by simp at hj
  | [(a, v)], r, u, t, _, ⟨j, hj, h1, h2, h3⟩ => by
    have : j = 0 := by simpa using hj
    subst this
    simp at h2 h3
    simp [findF, h2, h3]
  | (a, v) :: (b, w) :: T, r, u, t, hr, ⟨0, hj, h1, h2, h3⟩ => by
    simp at h1 h2 h3
    have h4 : r < b := h3.1
    have h5 : t = b - 1 := h3.2
    unfold findF
    rw [if_pos h4, h2, h5]
  | (a, v) :: (b, w) :: T, r, u, t, hr, ⟨j + 1, hj, h1, h2, h3⟩ => by
    simp only [risingB, Bool.and_eq_true, decide_eq_true_eq] at hr
    have hle := rising_le hr.2 j (by simpa using hj)
    rw [List.getD_cons_succ] at h1 h2
    unfold findF
    rw [if_neg (by omega)]
    refine findF_of hr.2 ⟨j, by simpa using hj, h1, h2, ?_⟩
    rcases h3 with ⟨h3, h4⟩ | ⟨h3, h4, h5⟩
    · exact .inl ⟨by simpa using h3, h4⟩
    · rw [List.getD_cons_succ] at h4 h5
      exact .inr ⟨by simpa using h3, h4, h5⟩

/-- A stretch ends ahead of what is no character. -/
def capF (r t : Int) : Int := if r < 55296 then min t 55295 else t
def nxtF (t : Int) : Int := if t + 1 = 55296 then 57344 else t + 1
def segsF (T : List (Int × Int)) : Nat → Int → List (Int × Int × Int)
  | 0, _ => []
  | f + 1, r => if r ≤ 1114111 then (r, capF r (findF T r).2, (findF T r).1) :: segsF T f (nxtF (capF r (findF T r).2)) else []
def doneF (T : List (Int × Int)) : Nat → Int → Bool
  | 0, r => decide (1114111 < r)
  | f + 1, r => if r ≤ 1114111 then doneF T f (nxtF (capF r (findF T r).2)) else true
def pick (v : Int) (l : List (Int × Int × Int)) : List (Int × Int) := l.filterMap fun p => if p.2.2 = v then some (p.1, p.2.1) else none
def spansF (T : List (Int × Int)) (v : Int) : List (Int × Int) := pick v (segsF T 300 0)

def pairsF : List Int → List Int → List (Int × Int × Int)
  | b :: b' :: B, v :: V => (b, b' - 1, v) :: pairsF (b' :: B) V
  | _, _ => []
def joinF (out : List (Int × Int)) (p : Int × Int) : List (Int × Int) := match out.getLast? with
  | some q => if q.2 = p.1 - 1 then out.dropLast ++ [(q.1, p.2)] else out ++ [p]
  | none => [p]
def refP (P : List (Int × Int × Int)) (v : Int) : List (Int × Int) := (pick v (P.filter fun p => p.1 != 55296)).foldl joinF []

/-- Both say the same of these values, and have no others. -/
def sameB (P S : List (Int × Int × Int)) (vals : List Int) : Bool := (vals.all fun v => refP P v == pick v S) && (P.all fun p => vals.contains p.2.2) && (S.all fun p => vals.contains p.2.2)
theorem pick_none {v : Int} {l : List (Int × Int × Int)} (h : ∀ p ∈ l, p.2.2 ≠ v) : pick v l = [] := by
  unfold pick
  rw [List.filterMap_eq_nil_iff]
  intro p hp
  rw [if_neg (h p hp)]
theorem sameB_all {P S : List (Int × Int × Int)} {vals : List Int} (h : sameB P S vals = true) (v : Int) : refP P v = pick v S := by
  unfold sameB at h
  simp only [Bool.and_eq_true, List.all_eq_true] at h
  obtain ⟨⟨h1, h2⟩, h3⟩ := h
  by_cases hv : v ∈ vals
  · exact eq_of_beq (h1 v hv)
  · have n1 : ∀ p ∈ P, p.2.2 ≠ v := fun p hp e => hv (by have := h2 p hp; rw [List.contains_iff_mem] at this; rwa [e] at this)
    have n2 : ∀ p ∈ S, p.2.2 ≠ v := fun p hp e => hv (by have := h3 p hp; rw [List.contains_iff_mem] at this; rwa [e] at this)
    rw [pick_none n2]
    unfold refP
    rw [pick_none (fun p hp => n1 p (List.mem_filter.1 hp).1)]; rfl

def kindS : List (Int × Int × Int) := segsF kindT 300 0
theorem kind_same (v : Int) : refP (pairsF bordL kindV) v = spansF kindT v := sameB_all (P := pairsF bordL kindV) (S := segsF kindT 300 0) (vals := kindVals) (by decide +kernel) v
theorem kind_rising : risingB kindT = true := by decide +kernel
theorem kind_done : doneF kindT 300 0 = true := by decide +kernel
def dirS : List (Int × Int × Int) := segsF dirT 300 0
theorem dir_same (v : Int) : refP (pairsF bordL dirV) v = spansF dirT v := sameB_all (P := pairsF bordL dirV) (S := segsF dirT 300 0) (vals := dirVals) (by decide +kernel) v
theorem dir_rising : risingB dirT = true := by decide +kernel
theorem dir_done : doneF dirT 300 0 = true := by decide +kernel
def widS : List (Int × Int × Int) := segsF widT 300 0
theorem wid_same (v : Int) : refP (pairsF bordL widV) v = spansF widT v := sameB_all (P := pairsF bordL widV) (S := segsF widT 300 0) (vals := widVals) (by decide +kernel) v
theorem wid_rising : risingB widT = true := by decide +kernel
theorem wid_done : doneF widT 300 0 = true := by decide +kernel
def markS : List (Int × Int × Int) := segsF markT 300 0
theorem mark_same (v : Int) : refP (pairsF bordL markV) v = spansF markT v := sameB_all (P := pairsF bordL markV) (S := segsF markT 300 0) (vals := markVals) (by decide +kernel) v
theorem mark_rising : risingB markT = true := by decide +kernel
theorem mark_done : doneF markT 300 0 = true := by decide +kernel
def joinS : List (Int × Int × Int) := segsF joinT 300 0
theorem join_same (v : Int) : refP (pairsF bordL joinV) v = spansF joinT v := sameB_all (P := pairsF bordL joinV) (S := segsF joinT 300 0) (vals := joinVals) (by decide +kernel) v
theorem join_rising : risingB joinT = true := by decide +kernel
theorem join_done : doneF joinT 300 0 = true := by decide +kernel
def brkS : List (Int × Int × Int) := segsF brkT 300 0
theorem brk_same (v : Int) : refP (pairsF bordL brkV) v = spansF brkT v := sameB_all (P := pairsF bordL brkV) (S := segsF brkT 300 0) (vals := brkVals) (by decide +kernel) v
theorem brk_rising : risingB brkT = true := by decide +kernel
theorem brk_done : doneF brkT 300 0 = true := by decide +kernel

end Go.Proofs.Ytlklgngdagebfaa.Tb
