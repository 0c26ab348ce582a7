/-
  Chapter 2's tables in plain words: a table as a list of cases ('lookC'), and as a list of steps ('stepV'); that both say the same of every number is reckoned, stretch by stretch.
-/
set_option linter.unusedVariables false
set_option linter.unusedSimpArgs false
namespace Go.Proofs.YtniiamobbgnjaaaDoor.Tb

inductive RC where
  | rg (a b : Int) | eq (a : Int) | le (b : Int)

def RC.ev : RC → Int → Bool
  | .rg a b, r => decide (r ≥ a) && decide (r ≤ b)
  | .eq a, r => r == a
  | .le b, r => decide (r ≤ b)

def anyC : List RC → Int → Bool
  | [], _ => false
  | [c], r => c.ev r
  | c :: c' :: cs, r => c.ev r || anyC (c' :: cs) r

def lookC : List (List RC × Int) → Int → Int → Int
  | [], d, _ => d
  | (c, v) :: l, d, r => match anyC c r with | true => v | false => lookC l d r

/-- What a case says of a whole stretch, if it says one thing. -/
def RC.on : RC → Int → Int → Option Bool
  | .rg a b, lo, hi => if a ≤ lo ∧ hi ≤ b then some true else if hi < a ∨ b < lo then some false else none
  | .eq a, lo, hi => if lo = a ∧ hi = a then some true else if hi < a ∨ a < lo then some false else none
  | .le b, lo, hi => if hi ≤ b then some true else if b < lo then some false else none

def anyI : List RC → Int → Int → Option Bool
  | [], _, _ => some false
  | c :: cs, lo, hi => match c.on lo hi with | some true => some true | some false => anyI cs lo hi | none => none

def lookI : List (List RC × Int) → Int → Int → Int → Option Int
  | [], d, _, _ => some d
  | (c, v) :: l, d, lo, hi => match anyI c lo hi with | some true => some v | some false => lookI l d lo hi | none => none

theorem RC.on_ev {c : RC} {lo hi r : Int} {b : Bool} (h : c.on lo hi = some b) (h1 : lo ≤ r) (h2 : r ≤ hi) : c.ev r = b := by
  cases c <;> simp only [RC.on] at h <;> simp only [RC.ev] <;> (repeat' split at h) <;> simp only [Option.some.injEq, reduceCtorEq] at h <;> subst h <;> simp <;> omega

theorem anyC_cons (c : RC) (cs : List RC) (r : Int) : anyC (c :: cs) r = (c.ev r || anyC cs r) := by
  cases cs <;> simp [anyC]

theorem anyI_anyC {cs : List RC} {lo hi r : Int} {b : Bool} (h : anyI cs lo hi = some b) (h1 : lo ≤ r) (h2 : r ≤ hi) : anyC cs r = b := by
  induction cs with
  | nil => simpa [anyI, anyC] using h
  | cons c cs ih =>
    rw [anyC_cons]
    simp only [anyI] at h
    split at h
    · rename_i hc; rw [RC.on_ev hc h1 h2]; simpa using h
    · rename_i hc; rw [RC.on_ev hc h1 h2, ih h]; rfl
    · cases h

theorem lookI_lookC {l : List (List RC × Int)} {d lo hi r v : Int} (h : lookI l d lo hi = some v) (h1 : lo ≤ r) (h2 : r ≤ hi) : lookC l d r = v := by
  induction l with
  | nil => simpa [lookI, lookC] using h
  | cons p l ih =>
    obtain ⟨c, u⟩ := p
    simp only [lookI] at h
    simp only [lookC]
    split at h
    · rename_i hc; rw [anyI_anyC hc h1 h2]; simpa using h
    · rename_i hc; rw [anyI_anyC hc h1 h2]; exact ih h
    · cases h

/-- The cases say v of the whole stretch; where one of them parts it, it is halved. -/
def says (l : List (List RC × Int)) (d v : Int) : Nat → Int → Int → Bool
  | 0, _, _ => false
  | n + 1, lo, hi => match lookI l d lo hi with
    | some u => u == v
    | none => says l d v n lo ((lo + hi) / 2) && says l d v n ((lo + hi) / 2 + 1) hi

theorem says_lookC {l : List (List RC × Int)} {d v : Int} : ∀ {n : Nat} {lo hi : Int}, says l d v n lo hi = true → ∀ r, lo ≤ r → r ≤ hi → lookC l d r = v
  | 0, _, _, h, _, _, _ => by simp [says] at h
  | n + 1, lo, hi, h, r, h1, h2 => by
    simp only [says] at h
    split at h
    · rename_i u hu
      simp only [beq_iff_eq] at h
      subst h
      exact lookI_lookC hu h1 h2
    · simp only [Bool.and_eq_true] at h
      by_cases hr : r ≤ (lo + hi) / 2
      · exact says_lookC h.1 r h1 hr
      · exact says_lookC h.2 r (by omega) h2

/-- The steps of a table, from a place on: each holds up to the next one, the last up to the end. -/
def agree (l : List (List RC × Int)) (d last : Int) : List (Int × Int) → Bool
  | [] => true
  | [(a, v)] => says l d v 24 a last
  | (a, v) :: (a', v') :: r => says l d v 24 a (a' - 1) && agree l d last ((a', v') :: r)

theorem agree_at {l : List (List RC × Int)} {d last : Int} : ∀ {T : List (Int × Int)}, agree l d last T = true → ∀ j, j < T.length → ∀ r, (T.getD j (0, 0)).1 ≤ r → ((j + 1 = T.length ∧ r ≤ last) ∨ (j + 1 < T.length ∧ r < (T.getD (j + 1) (0, 0)).1)) →
    lookC l d r = (T.getD j (0, 0)).2
  | [], _, j, hj, _, _, _ => by simp at hj
  | [(a, v)], h, j, hj, r, h1, h2 => by
    have : j = 0 := by simpa using hj
    subst this
    simp only [agree] at h
    simp at h1 h2
    exact says_lookC h r h1 h2
  | (a, v) :: (a', v') :: T, h, 0, hj, r, h1, h2 => by
    simp only [agree, Bool.and_eq_true] at h
    simp at h1 h2
    exact says_lookC h.1 r h1 (by omega)
  | (a, v) :: (a', v') :: T, h, j + 1, hj, r, h1, h2 => by
    simp only [agree, Bool.and_eq_true] at h
    exact agree_at h.2 j (by simpa using hj) r (by simpa using h1) (by simpa using h2)

def knownF (r : Int) : Int := match decide (r < 0) || (decide (r > 1114111) || decide (r ≥ 55296) && decide (r ≤ 57343)) with | true => 65533 | false => r
theorem knownF_bd (r : Int) : 0 ≤ knownF r ∧ knownF r ≤ 1114111 := by
  unfold knownF
  split
  · omega
  · rename_i h
    simp at h
    omega
/-- What 'find' answers: the step in which r lies, and its last number. -/
def FindOk (T : List (Int × Int)) (r u t : Int) : Prop :=
  ∃ j, j < T.length ∧ (T.getD j (0, 0)).1 ≤ r ∧ u = (T.getD j (0, 0)).2 ∧ ((j + 1 = T.length ∧ t = 1114111) ∨ (j + 1 < T.length ∧ r < (T.getD (j + 1) (0, 0)).1 ∧ t = (T.getD (j + 1) (0, 0)).1 - 1))

theorem FindOk.val {T : List (Int × Int)} {l : List (List RC × Int)} {d r u t : Int} (h : FindOk T (knownF r) u t) (ha : agree l d 1114111 T = true) : u = lookC l d (knownF r) := by
  obtain ⟨j, h1, h2, rfl, h3⟩ := h
  refine (agree_at ha j h1 _ h2 ?_).symm
  rcases h3 with ⟨h3, _⟩ | ⟨h3, h4, _⟩
  · exact .inl ⟨h3, (knownF_bd r).2⟩
  · exact .inr ⟨h3, h4⟩

/-- The cells of a table of steps. -/
def boundsOk (T : List (Int × Int)) : Bool := T.all fun p => decide (0 ≤ p.1) && decide (p.1 ≤ 1114111) && decide (0 ≤ p.2) && decide (p.2 ≤ 255)
def smallOk (T : List (Int × Int)) : Bool := T.all fun p => decide (0 ≤ p.2) && decide (p.2 ≤ 127)

end Go.Proofs.YtniiamobbgnjaaaDoor.Tb
