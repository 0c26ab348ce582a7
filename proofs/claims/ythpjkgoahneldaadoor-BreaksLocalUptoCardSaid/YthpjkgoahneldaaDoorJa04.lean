/-
  Texts joined by program: Ur, Tb, TbKind, TbWid, Orb, Cl.
-/
import Derived.Test.YthpjkgoahneldaaDoorJa03
import Derived.Shelf.Unicode.DecodeSlow
set_option linter.unusedVariables false
set_option linter.unusedSimpArgs false

section
/-
  The document's decoder in plain words ('begins', 'number'), and that it says what the model's own decoder says; runes put into bytes.
-/
namespace Go.Proofs.YthpjkgoahneldaaDoor.Ut
open Go Vc

/-- The least, the greatest second byte behind c, how many bytes there are. -/
def secN (c : Nat) : Nat × Nat × Nat :=
  if 194 ≤ c ∧ c ≤ 223 then (128, 191, 2) else if c = 224 then (160, 191, 3) else if c = 237 then (128, 159, 3) else if 225 ≤ c ∧ c ≤ 239 then (128, 191, 3)
  else if c = 240 then (144, 191, 4) else if 241 ≤ c ∧ c ≤ 243 then (128, 191, 4) else if c = 244 then (128, 143, 4) else (0, 0, 0)
theorem secN_bd (c : Nat) : (secN c).1 ≤ 255 ∧ (secN c).2.1 ≤ 255 ∧ (secN c).2.2 ≤ 4 := by
  unfold secN; repeat' split
  all_goals simp

def loB (s : ByteArray) (n : Nat) : Nat := if n = 1 then (secN (bt s 0)).1 else 128
def hiB (s : ByteArray) (n : Nat) : Nat := if n = 1 then (secN (bt s 0)).2.1 else 191
def okB (s : ByteArray) (n : Nat) : Prop := n < s.size ∧ loB s n ≤ bt s n ∧ bt s n ≤ hiB s n
instance (s : ByteArray) (n : Nat) : Decidable (okB s n) := inferInstanceAs (Decidable (_ ∧ _))
def runB (s : ByteArray) : Nat → Nat → Nat
  | 0, n => n
  | f + 1, n => if okB s n then runB s f (n + 1) else n
def begS (s : ByteArray) : Nat := if s.size = 0 then 0 else if bt s 0 < 128 then 1 else (secN (bt s 0)).2.2
def begN (s : ByteArray) : Nat := if s.size = 0 then 0 else if bt s 0 < 128 then 1 else if (secN (bt s 0)).2.2 = 0 then 0 else runB s ((secN (bt s 0)).2.2 - 1) 1

theorem runB_ge (s : ByteArray) : ∀ f n, n ≤ runB s f n ∧ runB s f n ≤ n + f
  | 0, n => by simp [runB]
  | f + 1, n => by
    unfold runB; split
    · have := runB_ge s f (n + 1); omega
    · omega
theorem runB_size (s : ByteArray) : ∀ f n, n ≤ s.size → runB s f n ≤ s.size
  | 0, n, h => h
  | f + 1, n, h => by
    unfold runB; split
    · rename_i hk; exact runB_size s f (n + 1) hk.1
    · exact h
theorem begN_le (s : ByteArray) : begN s ≤ begS s ∧ begN s ≤ s.size ∧ begS s ≤ 4 := by
  have hb := secN_bd (bt s 0)
  unfold begN begS
  by_cases h0 : s.size = 0
  · rw [if_pos h0, if_pos h0]; omega
  rw [if_neg h0, if_neg h0]
  by_cases h1 : bt s 0 < 128
  · rw [if_pos h1, if_pos h1]; omega
  rw [if_neg h1, if_neg h1]
  by_cases h2 : (secN (bt s 0)).2.2 = 0
  · rw [if_pos h2]; omega
  rw [if_neg h2]
  have h3 := runB_ge s ((secN (bt s 0)).2.2 - 1) 1
  have h4 := runB_size s ((secN (bt s 0)).2.2 - 1) 1 (by omega)
  omega

def maskN (k : Nat) : Nat := if k = 1 then 128 else if k = 2 then 32 else if k = 3 then 16 else 8
def numP (s : ByteArray) (k : Nat) : Nat → Nat
  | 0 => bt s 0 % maskN k
  | n + 1 => 64 * numP s k n + bt s (n + 1) % 64
def numR (s : ByteArray) (k : Nat) : Nat := numP s k (k - 1)

theorem numP_le (s : ByteArray) (k n : Nat) : numP s k n < 128 * 64 ^ n := by
  induction n with
  | zero => unfold numP maskN; repeat' split
            all_goals omega
  | succ n ih =>
    simp only [numP]
    have : bt s (n + 1) % 64 < 64 := Nat.mod_lt _ (by omega)
    rw [Nat.pow_succ]; omega

/-- The document's step. -/
def nextR (s : ByteArray) : Nat × Nat := if s.size = 0 then (65533, 0) else if begN s = 0 ∨ begN s < begS s then (65533, 1) else (numR s (begS s), begS s)

theorem runB1 (s : ByteArray) : runB s 1 1 = if okB s 1 then 2 else 1 := by unfold runB; rfl
theorem runB2 (s : ByteArray) : runB s 2 1 = if okB s 1 then (if okB s 2 then 3 else 2) else 1 := by unfold runB; unfold runB; rfl
theorem runB3 (s : ByteArray) : runB s 3 1 = if okB s 1 then (if okB s 2 then (if okB s 3 then 4 else 3) else 2) else 1 := by unfold runB; unfold runB; unfold runB; rfl

set_option maxHeartbeats 4000000 in
theorem nextR_eq {s : ByteArray} (h : s.size ≠ 0) : nextR s = Utf8.decode s 0 := by
  have b0 := bt_lt s 0; have b1 := bt_lt s 1; have b2 := bt_lt s 2; have b3 := bt_lt s 3
  rw [dc_eq]
  simp only [Nat.sub_zero, Nat.zero_add]
  unfold nextR
  rw [if_neg h]
  unfold begN begS
  rw [if_neg h, if_neg h]
  by_cases h1 : bt s 0 < 128
  · rw [if_pos h1, if_pos h1, if_neg (by omega)]
    unfold Lib.decodeN numR
    rw [if_pos h1]
    show (bt s 0 % 128, 1) = (bt s 0, 1)
    rw [Nat.mod_eq_of_lt h1]
  rw [if_neg h1, if_neg h1]
  have o1 : okB s 1 ↔ 1 < s.size ∧ (secN (bt s 0)).1 ≤ bt s 1 ∧ bt s 1 ≤ (secN (bt s 0)).2.1 := by unfold okB loB hiB; simp
  have o2 : okB s 2 ↔ 2 < s.size ∧ 128 ≤ bt s 2 ∧ bt s 2 ≤ 191 := by unfold okB loB hiB; simp
  have o3 : okB s 3 ↔ 3 < s.size ∧ 128 ≤ bt s 3 ∧ bt s 3 ≤ 191 := by unfold okB loB hiB; simp
  generalize hc1 : bt s 1 = c1 at *
  generalize hc2 : bt s 2 = c2 at *
  generalize hc3 : bt s 3 = c3 at *
  have n1 : numR s 2 = bt s 0 % 32 * 64 + c1 % 64 := by simp only [numR, numP, maskN, hc1]; simp; omega
  have n2 : numR s 3 = bt s 0 % 16 * 4096 + c1 % 64 * 64 + c2 % 64 := by simp only [numR, numP, maskN, hc1, hc2]; simp; omega
  have n3 : numR s 4 = bt s 0 % 8 * 262144 + c1 % 64 * 4096 + c2 % 64 * 64 + c3 % 64 := by simp only [numR, numP, maskN, hc1, hc2, hc3]; simp; omega
  generalize hc0 : bt s 0 = c0 at *
  generalize s.size = n at *
  unfold Lib.decodeN
  rw [if_neg h1]
  have cls : (c0 < 194 ∨ 244 < c0) ∨ (194 ≤ c0 ∧ c0 ≤ 223) ∨ (224 ≤ c0 ∧ c0 ≤ 239) ∨ (240 ≤ c0 ∧ c0 ≤ 244) := by omega
  rcases cls with hc | hc | hc | hc
  · have e : secN c0 = (0, 0, 0) := by
      unfold secN; rw [if_neg (by omega), if_neg (by omega), if_neg (by omega), if_neg (by omega), if_neg (by omega), if_neg (by omega), if_neg (by omega)]
    rw [e]
    simp only [if_true, true_or]
    repeat' split
    all_goals first | rfl | (exfalso; omega)
  · have e : secN c0 = (128, 191, 2) := by unfold secN; rw [if_pos hc]
    rw [e] at o1 ⊢
    simp only at o1 ⊢
    rw [show (if (2 : Nat) = 0 then 0 else runB s (2 - 1) 1) = runB s 1 1 from rfl, runB1, n1]
    by_cases k1 : okB s 1
    · have := o1.1 k1
      rw [if_pos k1, if_neg (by omega), if_pos ⟨by omega, by omega, by omega⟩, if_pos (by omega)]
    · have := mt o1.2 k1
      rw [if_neg k1, if_pos (by omega), if_neg (by omega), if_neg (by omega), if_neg (by omega)]
  · have e : (secN c0).2.2 = 3 ∧ ((secN c0).1 = if c0 = 224 then 160 else 128) ∧ ((secN c0).2.1 = if c0 = 237 then 159 else 191) := by
      unfold secN; rw [if_neg (by omega)]; repeat' split
      all_goals simp_all
      all_goals omega
    obtain ⟨e1, e2, e3⟩ := e
    rw [e2, e3] at o1
    have hlo : 128 ≤ (if c0 = 224 then 160 else 128) := by split <;> omega
    have hhi : (if c0 = 237 then 159 else 191) ≤ 191 := by split <;> omega
    rw [e1, show (if (3 : Nat) = 0 then 0 else runB s (3 - 1) 1) = runB s 2 1 from rfl, runB2, n2, if_neg (c := c0 / 32 = 6 ∧ 1 < n ∧ c1 / 64 = 2) (by omega)]
    by_cases k1 : okB s 1
    · have h1' := o1.1 k1
      rw [if_pos k1]
      by_cases k2 : okB s 2
      · have h2' := o2.1 k2
        rw [if_pos k2, if_neg (by omega), if_pos ⟨by omega, ⟨by omega, by omega⟩, by omega, by omega⟩]
        rw [if_pos (by split at h1' <;> split at h1' <;> omega)]
      · have h2' := mt o2.2 k2
        rw [if_neg k2, if_pos (by omega), if_neg (by omega), if_neg (by omega)]
    · have h1' := mt o1.2 k1
      rw [if_neg k1, if_pos (by omega)]
      by_cases k : c0 / 16 = 14 ∧ (1 < n ∧ c1 / 64 = 2) ∧ 2 < n ∧ c2 / 64 = 2
      · rw [if_pos k, if_neg (by split at h1' <;> split at h1' <;> omega)]
      · rw [if_neg k, if_neg (by omega)]
  · have e : (secN c0).2.2 = 4 ∧ ((secN c0).1 = if c0 = 240 then 144 else 128) ∧ ((secN c0).2.1 = if c0 = 244 then 143 else 191) := by
      unfold secN; rw [if_neg (by omega), if_neg (by omega), if_neg (by omega), if_neg (by omega)]; repeat' split
      all_goals simp_all
      all_goals omega
    obtain ⟨e1, e2, e3⟩ := e
    rw [e2, e3] at o1
    have hlo : 128 ≤ (if c0 = 240 then 144 else 128) := by split <;> omega
    have hhi : (if c0 = 244 then 143 else 191) ≤ 191 := by split <;> omega
    rw [e1, show (if (4 : Nat) = 0 then 0 else runB s (4 - 1) 1) = runB s 3 1 from rfl, runB3, n3, if_neg (c := c0 / 32 = 6 ∧ 1 < n ∧ c1 / 64 = 2) (by omega), if_neg (c := c0 / 16 = 14 ∧ (1 < n ∧ c1 / 64 = 2) ∧ 2 < n ∧ c2 / 64 = 2) (by omega)]
    by_cases k1 : okB s 1
    · have h1' := o1.1 k1
      rw [if_pos k1]
      by_cases k2 : okB s 2
      · have h2' := o2.1 k2
        rw [if_pos k2]
        by_cases k3 : okB s 3
        · have h3' := o3.1 k3
          rw [if_pos k3, if_neg (by omega), if_pos ⟨by omega, ⟨by omega, by omega⟩, ⟨by omega, by omega⟩, by omega, by omega⟩]
          rw [if_pos (by split at h1' <;> split at h1' <;> omega)]
        · have h3' := mt o3.2 k3
          rw [if_neg k3, if_pos (by omega), if_neg (by omega)]
      · have h2' := mt o2.2 k2
        rw [if_neg k2, if_pos (by omega), if_neg (by omega)]
    · have h1' := mt o1.2 k1
      rw [if_neg k1, if_pos (by omega)]
      by_cases k : c0 / 8 = 30 ∧ (1 < n ∧ c1 / 64 = 2) ∧ (2 < n ∧ c2 / 64 = 2) ∧ 3 < n ∧ c3 / 64 = 2
      · rw [if_pos k, if_neg (by split at h1' <;> split at h1' <;> omega)]
      · rw [if_neg k]

/-- A step at the beginning: nothing, or the decoder's. -/
def nxR (s : ByteArray) : Int := if s.size = 0 then 65533 else dcR s 0
def nxN (s : ByteArray) : Nat := if s.size = 0 then 0 else dcN s 0
theorem decodeGo_eq (s : ByteArray) : ((Lib.decodeGo s).1 : Int) = nxR s ∧ (Lib.decodeGo s).2 = nxN s := by
  unfold Lib.decodeGo nxR nxN dcR dcN
  split <;> exact ⟨rfl, rfl⟩
theorem nextR_nx (s : ByteArray) : ((nextR s).1 : Int) = nxR s ∧ (nextR s).2 = nxN s := by
  unfold nxR nxN
  by_cases h : s.size = 0
  · unfold nextR; rw [if_pos h, if_pos h, if_pos h]; exact ⟨rfl, rfl⟩
  · rw [nextR_eq h, if_neg h, if_neg h]; exact ⟨rfl, rfl⟩

/-- No beginning of a character. -/
def wholeB (s : ByteArray) : Bool := decide (s.size ≠ 0 ∧ (begN s ≠ s.size ∨ begN s = begS s))

/-- The last one. -/
def lsR (s : ByteArray) : Int := if cnt s = 0 then 65533 else dcR s (pos s (cnt s - 1))
def lsN (s : ByteArray) : Nat := if cnt s = 0 then 0 else dcN s (pos s (cnt s - 1))
theorem decodeLast_eq (s : ByteArray) : ((Lib.decodeLastL s.data.toList).1 : Int) = lsR s ∧ (Lib.decodeLastL s.data.toList).2 = lsN s := by
  unfold lsR lsN
  by_cases h : cnt s = 0
  · have : s.data.toList = [] := List.eq_nil_of_length_eq_zero (by rw [size_list]; exact cnt_zero.1 h)
    unfold Lib.decodeLastL
    rw [if_pos this, if_pos h, if_pos h]; exact ⟨rfl, rfl⟩
  · rw [if_neg h, if_neg h, last_eq (n := cnt s - 1) (by omega)]; exact ⟨rfl, rfl⟩

/-! ### Bad bytes -/

def isBad (s : ByteArray) (n : Nat) : Bool := decide (dcN s (pos s n) = 1 ∧ dcR s (pos s n) = 65533)
def badL (s : ByteArray) : List Int := ((List.range (cnt s)).filter (isBad s)).map fun n => (pos s n : Int)
def validB (s : ByteArray) : Bool := (List.range (cnt s)).all fun n => !isBad s n

theorem drop_all (s : ByteArray) (n : Nat) (h : n < cnt s) : (List.range' n (cnt s - n)) = n :: List.range' (n + 1) (cnt s - (n + 1)) := by
  rw [show cnt s - n = cnt s - (n + 1) + 1 from by omega, List.range'_succ]

theorem validGoD_eq (s : ByteArray) : ∀ (f n : Nat), cnt s ≤ n + f → n ≤ cnt s → Lib.validGoD f (s.data.toList.drop (pos s n)) = (List.range' n (cnt s - n)).all fun m => !isBad s m
  | 0, n, h, hn => by
    have : n = cnt s := by omega
    subst this; simp [Lib.validGoD]
  | f + 1, n, h, hn => by
    unfold Lib.validGoD
    by_cases hp : pos s n < s.size
    · have hlt := cnt_lt.2 hp
      rw [if_neg (by intro e; have := congrArg List.length e; rw [List.length_drop, size_list] at this; simp at this; omega), decodeL_drop s (by omega), drop_all s n hlt, List.all_cons]
      by_cases hb : (Utf8.decode s (pos s n)).1 = 65533 ∧ (Utf8.decode s (pos s n)).2 = 1
      · rw [if_pos hb]
        have : isBad s n = true := by unfold isBad dcN dcR; simp; omega
        rw [this]; rfl
      · rw [if_neg hb, List.drop_drop]
        have e : pos s n + (Utf8.decode s (pos s n)).2 = pos s (n + 1) := (pos_succ hp).symm
        rw [e, validGoD_eq s f (n + 1) (by omega) (by omega)]
        have : isBad s n = false := by unfold isBad dcN dcR; simp; omega
        rw [this]; rfl
    · have := cnt_end hp hn
      subst this
      rw [if_pos (by rw [List.drop_eq_nil_iff, size_list]; omega)]; simp
theorem validD_eq (s : ByteArray) : Lib.validD s.data.toList = validB s := by
  unfold Lib.validD validB
  have := validGoD_eq s s.size 0 (by have := cnt_le s; omega) (by omega)
  simp only [pos, List.drop_zero, Nat.sub_zero] at this
  rw [size_list, this, List.range_eq_range']
theorem badL_nil (s : ByteArray) : badL s = [] ↔ validB s = true := by
  unfold badL validB
  rw [List.map_eq_nil_iff, List.filter_eq_nil_iff, List.all_eq_true]
  simp
theorem badL_len (s : ByteArray) : (badL s).length ≤ cnt s := by
  unfold badL; rw [List.length_map]; have := List.length_filter_le (isBad s) (List.range (cnt s)); simpa using this

end Go.Proofs.YthpjkgoahneldaaDoor.Ut
end

section
/-
  Chapter 2's tables in plain words: a table as a list of cases ('lookC'), and as a list of steps ('stepV'); that both say the same of every number is reckoned, stretch by stretch.
-/
namespace Go.Proofs.YthpjkgoahneldaaDoor.Tb

inductive RC where
  | rg (a b : Int) | eq (a : Int) | le (b : Int)

def RC.ev : RC → Int → Bool
  | .rg a b, r => decide (r ≥ a) && decide (r ≤ b)
  | .eq a, r => r == a
  | .le b, r => decide (r ≤ b)

def anyC : List RC → Int → Bool
  | [], _ => false
  | [c], r => c.ev r
  | c :: c' :: cs, r => c.ev r || anyC (c' :: cs) r

def lookC : List (List RC × Int) → Int → Int → Int
  | [], d, _ => d
  | (c, v) :: l, d, r => match anyC c r with | true => v | false => lookC l d r

/-- What a case says of a whole stretch, if it says one thing. -/
def RC.on : RC → Int → Int → Option Bool
  | .rg a b, lo, hi => if a ≤ lo ∧ hi ≤ b then some true else if hi < a ∨ b < lo then some false else none
  | .eq a, lo, hi => if lo = a ∧ hi = a then some true else if hi < a ∨ a < lo then some false else none
  | .le b, lo, hi => if hi ≤ b then some true else if b < lo then some false else none

def anyI : List RC → Int → Int → Option Bool
  | [], _, _ => some false
  | c :: cs, lo, hi => match c.on lo hi with | some true => some true | some false => anyI cs lo hi | none => none

def lookI : List (List RC × Int) → Int → Int → Int → Option Int
  | [], d, _, _ => some d
  | (c, v) :: l, d, lo, hi => match anyI c lo hi with | some true => some v | some false => lookI l d lo hi | none => none

theorem RC.on_ev {c : RC} {lo hi r : Int} {b : Bool} (h : c.on lo hi = some b) (h1 : lo ≤ r) (h2 : r ≤ hi) : c.ev r = b := by
  cases c <;> simp only [RC.on] at h <;> simp only [RC.ev] <;> (repeat' split at h) <;> simp only [Option.some.injEq, reduceCtorEq] at h <;> subst h <;> simp <;> omega

theorem anyC_cons (c : RC) (cs : List RC) (r : Int) : anyC (c :: cs) r = (c.ev r || anyC cs r) := by
  cases cs <;> simp [anyC]

theorem anyI_anyC {cs : List RC} {lo hi r : Int} {b : Bool} (h : anyI cs lo hi = some b) (h1 : lo ≤ r) (h2 : r ≤ hi) : anyC cs r = b := by
  induction cs with
  | nil => simpa [anyI, anyC] using h
  | cons c cs ih =>
    rw [anyC_cons]
    simp only [anyI] at h
    split at h
    · rename_i hc; rw [RC.on_ev hc h1 h2]; simpa using h
    · rename_i hc; rw [RC.on_ev hc h1 h2, ih h]; rfl
    · cases h

theorem lookI_lookC {l : List (List RC × Int)} {d lo hi r v : Int} (h : lookI l d lo hi = some v) (h1 : lo ≤ r) (h2 : r ≤ hi) : lookC l d r = v := by
  induction l with
  | nil => simpa [lookI, lookC] using h
  | cons p l ih =>
    obtain ⟨c, u⟩ := p
    simp only [lookI] at h
    simp only [lookC]
    split at h
    · rename_i hc; rw [anyI_anyC hc h1 h2]; simpa using h
    · rename_i hc; rw [anyI_anyC hc h1 h2]; exact ih h
    · cases h

/-- The cases say v of the whole stretch; where one of them parts it, it is halved. -/
def says (l : List (List RC × Int)) (d v : Int) : Nat → Int → Int → Bool
  | 0, _, _ => false
  | n + 1, lo, hi => match lookI l d lo hi with
    | some u => u == v
    | none => says l d v n lo ((lo + hi) / 2) && says l d v n ((lo + hi) / 2 + 1) hi

theorem says_lookC {l : List (List RC × Int)} {d v : Int} : ∀ {n : Nat} {lo hi : Int}, says l d v n lo hi = true → ∀ r, lo ≤ r → r ≤ hi → lookC l d r = v
  | 0, _, _, h, _, _, _ => by simp [says] at h
  | n + 1, lo, hi, h, r, h1, h2 => by
    simp only [says] at h
    split at h
    · rename_i u hu
      simp only [beq_iff_eq] at h
      subst h
      exact lookI_lookC hu h1 h2
    · simp only [Bool.and_eq_true] at h
      by_cases hr : r ≤ (lo + hi) / 2
      · exact says_lookC h.1 r h1 hr
      · exact says_lookC h.2 r (by omega) h2

/-- The steps of a table, from a place on: each holds up to the next one, the last up to the end. -/
def agree (l : List (List RC × Int)) (d last : Int) : List (Int × Int) → Bool
  | [] => true
  | [(a, v)] => says l d v 24 a last
  | (a, v) :: (a', v') :: r => says l d v 24 a (a' - 1) && agree l d last ((a', v') :: r)

theorem agree_at {l : List (List RC × Int)} {d last : Int} : ∀ {T : List (Int × Int)}, agree l d last T = true → ∀ j, j < T.length → ∀ r, (T.getD j (0, 0)).1 ≤ r → ((j + 1 = T.length ∧ r ≤ last) ∨ (j + 1 < T.length ∧ r < (T.getD (j + 1) (0, 0)).1)) →
    lookC l d r = (T.getD j (0, 0)).2
  | [], _, j, hj, _, _, _ => by simp at hj
  | [(a, v)], h, j, hj, r, h1, h2 => by
    have : j = 0 := by simpa using hj
    subst this
    simp only [agree] at h
    simp at h1 h2
    exact says_lookC h r h1 h2
  | (a, v) :: (a', v') :: T, h, 0, hj, r, h1, h2 => by
    simp only [agree, Bool.and_eq_true] at h
    simp at h1 h2
    exact says_lookC h.1 r h1 (by omega)
  | (a, v) :: (a', v') :: T, h, j + 1, hj, r, h1, h2 => by
    simp only [agree, Bool.and_eq_true] at h
    exact agree_at h.2 j (by simpa using hj) r (by simpa using h1) (by simpa using h2)

def knownF (r : Int) : Int := match decide (r < 0) || (decide (r > 1114111) || decide (r ≥ 55296) && decide (r ≤ 57343)) with | true => 65533 | false => r
theorem knownF_bd (r : Int) : 0 ≤ knownF r ∧ knownF r ≤ 1114111 := by
  unfold knownF
  split
  · omega
  · rename_i h
    simp at h
    omega
/-- What 'find' answers: the step in which r lies, and its last number. -/
def FindOk (T : List (Int × Int)) (r u t : Int) : Prop :=
  ∃ j, j < T.length ∧ (T.getD j (0, 0)).1 ≤ r ∧ u = (T.getD j (0, 0)).2 ∧ ((j + 1 = T.length ∧ t = 1114111) ∨ (j + 1 < T.length ∧ r < (T.getD (j + 1) (0, 0)).1 ∧ t = (T.getD (j + 1) (0, 0)).1 - 1))

theorem FindOk.val {T : List (Int × Int)} {l : List (List RC × Int)} {d r u t : Int} (h : FindOk T (knownF r) u t) (ha : agree l d 1114111 T = true) : u = lookC l d (knownF r) := by
  obtain ⟨j, h1, h2, rfl, h3⟩ := h
  refine (agree_at ha j h1 _ h2 ?_).symm
  rcases h3 with ⟨h3, _⟩ | ⟨h3, h4, _⟩
  · exact .inl ⟨h3, (knownF_bd r).2⟩
  · exact .inr ⟨h3, h4⟩

/-- The cells of a table of steps. -/
def boundsOk (T : List (Int × Int)) : Bool := T.all fun p => decide (0 ≤ p.1) && decide (p.1 ≤ 1114111) && decide (0 ≤ p.2) && decide (p.2 ≤ 255)
def smallOk (T : List (Int × Int)) : Bool := T.all fun p => decide (0 ≤ p.2) && decide (p.2 ≤ 127)

end Go.Proofs.YthpjkgoahneldaaDoor.Tb
end

section
/-
  One of chapter 2's tables: that its cases and its steps say the same of every number.
-/
namespace Go.Proofs.YthpjkgoahneldaaDoor.Tb

def kindL : List (List RC × Int) := [([.le 31, .rg 127 159], 0), ([.eq 173, .eq 1564, .rg 8203 8207, .rg 8234 8238, .rg 8288 8297, .eq 65279], 1), ([.rg 768 879, .rg 1155 1161, .rg 1425 1469, .eq 1471, .rg 1473 1474, .rg 1476 1477, .eq 1479, .rg 1552 1562, .rg 1611 1631, .eq 1648, .rg 1750 1756, .rg 1759 1764, .rg 1767 1768, .rg 1770 1773, .eq 3633, .rg 3636 3642, .rg 3655 3662, .rg 6832 6911, .rg 7616 7679, .rg 8400 8447, .rg 12330 12333, .rg 12441 12442, .rg 65024 65039, .rg 65056 65071], 2), ([.rg 48 57, .rg 1632 1641, .rg 1776 1785, .rg 65296 65305], 4), ([.eq 32, .eq 160, .eq 5760, .rg 8192 8202, .rg 8232 8233, .eq 8239, .eq 8287, .eq 12288], 5), ([.eq 36, .eq 43, .rg 60 62, .eq 94, .eq 96, .eq 124, .eq 126, .rg 162 166, .rg 168 169, .eq 172, .rg 174 177, .eq 180, .eq 184, .eq 215, .eq 247, .rg 8352 8399, .rg 8448 9675, .rg 9677 11263, .rg 65532 65533, .rg 126976 129791], 7), ([.rg 65 90, .rg 97 122, .eq 170, .eq 181, .eq 186, .rg 192 767, .rg 880 883, .rg 886 893, .eq 895, .eq 902, .rg 904 1153, .rg 1162 1366, .rg 1377 1415, .rg 1488 1522, .rg 1568 1610, .rg 1646 1747, .rg 1749 1788, .rg 3585 3654, .rg 4256 4607, .rg 7680 8191, .rg 11264 11743, .rg 12293 12295, .rg 12353 12543, .rg 12549 12686, .rg 13312 19903, .rg 19968 40959, .rg 44032 55203, .rg 63744 64255, .rg 64285 65019, .rg 65136 65276, .rg 65313 65338, .rg 65345 65370, .rg 65382 65500, .rg 131072 262141], 3), ([.rg 33 64, .rg 91 96, .rg 123 126, .rg 161 191, .eq 894, .eq 903, .rg 1417 1418, .rg 1470 1478, .rg 1523 1524, .rg 1548 1549, .rg 1563 1567, .rg 1642 1645, .eq 1748, .rg 8208 8286, .eq 9676, .rg 12289 12291, .rg 12296 12319, .rg 65281 65312, .rg 65339 65344, .rg 65371 65381], 6)]
def kindD : Int := 8
def kindT : List (Int × Int) := [(0, 0), (32, 5), (33, 6), (36, 7), (37, 6), (43, 7), (44, 6), (48, 4), (58, 6), (60, 7), (63, 6), (65, 3), (91, 6), (94, 7), (95, 6), (96, 7), (97, 3), (123, 6), (124, 7), (125, 6), (126, 7), (127, 0), (160, 5), (161, 6), (162, 7), (167, 6), (168, 7), (170, 3), (171, 6), (172, 7), (173, 1), (174, 7), (178, 6), (180, 7), (181, 3), (182, 6), (184, 7), (185, 6), (186, 3), (187, 6), (192, 3), (215, 7), (216, 3), (247, 7), (248, 3), (768, 2), (880, 3), (884, 8), (886, 3), (894, 6), (895, 3), (896, 8), (902, 3), (903, 6), (904, 3), (1154, 8), (1155, 2), (1162, 3), (1367, 8), (1377, 3), (1416, 8), (1417, 6), (1419, 8), (1425, 2), (1470, 6), (1471, 2), (1472, 6), (1473, 2), (1475, 6), (1476, 2), (1478, 6), (1479, 2), (1480, 8), (1488, 3), (1523, 6), (1525, 8), (1548, 6), (1550, 8), (1552, 2), (1563, 6), (1564, 1), (1565, 6), (1568, 3), (1611, 2), (1632, 4), (1642, 6), (1646, 3), (1648, 2), (1649, 3), (1748, 6), (1749, 3), (1750, 2), (1757, 3), (1759, 2), (1765, 3), (1767, 2), (1769, 3), (1770, 2), (1774, 3), (1776, 4), (1786, 3), (1789, 8), (3585, 3), (3633, 2), (3634, 3), (3636, 2), (3643, 3), (3655, 2), (3663, 8), (4256, 3), (4608, 8), (5760, 5), (5761, 8), (6832, 2), (6912, 8), (7616, 2), (7680, 3), (8192, 5), (8203, 1), (8208, 6), (8232, 5), (8234, 1), (8239, 5), (8240, 6), (8287, 5), (8288, 1), (8298, 8), (8352, 7), (8400, 2), (8448, 7), (9676, 6), (9677, 7), (11264, 3), (11744, 8), (12288, 5), (12289, 6), (12292, 8), (12293, 3), (12296, 6), (12320, 8), (12330, 2), (12334, 8), (12353, 3), (12441, 2), (12443, 3), (12544, 8), (12549, 3), (12687, 8), (13312, 3), (19904, 8), (19968, 3), (40960, 8), (44032, 3), (55204, 8), (63744, 3), (64256, 8), (64285, 3), (65020, 8), (65024, 2), (65040, 8), (65056, 2), (65072, 8), (65136, 3), (65277, 8), (65279, 1), (65280, 8), (65281, 6), (65296, 4), (65306, 6), (65313, 3), (65339, 6), (65345, 3), (65371, 6), (65382, 3), (65501, 8), (65532, 7), (65534, 8), (126976, 7), (129792, 8), (131072, 3), (262142, 8)]

theorem kind_agree : agree kindL kindD 1114111 kindT = true := by decide +kernel
def kindR (r : Int) : Int := lookC kindL kindD (knownF r)

end Go.Proofs.YthpjkgoahneldaaDoor.Tb
end

section
/-
  One of chapter 2's tables: that its cases and its steps say the same of every number.
-/
namespace Go.Proofs.YthpjkgoahneldaaDoor.Tb

def widL : List (List RC × Int) := [([.le 31, .rg 127 159, .eq 173, .eq 1564, .rg 8203 8207, .rg 8234 8238, .rg 8288 8297, .eq 65279, .rg 768 879, .rg 1155 1161, .rg 1425 1469, .eq 1471, .rg 1473 1474, .rg 1476 1477, .eq 1479, .rg 1552 1562, .rg 1611 1631, .eq 1648, .rg 1750 1756, .rg 1759 1764, .rg 1767 1768, .rg 1770 1773, .eq 3633, .rg 3636 3642, .rg 3655 3662, .rg 6832 6911, .rg 7616 7679, .rg 8400 8447, .rg 12330 12333, .rg 12441 12442, .rg 65024 65039, .rg 65056 65071, .rg 4448 4607], 0), ([.rg 4352 4447, .rg 8986 8987, .rg 9001 9002, .rg 9193 9203, .rg 9748 9749, .rg 9800 9811, .rg 9917 9918, .eq 9989, .eq 10060, .rg 10067 10071, .rg 10133 10135, .eq 11088, .rg 11904 12350, .rg 12353 19903, .rg 19968 42191, .rg 44032 55203, .rg 63744 64255, .rg 65072 65135, .rg 65281 65376, .rg 65504 65510, .rg 127744 128591, .rg 128640 128767, .rg 129280 129791, .rg 131072 262141], 2), ([.eq 161, .eq 164, .rg 167 168, .eq 174, .rg 176 180, .rg 182 186, .rg 188 191, .eq 215, .eq 247, .rg 913 937, .rg 945 969, .rg 1040 1103, .rg 8208 8214, .rg 8216 8221, .rg 8224 8231, .rg 8240 8251, .rg 8592 8601, .rg 8704 8959, .rg 9312 9450, .rg 9472 9675, .rg 9677 9681, .rg 9733 9734, .rg 9824 9831, .rg 57344 63743], 3)]
def widD : Int := 1
def widT : List (Int × Int) := [(0, 0), (32, 1), (127, 0), (160, 1), (161, 3), (162, 1), (164, 3), (165, 1), (167, 3), (169, 1), (173, 0), (174, 3), (175, 1), (176, 3), (181, 1), (182, 3), (187, 1), (188, 3), (192, 1), (215, 3), (216, 1), (247, 3), (248, 1), (768, 0), (880, 1), (913, 3), (938, 1), (945, 3), (970, 1), (1040, 3), (1104, 1), (1155, 0), (1162, 1), (1425, 0), (1470, 1), (1471, 0), (1472, 1), (1473, 0), (1475, 1), (1476, 0), (1478, 1), (1479, 0), (1480, 1), (1552, 0), (1563, 1), (1564, 0), (1565, 1), (1611, 0), (1632, 1), (1648, 0), (1649, 1), (1750, 0), (1757, 1), (1759, 0), (1765, 1), (1767, 0), (1769, 1), (1770, 0), (1774, 1), (3633, 0), (3634, 1), (3636, 0), (3643, 1), (3655, 0), (3663, 1), (4352, 2), (4448, 0), (4608, 1), (6832, 0), (6912, 1), (7616, 0), (7680, 1), (8203, 0), (8208, 3), (8215, 1), (8216, 3), (8222, 1), (8224, 3), (8232, 1), (8234, 0), (8239, 1), (8240, 3), (8252, 1), (8288, 0), (8298, 1), (8400, 0), (8448, 1), (8592, 3), (8602, 1), (8704, 3), (8960, 1), (8986, 2), (8988, 1), (9001, 2), (9003, 1), (9193, 2), (9204, 1), (9312, 3), (9451, 1), (9472, 3), (9676, 1), (9677, 3), (9682, 1), (9733, 3), (9735, 1), (9748, 2), (9750, 1), (9800, 2), (9812, 1), (9824, 3), (9832, 1), (9917, 2), (9919, 1), (9989, 2), (9990, 1), (10060, 2), (10061, 1), (10067, 2), (10072, 1), (10133, 2), (10136, 1), (11088, 2), (11089, 1), (11904, 2), (12330, 0), (12334, 2), (12351, 1), (12353, 2), (12441, 0), (12443, 2), (19904, 1), (19968, 2), (42192, 1), (44032, 2), (55204, 1), (57344, 3), (63744, 2), (64256, 1), (65024, 0), (65040, 1), (65056, 0), (65072, 2), (65136, 1), (65279, 0), (65280, 1), (65281, 2), (65377, 1), (65504, 2), (65511, 1), (127744, 2), (128592, 1), (128640, 2), (128768, 1), (129280, 2), (129792, 1), (131072, 2), (262142, 1)]

theorem wid_agree : agree widL widD 1114111 widT = true := by decide +kernel
def widR (r : Int) : Int := lookC widL widD (knownF r)

end Go.Proofs.YthpjkgoahneldaaDoor.Tb
end

section
/-
  Parts of a row, one behind another: where they begin ('orb'), how many there are ('orbN'); f tells how many places the part that begins at a place has.
-/
namespace Go.Proofs.YthpjkgoahneldaaDoor.Orb

/-- Where part i begins, in a row of m places. -/
def orb (m : Nat) (f : Nat → Nat) : Nat → Nat
  | 0 => 0
  | i + 1 => if orb m f i < m then orb m f i + f (orb m f i) else orb m f i
def orbG (m : Nat) (f : Nat → Nat) : Nat → Nat
  | 0 => 0
  | k + 1 => if orb m f (orbG m f k) < m then orbG m f k + 1 else orbG m f k
/-- How many parts there are. -/
def orbN (m : Nat) (f : Nat → Nat) : Nat := orbG m f m

/-- Each part has a place at least, and ends within the row. -/
def Fit (m : Nat) (f : Nat → Nat) : Prop := ∀ k, k < m → 1 ≤ f k ∧ k + f k ≤ m

variable {m : Nat} {f : Nat → Nat}

theorem orb_le (h : Fit m f) : ∀ i, orb m f i ≤ m
  | 0 => Nat.zero_le _
  | i + 1 => by
    simp only [orb]
    split
    · rename_i hl; exact (h _ hl).2
    · exact orb_le h i
theorem orb_succ {i : Nat} (hi : orb m f i < m) : orb m f (i + 1) = orb m f i + f (orb m f i) := by simp only [orb]; rw [if_pos hi]
theorem orb_step (i : Nat) : orb m f i ≤ orb m f (i + 1) := by simp only [orb]; split <;> omega
theorem orb_mono {i j : Nat} (h : i ≤ j) : orb m f i ≤ orb m f j := by
  induction j with
  | zero => have : i = 0 := by omega
            subst this; exact Nat.le_refl _
  | succ j ih =>
    by_cases hi : i = j + 1
    · subst hi; exact Nat.le_refl _
    · exact Nat.le_trans (ih (by omega)) (orb_step j)
theorem orb_ge (h : Fit m f) : ∀ {i : Nat}, orb m f i < m → i ≤ orb m f i
  | 0, _ => Nat.zero_le _
  | i + 1, hi => by
    have h0 : orb m f i < m := Nat.lt_of_le_of_lt (orb_step i) hi
    have := orb_ge h h0
    rw [orb_succ h0]
    have := (h _ h0).1
    omega
theorem orbG_inv (h : Fit m f) (k : Nat) : orbG m f k ≤ k ∧ (∀ i, i < orbG m f k → orb m f i < m) ∧ (orb m f (orbG m f k) < m → orbG m f k = k) := by
  induction k with
  | zero => exact ⟨Nat.le_refl _, fun i hi => by simp [orbG] at hi, fun _ => rfl⟩
  | succ k ih =>
    obtain ⟨h1, h2, h3⟩ := ih
    simp only [orbG]
    split
    · rename_i hl
      refine ⟨by omega, fun i hi => ?_, fun _ => by rw [h3 hl]⟩
      by_cases hi' : i < orbG m f k
      · exact h2 i hi'
      · have : i = orbG m f k := by omega
        rw [this]; exact hl
    · rename_i hl
      exact ⟨by omega, h2, fun hh => absurd hh hl⟩
theorem orbN_le (h : Fit m f) : orbN m f ≤ m := (orbG_inv h m).1
theorem orb_end (h : Fit m f) : orb m f (orbN m f) = m := by
  by_cases hl : orb m f (orbN m f) < m
  · have h1 := (orbG_inv h m).2.2 hl
    have h2 := orb_ge h hl
    unfold orbN at *
    omega
  · have := orb_le h (orbN m f); omega
theorem orb_lt (h : Fit m f) {i : Nat} : i < orbN m f ↔ orb m f i < m := by
  refine ⟨(orbG_inv h m).2.1 i, fun hi => ?_⟩
  by_cases hc : i < orbN m f
  · exact hc
  · have := orb_mono (m := m) (f := f) (show orbN m f ≤ i by omega)
    rw [orb_end h] at this
    omega
theorem orb_out (h : Fit m f) {i : Nat} (hi : orbN m f ≤ i) : orb m f i = m := by
  have h1 := orb_mono (m := m) (f := f) hi
  rw [orb_end h] at h1
  have := orb_le h i
  omega
theorem orb_strict (h : Fit m f) {i j : Nat} (hij : i < j) (hi : i < orbN m f) : orb m f i + f (orb m f i) ≤ orb m f j := by
  rw [← orb_succ ((orb_lt h).1 hi)]
  exact orb_mono hij
theorem orb_inj (h : Fit m f) {i j : Nat} (hi : i ≤ orbN m f) (hj : j ≤ orbN m f) (he : orb m f i = orb m f j) : i = j := by
  rcases Nat.lt_trichotomy i j with hl | hl | hl
  · have := orb_strict h hl (by omega)
    have := (h _ ((orb_lt h).1 (show i < orbN m f by omega))).1
    omega
  · exact hl
  · have := orb_strict h hl (by omega)
    have := (h _ ((orb_lt h).1 (show j < orbN m f by omega))).1
    omega
theorem orb_zero (h : Fit m f) : orbN m f = 0 ↔ m = 0 := by
  refine ⟨fun h0 => ?_, fun h0 => ?_⟩
  · have := orb_end h; rw [h0] at this; exact this.symm
  · have := orbN_le h; omega
theorem orb_cover (h : Fit m f) {q : Nat} (hq : q < m) : ∃ i, i < orbN m f ∧ orb m f i ≤ q ∧ q < orb m f (i + 1) := by
  have key : ∀ i, i ≤ orbN m f → q < orb m f i → ∃ i, i < orbN m f ∧ orb m f i ≤ q ∧ q < orb m f (i + 1) := by
    intro i
    induction i with
    | zero => intro _ h2; simp [orb] at h2
    | succ i ih =>
      intro h1 h2
      by_cases h3 : orb m f i ≤ q
      · exact ⟨i, by omega, h3, h2⟩
      · exact ih (by omega) (by omega)
  exact key (orbN m f) (Nat.le_refl _) (by rw [orb_end h]; exact hq)

/-! ### Parts of a row -/

/-- What lies behind a border is parted as the whole is. -/
theorem orb_drop (h : Fit m f) {m' : Nat} {f' : Nat → Nat} {k : Nat} (hk : k ≤ orbN m f) (hm : m' + orb m f k = m) (hf : ∀ j, j < m' → f' j = f (orb m f k + j)) : ∀ i, orb m' f' i + orb m f k = orb m f (k + i)
  | 0 => by simp [orb]
  | i + 1 => by
    have ih := orb_drop h hk hm hf i
    rw [← Nat.add_assoc]
    simp only [orb]
    by_cases hl : orb m' f' i < m'
    · rw [if_pos hl, if_pos (by omega), hf _ hl, ← ih, Nat.add_comm (orb m f k)]
      omega
    · rw [if_neg hl, if_neg (by omega)]
      exact ih
theorem fit_drop (h : Fit m f) {m' b : Nat} {f' : Nat → Nat} (hm : m' + b = m) (hf : ∀ j, j < m' → f' j = f (b + j)) : Fit m' f' := by
  intro j hj
  have := h (b + j) (by omega)
  rw [hf j hj]
  omega
theorem orbN_drop (h : Fit m f) {m' : Nat} {f' : Nat → Nat} {k : Nat} (hk : k ≤ orbN m f) (hm : m' + orb m f k = m) (hf : ∀ j, j < m' → f' j = f (orb m f k + j)) : orbN m' f' + k = orbN m f := by
  have h' := fit_drop h hm hf
  have hd := orb_drop h hk hm hf
  have h1 := hd (orbN m' f')
  rw [orb_end h', hm] at h1
  have h2 : orb m f (orbN m f) = orb m f (k + orbN m' f') := by rw [orb_end h]; exact h1
  by_cases hlt : k + orbN m' f' ≤ orbN m f
  · have := orb_inj h (Nat.le_refl _) hlt h2; omega
  · have h3 := hd (orbN m f - k)
    rw [show k + (orbN m f - k) = orbN m f from by omega, orb_end h] at h3
    have h4 := (orb_lt h').1 (show orbN m f - k < orbN m' f' by omega)
    omega
/-- What lies ahead of a border, too. -/
theorem orb_take (h : Fit m f) {f' : Nat → Nat} {k : Nat} (hk : k ≤ orbN m f) (hf : ∀ i, i < k → f' (orb m f i) = f (orb m f i)) : ∀ i, i ≤ k → orb (orb m f k) f' i = orb m f i
  | 0, _ => rfl
  | i + 1, hi => by
    have ih := orb_take h hk hf i (by omega)
    have h1 : orb m f i < m := (orb_lt h).1 (by omega)
    have h2 := orb_strict h (show i < k by omega) (by omega)
    have h3 := (h _ h1).1
    simp only [orb, ih]
    rw [if_pos (by omega), if_pos h1, hf i (by omega)]
theorem orbN_take (h : Fit m f) {f' : Nat → Nat} {k : Nat} (hk : k ≤ orbN m f) (hf : ∀ i, i < k → f' (orb m f i) = f (orb m f i)) (hfit : Fit (orb m f k) f') : orbN (orb m f k) f' = k := by
  have ht := orb_take h hk hf
  have h1 := ht k (Nat.le_refl _)
  by_cases hlt : k < orbN (orb m f k) f'
  · have := (orb_lt hfit).1 hlt; omega
  · have h2 := orb_end hfit
    by_cases he : orbN (orb m f k) f' = k
    · exact he
    · have h3 := ht (orbN (orb m f k) f') (by omega)
      rw [h2] at h3
      exact (orb_inj h (by omega) hk h3.symm)

end Go.Proofs.YthpjkgoahneldaaDoor.Orb
end

section
/-
  Clusters in plain words: how many signs the one has that begins at a sign ('firstN'), where they lie in a text.
-/
namespace Go.Proofs.YthpjkgoahneldaaDoor.Cl
open Go Vc Ut Tb Orb

/-- Columns, with what is ambiguous told. -/
def wideR (r : Int) (b : Bool) : Int := if widR r < 3 then widR r else if b then 2 else 1
def regB (r : Int) : Bool := decide (127462 ≤ r) && decide (r ≤ 127487)
def joinB (r : Int) : Bool := r == 8204 || r == 8205
def picB (r : Int) : Bool := kindR r == 7 && wideR r false == 2
def aloneB (r : Int) : Bool := kindR r == 0 || (r == 8232 || r == 8233) || (kindR r == 1 && !joinB r)
/-- Parts of a syllable: 1 first, 2 vowel, 3 last, 4 open, 5 shut; 0 none. -/
def partN (r : Int) : Nat :=
  if 4352 ≤ r ∧ r ≤ 4447 then 1 else if 4448 ≤ r ∧ r ≤ 4519 then 2 else if 4520 ≤ r ∧ r ≤ 4607 then 3
  else if 44032 ≤ r ∧ r ≤ 55203 then (if (r - 44032) % 28 = 0 then 4 else 5) else 0
def sylT : Nat → Nat → Bool
  | 1, b => b == 1 || b == 2 || b == 4 || b == 5
  | 2, b => b == 2 || b == 3
  | 4, b => b == 2 || b == 3
  | 3, b => b == 3
  | 5, b => b == 3
  | _, _ => false
def sylB (a b : Int) : Bool := sylT (partN a) (partN b)
/-- Is y taken, x being the first one, z the last one taken, with n taken? -/
def takesB (x z y : Int) (n : Nat) : Bool := (kindR y == 2 || joinB y) || (n == 1 && (regB x && regB y)) || (z == 8205 && (picB x && picB y)) || sylB z y

/-- The sign at a place. -/
def sg (s : ByteArray) (k : Nat) : Int := dcR s (pos s k)
def goB (s : ByteArray) (k n : Nat) : Bool := decide (k + n < cnt s) && (decide (n < 32) && (!isBad s (k + n) && takesB (sg s k) (sg s (k + n - 1)) (sg s (k + n)) n))
def goN (s : ByteArray) (k : Nat) : Nat → Nat → Nat
  | 0, n => n
  | f + 1, n => if goB s k n = true then goN s k f (n + 1) else n
def crB (s : ByteArray) (k : Nat) : Bool := sg s k == 13 && (decide (k + 1 < cnt s) && sg s (k + 1) == 10)
/-- How many signs the cluster has that begins at sign k. -/
def firstN (s : ByteArray) (k : Nat) : Nat := if isBad s k = true then 1 else if crB s k = true then 2 else if aloneB (sg s k) = true then 1 else goN s k 32 1

theorem goN_ge (s : ByteArray) (k : Nat) : ∀ f n, n ≤ goN s k f n
  | 0, n => Nat.le_refl _
  | f + 1, n => by
    unfold goN
    split
    · have := goN_ge s k f (n + 1); omega
    · exact Nat.le_refl _
theorem goN_le (s : ByteArray) (k : Nat) : ∀ f n, k + n ≤ cnt s → n ≤ 32 → k + goN s k f n ≤ cnt s ∧ goN s k f n ≤ 32
  | 0, n, h1, h2 => ⟨h1, h2⟩
  | f + 1, n, h1, h2 => by
    unfold goN
    split
    · rename_i h
      simp only [goB, Bool.and_eq_true, decide_eq_true_eq] at h
      exact goN_le s k f (n + 1) (by omega) (by omega)
    · exact ⟨h1, h2⟩
/-- One step of the document's loop. -/
theorem goN_step {s : ByteArray} {k n : Nat} (h : goB s k n = true) : n < 32 ∧ goN s k (33 - n) n = goN s k (33 - (n + 1)) (n + 1) := by
  have h' := h
  simp only [goB, Bool.and_eq_true, decide_eq_true_eq] at h'
  refine ⟨h'.2.1, ?_⟩
  rw [show 33 - n = (33 - (n + 1)) + 1 from by omega]
  simp only [goN]
  rw [if_pos h]
theorem goN_stop {s : ByteArray} {k n : Nat} (h : goB s k n = false) : goN s k (33 - n) n = n := by
  cases h33 : 33 - n with
  | zero => rfl
  | succ m => simp only [goN]; rw [if_neg (by rw [h]; decide)]

theorem first_fit (s : ByteArray) : Fit (cnt s) (firstN s) := by
  intro k hk
  unfold firstN
  split
  · omega
  · split
    · rename_i h
      simp only [crB, Bool.and_eq_true, decide_eq_true_eq] at h
      omega
    · split
      · omega
      · exact ⟨goN_ge s k 32 1, (goN_le s k 32 1 (by omega) (by omega)).1⟩
theorem first_le (s : ByteArray) {k : Nat} (hk : k < cnt s) : firstN s k ≤ 32 := by
  unfold firstN
  split
  · omega
  · split
    · omega
    · split
      · omega
      · exact (goN_le s k 32 1 (by omega) (by omega)).2

/-! ### Parts of a text -/

theorem sg_drop {s : ByteArray} {k : Nat} (n : Nat) : sg (s.extract (pos s k) s.size) n = sg s (k + n) := by
  unfold sg dcR; rw [dc_drop]
theorem bad_drop {s : ByteArray} {k : Nat} (n : Nat) : isBad (s.extract (pos s k) s.size) n = isBad s (k + n) := by
  unfold isBad dcR dcN; rw [dc_drop]
theorem sg_take {s : ByteArray} {k n : Nat} (hn : n < k) (hk : k ≤ cnt s) : sg (s.extract 0 (pos s k)) n = sg s n := by
  unfold sg dcR; rw [pos_take (by omega) hk, dc_take hn hk]
theorem bad_take {s : ByteArray} {k n : Nat} (hn : n < k) (hk : k ≤ cnt s) : isBad (s.extract 0 (pos s k)) n = isBad s n := by
  unfold isBad dcR dcN; rw [pos_take (by omega) hk, dc_take hn hk]

theorem goB_drop {s : ByteArray} {k j n : Nat} (hk : k ≤ cnt s) (hn : 1 ≤ n) : goB (s.extract (pos s k) s.size) j n = goB s (k + j) n := by
  unfold goB
  rw [sg_drop, sg_drop, sg_drop, bad_drop, cnt_drop hk, show k + (j + n) = k + j + n from by omega, show k + (j + n - 1) = k + j + n - 1 from by omega, show decide (j + n < cnt s - k) = decide (k + j + n < cnt s) from decide_eq_decide.2 (by omega)]
theorem goN_drop {s : ByteArray} {k j : Nat} (hk : k ≤ cnt s) : ∀ f n, 1 ≤ n → goN (s.extract (pos s k) s.size) j f n = goN s (k + j) f n
  | 0, _, _ => rfl
  | f + 1, n, hn => by
    simp only [goN]
    rw [goB_drop hk hn, goN_drop hk f (n + 1) (by omega)]
theorem first_drop {s : ByteArray} {k : Nat} (hk : k ≤ cnt s) (j : Nat) : firstN (s.extract (pos s k) s.size) j = firstN s (k + j) := by
  unfold firstN crB
  rw [bad_drop, sg_drop, sg_drop, cnt_drop hk, goN_drop hk 32 1 (by omega), ← Nat.add_assoc, show decide (j + 1 < cnt s - k) = decide (k + j + 1 < cnt s) from decide_eq_decide.2 (by omega)]

theorem goB_take {s : ByteArray} {k j n : Nat} (hk : k ≤ cnt s) (hn : j + n < k) : goB (s.extract 0 (pos s k)) j n = goB s j n := by
  unfold goB
  rw [sg_take (by omega) hk, sg_take (by omega) hk, sg_take hn hk, bad_take hn hk, cnt_take hk, show decide (j + n < k) = decide (j + n < cnt s) from decide_eq_decide.2 (by omega)]
/-- A cluster that ends ahead of a place is told without what is behind it. -/
theorem goN_take {s : ByteArray} {k j : Nat} (hk : k ≤ cnt s) : ∀ f n, j + n ≤ k → j + goN s j f n ≤ k → goN (s.extract 0 (pos s k)) j f n = goN s j f n
  | 0, _, _, _ => rfl
  | f + 1, n, h0, h => by
    simp only [goN] at h ⊢
    by_cases hn : j + n < k
    · rw [goB_take hk hn]
      by_cases hg : goB s j n = true
      · rw [if_pos hg] at h
        rw [if_pos hg, if_pos hg]
        have := goN_ge s j f (n + 1)
        exact goN_take hk f (n + 1) (by omega) h
      · rw [if_neg hg, if_neg hg]
    · have he : goB (s.extract 0 (pos s k)) j n = false := by
        unfold goB
        rw [cnt_take hk, decide_eq_false (by omega)]; rfl
      rw [if_neg (by rw [he]; decide)]
      by_cases hg : goB s j n = true
      · rw [if_pos hg] at h
        have := goN_ge s j f (n + 1)
        omega
      · rw [if_neg hg]
theorem first_take {s : ByteArray} {k j : Nat} (hk : k ≤ cnt s) (hj : j < k) (h : j + firstN s j ≤ k) : firstN (s.extract 0 (pos s k)) j = firstN s j := by
  unfold firstN at h ⊢
  rw [bad_take hj hk, sg_take hj hk]
  by_cases hb : isBad s j = true
  · rw [if_pos hb, if_pos hb]
  · rw [if_neg hb] at h
    rw [if_neg hb, if_neg hb]
    by_cases hc : crB s j = true
    · rw [if_pos hc] at h
      have : crB (s.extract 0 (pos s k)) j = true := by
        unfold crB at hc ⊢
        rw [sg_take hj hk, sg_take (by omega) hk, cnt_take hk]
        simp only [Bool.and_eq_true, decide_eq_true_eq] at hc ⊢
        exact ⟨hc.1, by omega, hc.2.2⟩
      rw [if_pos hc, if_pos this]
    · rw [if_neg hc] at h
      have : ¬ crB (s.extract 0 (pos s k)) j = true := by
        intro h2
        apply hc
        unfold crB at h2 ⊢
        rw [sg_take hj hk, cnt_take hk] at h2
        simp only [Bool.and_eq_true, decide_eq_true_eq] at h2 ⊢
        have h3 := h2.2.2
        rw [sg_take h2.2.1 hk] at h3
        exact ⟨h2.1, by omega, h3⟩
      rw [if_neg hc, if_neg this]
      by_cases ha : aloneB (sg s j) = true
      · rw [if_pos ha, if_pos ha]
      · rw [if_neg ha] at h
        rw [if_neg ha, if_neg ha]
        exact goN_take hk 32 1 (by omega) h

/-! ### CR LF -/

theorem decodeN_low (n b0 b1 b2 b3 : Nat) (h : (Lib.decodeN n b0 b1 b2 b3).1 < 128) : (Lib.decodeN n b0 b1 b2 b3).2 = 1 ∧ b0 = (Lib.decodeN n b0 b1 b2 b3).1 := by
  unfold Lib.decodeN at h ⊢
  repeat' split at h
  all_goals simp only at h
  all_goals first | omega | skip
  all_goals simp_all
theorem dc_low {s : ByteArray} {i : Nat} (h : dcR s i < 128) : dcN s i = 1 ∧ dcR s i = (bt s i : Int) := by
  have := decodeN_low (s.size - i) (bt s i) (bt s (i + 1)) (bt s (i + 2)) (bt s (i + 3)) (by unfold dcR at h; rw [dc_eq] at h; omega)
  unfold dcR dcN; rw [dc_eq]
  exact ⟨this.1, by rw [← this.2]⟩
theorem alone_13 : aloneB 13 = true := by decide +kernel
/-- A text that begins with CR. -/
theorem cr_is {s : ByteArray} (h0 : 0 < s.size) (h : sg s 0 = 13) : pos s 1 = 1 ∧ (crB s 0 = true ↔ 1 < s.size ∧ bt s 1 = 10) ∧ (crB s 0 = true → pos s 2 = 2) := by
  have hp0 : pos s 0 = 0 := rfl
  have h1 := dc_low (s := s) (i := 0) (by unfold sg at h; rw [hp0] at h; omega)
  have p1 : pos s 1 = 1 := by rw [pos_succ (n := 0) (by rw [hp0]; exact h0), hp0, h1.1]
  have hc : crB s 0 = true ↔ 1 < s.size ∧ bt s 1 = 10 := by
    unfold crB
    rw [h]
    have : (0 + 1 < cnt s) ↔ 1 < s.size := by rw [cnt_lt, p1]
    simp only [Bool.and_eq_true, decide_eq_true_eq, beq_iff_eq, true_and, this]
    refine and_congr_right fun hl => ?_
    unfold sg
    rw [p1]
    constructor
    · intro hh; have := (dc_low (s := s) (i := 1) (by omega)).2; omega
    · intro hh
      have h3 := dc_ascii (s := s) (i := 1) (by omega)
      have h4 := dc_one h3
      rw [if_pos (by omega)] at h4
      rw [h4, hh]; rfl
  refine ⟨p1, hc, fun hh => ?_⟩
  have h2 := (hc.1 hh)
  rw [pos_succ (n := 1) (by rw [p1]; exact h2.1), p1, dc_ascii (by omega)]

/-! ### A text's clusters -/

/-- The sign with which cluster i begins; its byte; how many clusters. -/
def bk (s : ByteArray) (i : Nat) : Nat := orb (cnt s) (firstN s) i
def bp (s : ByteArray) (i : Nat) : Nat := pos s (bk s i)
def ncl (s : ByteArray) : Nat := orbN (cnt s) (firstN s)

theorem bk_le (s : ByteArray) (i : Nat) : bk s i ≤ cnt s := orb_le (first_fit s) i
theorem bk_lt {s : ByteArray} {i : Nat} : i < ncl s ↔ bk s i < cnt s := orb_lt (first_fit s)
theorem bk_succ {s : ByteArray} {i : Nat} (h : i < ncl s) : bk s (i + 1) = bk s i + firstN s (bk s i) := orb_succ (bk_lt.1 h)
theorem bk_end (s : ByteArray) : bk s (ncl s) = cnt s := orb_end (first_fit s)
theorem bp_le (s : ByteArray) (i : Nat) : bp s i ≤ s.size := pos_le s _
theorem bp_end (s : ByteArray) : bp s (ncl s) = s.size := by unfold bp; rw [bk_end, pos_cnt]
theorem bp_zero (s : ByteArray) : bp s 0 = 0 := rfl
theorem bp_lt {s : ByteArray} {i : Nat} : i < ncl s ↔ bp s i < s.size := by rw [bk_lt, cnt_lt]; rfl
theorem bp_mono (s : ByteArray) {i j : Nat} (h : i ≤ j) : bp s i ≤ bp s j := pos_mono s (orb_mono h)
theorem bp_strict {s : ByteArray} {i j : Nat} (h : i < j) (hi : i < ncl s) : bp s i < bp s j := by
  have h1 := orb_strict (first_fit s) h hi
  have h2 := bk_lt.1 hi
  have h3 := (first_fit s _ h2).1
  unfold bp
  have h4 : pos s (bk s i) + dcN s (pos s (bk s i)) ≤ pos s (bk s j) := pos_strict (by unfold bk at *; omega) h2
  have := dcN_pos s (pos s (bk s i))
  omega
theorem ncl_le (s : ByteArray) : ncl s ≤ s.size := Nat.le_trans (orbN_le (first_fit s)) (cnt_le s)
theorem ncl_zero {s : ByteArray} : ncl s = 0 ↔ s.size = 0 := by rw [← cnt_zero]; exact orb_zero (first_fit s)
theorem bp_inj {s : ByteArray} {i j : Nat} (hi : i ≤ ncl s) (hj : j ≤ ncl s) (h : bp s i = bp s j) : i = j := by
  rcases Nat.lt_trichotomy i j with hl | hl | hl
  · have := bp_strict (s := s) hl (by omega); omega
  · exact hl
  · have := bp_strict (s := s) hl (by omega); omega
theorem bp_cover {s : ByteArray} {q : Nat} (h : q < s.size) : ∃ i, i < ncl s ∧ bp s i ≤ q ∧ q < bp s (i + 1) := by
  obtain ⟨n, h1, h2, h3⟩ := pos_cover h
  obtain ⟨i, g1, g2, g3⟩ := orb_cover (first_fit s) h1
  refine ⟨i, g1, Nat.le_trans (pos_mono s g2) h2, Nat.lt_of_lt_of_le h3 (pos_mono s g3)⟩

/-- Cut at a border, a text's clusters are those of the parts. -/
theorem bk_drop {s : ByteArray} {k : Nat} (hk : k ≤ ncl s) (i : Nat) : bk (s.extract (bp s k) s.size) i + bk s k = bk s (k + i) := by
  unfold bk bp
  refine orb_drop (first_fit s) hk ?_ ?_ i
  · rw [cnt_drop (bk_le s k)]; have := bk_le s k; unfold bk at *; omega
  · intro j _; exact first_drop (bk_le s k) j
theorem ncl_drop {s : ByteArray} {k : Nat} (hk : k ≤ ncl s) : ncl (s.extract (bp s k) s.size) + k = ncl s := by
  unfold ncl bp
  refine orbN_drop (first_fit s) hk ?_ ?_
  · rw [cnt_drop (bk_le s k)]; have := bk_le s k; unfold bk at *; omega
  · intro j _; exact first_drop (bk_le s k) j
theorem bp_drop {s : ByteArray} {k : Nat} (hk : k ≤ ncl s) (i : Nat) : bp (s.extract (bp s k) s.size) i + bp s k = bp s (k + i) := by
  have h := bk_drop hk i
  have h2 := pos_drop (s := s) (k := bk s k) (bk (s.extract (bp s k) s.size) i)
  unfold bp at *
  rw [h2, Nat.add_comm, h]
theorem cnt_cut {s : ByteArray} (k : Nat) : cnt (s.extract 0 (bp s k)) = bk s k := cnt_take (bk_le s k)
theorem first_cut {s : ByteArray} {k : Nat} (hk : k ≤ ncl s) : ∀ i, i < k → firstN (s.extract 0 (bp s k)) (bk s i) = firstN s (bk s i) := by
  intro i hi
  have h1 := orb_strict (first_fit s) hi (by unfold ncl at hk; omega)
  have h2 := bk_lt.1 (show i < ncl s by omega)
  have h3 := (first_fit s _ h2).1
  exact first_take (bk_le s k) (by unfold bk at *; omega) h1
theorem bk_take {s : ByteArray} {k : Nat} (hk : k ≤ ncl s) {i : Nat} (hi : i ≤ k) : bk (s.extract 0 (bp s k)) i = bk s i := by
  have := orb_take (first_fit s) hk (f' := firstN (s.extract 0 (bp s k))) (first_cut hk) i hi
  show orb (cnt (s.extract 0 (bp s k))) _ i = _
  rw [cnt_cut]; exact this
theorem ncl_take {s : ByteArray} {k : Nat} (hk : k ≤ ncl s) : ncl (s.extract 0 (bp s k)) = k := by
  show orbN (cnt (s.extract 0 (bp s k))) _ = _
  have h := orbN_take (first_fit s) hk (f' := firstN (s.extract 0 (bp s k))) (first_cut hk) (by have := first_fit (s.extract 0 (bp s k)); rw [cnt_cut] at this; exact this)
  rw [cnt_cut]; exact h
theorem bp_take {s : ByteArray} {k : Nat} (hk : k ≤ ncl s) {i : Nat} (hi : i ≤ k) : bp (s.extract 0 (bp s k)) i = bp s i := by
  unfold bp
  rw [show bk (s.extract 0 (pos s (bk s k))) i = bk s i from bk_take hk hi]
  exact pos_take (orb_mono hi) (bk_le s k)

end Go.Proofs.YthpjkgoahneldaaDoor.Cl
end
