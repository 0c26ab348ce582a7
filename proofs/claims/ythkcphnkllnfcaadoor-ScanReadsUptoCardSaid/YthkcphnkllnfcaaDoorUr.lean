/-
  The document's decoder in plain words ('begins', 'number'), and that it says what the model's own decoder says; runes put into bytes.
-/
import Derived.Test.YthkcphnkllnfcaaDoorUt
import Derived.Shelf.Unicode.DecodeSlow
set_option linter.unusedVariables false
set_option linter.unusedSimpArgs false
namespace Go.Proofs.YthkcphnkllnfcaaDoor.Ut
open Go Vc

/-- The least, the greatest second byte behind c, how many bytes there are. -/
def secN (c : Nat) : Nat × Nat × Nat :=
  if 194 ≤ c ∧ c ≤ 223 then (128, 191, 2) else if c = 224 then (160, 191, 3) else if c = 237 then (128, 159, 3) else if 225 ≤ c ∧ c ≤ 239 then (128, 191, 3)
  else if c = 240 then (144, 191, 4) else if 241 ≤ c ∧ c ≤ 243 then (128, 191, 4) else if c = 244 then (128, 143, 4) else (0, 0, 0)
theorem secN_bd (c : Nat) : (secN c).1 ≤ 255 ∧ (secN c).2.1 ≤ 255 ∧ (secN c).2.2 ≤ 4 := by
  unfold secN; repeat' split
  all_goals simp

def loB (s : ByteArray) (n : Nat) : Nat := if n = 1 then (secN (bt s 0)).1 else 128
def hiB (s : ByteArray) (n : Nat) : Nat := if n = 1 then (secN (bt s 0)).2.1 else 191
def okB (s : ByteArray) (n : Nat) : Prop := n < s.size ∧ loB s n ≤ bt s n ∧ bt s n ≤ hiB s n
instance (s : ByteArray) (n : Nat) : Decidable (okB s n) := inferInstanceAs (Decidable (_ ∧ _))
def runB (s : ByteArray) : Nat → Nat → Nat
  | 0, n => n
  | f + 1, n => if okB s n then runB s f (n + 1) else n
def begS (s : ByteArray) : Nat := if s.size = 0 then 0 else if bt s 0 < 128 then 1 else (secN (bt s 0)).2.2
def begN (s : ByteArray) : Nat := if s.size = 0 then 0 else if bt s 0 < 128 then 1 else if (secN (bt s 0)).2.2 = 0 then 0 else runB s ((secN (bt s 0)).2.2 - 1) 1

theorem runB_ge (s : ByteArray) : ∀ f n, n ≤ runB s f n ∧ runB s f n ≤ n + f
  | 0, n => by simp [runB]
  | f + 1, n => by
    unfold runB; split
    · have := runB_ge s f (n + 1); omega
    · omega
theorem runB_size (s : ByteArray) : ∀ f n, n ≤ s.size → runB s f n ≤ s.size
  | 0, n, h => h
  | f + 1, n, h => by
    unfold runB; split
    · rename_i hk; exact runB_size s f (n + 1) hk.1
    · exact h
theorem begN_le (s : ByteArray) : begN s ≤ begS s ∧ begN s ≤ s.size ∧ begS s ≤ 4 := by
  have hb := secN_bd (bt s 0)
  unfold begN begS
  by_cases h0 : s.size = 0
  · rw [if_pos h0, if_pos h0]; omega
  rw [if_neg h0, if_neg h0]
  by_cases h1 : bt s 0 < 128
  · rw [if_pos h1, if_pos h1]; omega
  rw [if_neg h1, if_neg h1]
  by_cases h2 : (secN (bt s 0)).2.2 = 0
  · rw [if_pos h2]; omega
  rw [if_neg h2]
  have h3 := runB_ge s ((secN (bt s 0)).2.2 - 1) 1
  have h4 := runB_size s ((secN (bt s 0)).2.2 - 1) 1 (by omega)
  omega

def maskN (k : Nat) : Nat := if k = 1 then 128 else if k = 2 then 32 else if k = 3 then 16 else 8
def numP (s : ByteArray) (k : Nat) : Nat → Nat
  | 0 => bt s 0 % maskN k
  | n + 1 => 64 * numP s k n + bt s (n + 1) % 64
def numR (s : ByteArray) (k : Nat) : Nat := numP s k (k - 1)

theorem numP_le (s : ByteArray) (k n : Nat) : numP s k n < 128 * 64 ^ n := by
  induction n with
  | zero => unfold numP maskN; repeat' split
            all_goals omega
  | succ n ih =>
    simp only [numP]
    have : bt s (n + 1) % 64 < 64 := Nat.mod_lt _ (by omega)
    rw [Nat.pow_succ]; omega

/-- The document's step. -/
def nextR (s : ByteArray) : Nat × Nat := if s.size = 0 then (65533, 0) else if begN s = 0 ∨ begN s < begS s then (65533, 1) else (numR s (begS s), begS s)

theorem runB1 (s : ByteArray) : runB s 1 1 = if okB s 1 then 2 else 1 := by unfold runB; rfl
theorem runB2 (s : ByteArray) : runB s 2 1 = if okB s 1 then (if okB s 2 then 3 else 2) else 1 := by unfold runB; unfold runB; rfl
theorem runB3 (s : ByteArray) : runB s 3 1 = if okB s 1 then (if okB s 2 then (if okB s 3 then 4 else 3) else 2) else 1 := by unfold runB; unfold runB; unfold runB; rfl

set_option maxHeartbeats 4000000 in
theorem nextR_eq {s : ByteArray} (h : s.size ≠ 0) : nextR s = Utf8.decode s 0 := by
  have b0 := bt_lt s 0; have b1 := bt_lt s 1; have b2 := bt_lt s 2; have b3 := bt_lt s 3
  rw [dc_eq]
  simp only [Nat.sub_zero, Nat.zero_add]
  unfold nextR
  rw [if_neg h]
  unfold begN begS
  rw [if_neg h, if_neg h]
  by_cases h1 : bt s 0 < 128
  · rw [if_pos h1, if_pos h1, if_neg (by omega)]
    unfold Lib.decodeN numR
    rw [if_pos h1]
    show (bt s 0 % 128, 1) = (bt s 0, 1)
    rw [Nat.mod_eq_of_lt h1]
  rw [if_neg h1, if_neg h1]
  have o1 : okB s 1 ↔ 1 < s.size ∧ (secN (bt s 0)).1 ≤ bt s 1 ∧ bt s 1 ≤ (secN (bt s 0)).2.1 := by unfold okB loB hiB; simp
  have o2 : okB s 2 ↔ 2 < s.size ∧ 128 ≤ bt s 2 ∧ bt s 2 ≤ 191 := by unfold okB loB hiB; simp
  have o3 : okB s 3 ↔ 3 < s.size ∧ 128 ≤ bt s 3 ∧ bt s 3 ≤ 191 := by unfold okB loB hiB; simp
  generalize hc1 : bt s 1 = c1 at *
  generalize hc2 : bt s 2 = c2 at *
  generalize hc3 : bt s 3 = c3 at *
  have n1 : numR s 2 = bt s 0 % 32 * 64 + c1 % 64 := by simp only [numR, numP, maskN, hc1]; simp; omega
  have n2 : numR s 3 = bt s 0 % 16 * 4096 + c1 % 64 * 64 + c2 % 64 := by simp only [numR, numP, maskN, hc1, hc2]; simp; omega
  have n3 : numR s 4 = bt s 0 % 8 * 262144 + c1 % 64 * 4096 + c2 % 64 * 64 + c3 % 64 := by simp only [numR, numP, maskN, hc1, hc2, hc3]; simp; omega
  generalize hc0 : bt s 0 = c0 at *
  generalize s.size = n at *
  unfold Lib.decodeN
  rw [if_neg h1]
  have cls : (c0 < 194 ∨ 244 < c0) ∨ (194 ≤ c0 ∧ c0 ≤ 223) ∨ (224 ≤ c0 ∧ c0 ≤ 239) ∨ (240 ≤ c0 ∧ c0 ≤ 244) := by omega
  rcases cls with hc | hc | hc | hc
  · have e : secN c0 = (0, 0, 0) := by
      unfold secN; rw [if_neg (by omega), if_neg (by omega), if_neg (by omega), if_neg (by omega), if_neg (by omega), if_neg (by omega), if_neg (by omega)]
    rw [e]
    simp only [if_true, true_or]
    repeat' split
    all_goals first | rfl | (exfalso; omega)
  · have e : secN c0 = (128, 191, 2) := by unfold secN; rw [if_pos hc]
    rw [e] at o1 ⊢
    simp only at o1 ⊢
    rw [show (if (2 : Nat) = 0 then 0 else runB s (2 - 1) 1) = runB s 1 1 from rfl, runB1, n1]
    by_cases k1 : okB s 1
    · have := o1.1 k1
      rw [if_pos k1, if_neg (by omega), if_pos ⟨by omega, by omega, by omega⟩, if_pos (by omega)]
    · have := mt o1.2 k1
      rw [if_neg k1, if_pos (by omega), if_neg (by omega), if_neg (by omega), if_neg (by omega)]
  · have e : (secN c0).2.2 = 3 ∧ ((secN c0).1 = if c0 = 224 then 160 else 128) ∧ ((secN c0).2.1 = if c0 = 237 then 159 else 191) := by
      unfold secN; rw [if_neg (by omega)]; repeat' split
      all_goals simp_all
      all_goals omega
    obtain ⟨e1, e2, e3⟩ := e
    rw [e2, e3] at o1
    have hlo : 128 ≤ (if c0 = 224 then 160 else 128) := by split <;> omega
    have hhi : (if c0 = 237 then 159 else 191) ≤ 191 := by split <;> omega
    rw [e1, show (if (3 : Nat) = 0 then 0 else runB s (3 - 1) 1) = runB s 2 1 from rfl, runB2, n2, if_neg (c := c0 / 32 = 6 ∧ 1 < n ∧ c1 / 64 = 2) (by omega)]
    by_cases k1 : okB s 1
    · have h1' := o1.1 k1
      rw [if_pos k1]
      by_cases k2 : okB s 2
      · have h2' := o2.1 k2
        rw [if_pos k2, if_neg (by omega), if_pos ⟨by omega, ⟨by omega, by omega⟩, by omega, by omega⟩]
        rw [if_pos (by split at h1' <;> split at h1' <;> omega)]
      · have h2' := mt o2.2 k2
        rw [if_neg k2, if_pos (by omega), if_neg (by omega), if_neg (by omega)]
    · have h1' := mt o1.2 k1
      rw [if_neg k1, if_pos (by omega)]
      by_cases k : c0 / 16 = 14 ∧ (1 < n ∧ c1 / 64 = 2) ∧ 2 < n ∧ c2 / 64 = 2
      · rw [if_pos k, if_neg (by split at h1' <;> split at h1' <;> omega)]
      · rw [if_neg k, if_neg (by omega)]
  · have e : (secN c0).2.2 = 4 ∧ ((secN c0).1 = if c0 = 240 then 144 else 128) ∧ ((secN c0).2.1 = if c0 = 244 then 143 else 191) := by
      unfold secN; rw [if_neg (by omega), if_neg (by omega), if_neg (by omega), if_neg (by omega)]; repeat' split
      all_goals simp_all
      all_goals omega
    obtain ⟨e1, e2, e3⟩ := e
    rw [e2, e3] at o1
    have hlo : 128 ≤ (if c0 = 240 then 144 else 128) := by split <;> omega
    have hhi : (if c0 = 244 then 143 else 191) ≤ 191 := by split <;> omega
    rw [e1, show (if (4 : Nat) = 0 then 0 else runB s (4 - 1) 1) = runB s 3 1 from rfl, runB3, n3, if_neg (c := c0 / 32 = 6 ∧ 1 < n ∧ c1 / 64 = 2) (by omega), if_neg (c := c0 / 16 = 14 ∧ (1 < n ∧ c1 / 64 = 2) ∧ 2 < n ∧ c2 / 64 = 2) (by omega)]
    by_cases k1 : okB s 1
    · have h1' := o1.1 k1
      rw [if_pos k1]
      by_cases k2 : okB s 2
      · have h2' := o2.1 k2
        rw [if_pos k2]
        by_cases k3 : okB s 3
        · have h3' := o3.1 k3
          rw [if_pos k3, if_neg (by omega), if_pos ⟨by omega, ⟨by omega, by omega⟩, ⟨by omega, by omega⟩, by omega, by omega⟩]
          rw [if_pos (by split at h1' <;> split at h1' <;> omega)]
        · have h3' := mt o3.2 k3
          rw [if_neg k3, if_pos (by omega), if_neg (by omega)]
      · have h2' := mt o2.2 k2
        rw [if_neg k2, if_pos (by omega), if_neg (by omega)]
    · have h1' := mt o1.2 k1
      rw [if_neg k1, if_pos (by omega)]
      by_cases k : c0 / 8 = 30 ∧ (1 < n ∧ c1 / 64 = 2) ∧ (2 < n ∧ c2 / 64 = 2) ∧ 3 < n ∧ c3 / 64 = 2
      · rw [if_pos k, if_neg (by split at h1' <;> split at h1' <;> omega)]
      · rw [if_neg k]

/-- A step at the beginning: nothing, or the decoder's. -/
def nxR (s : ByteArray) : Int := if s.size = 0 then 65533 else dcR s 0
def nxN (s : ByteArray) : Nat := if s.size = 0 then 0 else dcN s 0
theorem decodeGo_eq (s : ByteArray) : ((Lib.decodeGo s).1 : Int) = nxR s ∧ (Lib.decodeGo s).2 = nxN s := by
  unfold Lib.decodeGo nxR nxN dcR dcN
  split <;> exact ⟨rfl, rfl⟩
theorem nextR_nx (s : ByteArray) : ((nextR s).1 : Int) = nxR s ∧ (nextR s).2 = nxN s := by
  unfold nxR nxN
  by_cases h : s.size = 0
  · unfold nextR; rw [if_pos h, if_pos h, if_pos h]; exact ⟨rfl, rfl⟩
  · rw [nextR_eq h, if_neg h, if_neg h]; exact ⟨rfl, rfl⟩

/-- No beginning of a character. -/
def wholeB (s : ByteArray) : Bool := decide (s.size ≠ 0 ∧ (begN s ≠ s.size ∨ begN s = begS s))

/-- The last one. -/
def lsR (s : ByteArray) : Int := if cnt s = 0 then 65533 else dcR s (pos s (cnt s - 1))
def lsN (s : ByteArray) : Nat := if cnt s = 0 then 0 else dcN s (pos s (cnt s - 1))
theorem decodeLast_eq (s : ByteArray) : ((Lib.decodeLastL s.data.toList).1 : Int) = lsR s ∧ (Lib.decodeLastL s.data.toList).2 = lsN s := by
  unfold lsR lsN
  by_cases h : cnt s = 0
  · have : s.data.toList = [] := List.eq_nil_of_length_eq_zero (by rw [size_list]; exact cnt_zero.1 h)
    unfold Lib.decodeLastL
    rw [if_pos this, if_pos h, if_pos h]; exact ⟨rfl, rfl⟩
  · rw [if_neg h, if_neg h, last_eq (n := cnt s - 1) (by omega)]; exact ⟨rfl, rfl⟩

/-! ### Bad bytes -/

def isBad (s : ByteArray) (n : Nat) : Bool := decide (dcN s (pos s n) = 1 ∧ dcR s (pos s n) = 65533)
def badL (s : ByteArray) : List Int := ((List.range (cnt s)).filter (isBad s)).map fun n => (pos s n : Int)
def validB (s : ByteArray) : Bool := (List.range (cnt s)).all fun n => !isBad s n

theorem drop_all (s : ByteArray) (n : Nat) (h : n < cnt s) : (List.range' n (cnt s - n)) = n :: List.range' (n + 1) (cnt s - (n + 1)) := by
  rw [show cnt s - n = cnt s - (n + 1) + 1 from by omega, List.range'_succ]

theorem validGoD_eq (s : ByteArray) : ∀ (f n : Nat), cnt s ≤ n + f → n ≤ cnt s → Lib.validGoD f (s.data.toList.drop (pos s n)) = (List.range' n (cnt s - n)).all fun m => !isBad s m
  | 0, n, h, hn => by
    have : n = cnt s := by omega
    subst this; simp [Lib.validGoD]
  | f + 1, n, h, hn => by
    unfold Lib.validGoD
    by_cases hp : pos s n < s.size
    · have hlt := cnt_lt.2 hp
      rw [if_neg (by intro e; have := congrArg List.length e; rw [List.length_drop, size_list] at this; simp at this; omega), decodeL_drop s (by omega), drop_all s n hlt, List.all_cons]
      by_cases hb : (Utf8.decode s (pos s n)).1 = 65533 ∧ (Utf8.decode s (pos s n)).2 = 1
      · rw [if_pos hb]
        have : isBad s n = true := by unfold isBad dcN dcR; simp; omega
        rw [this]; rfl
      · rw [if_neg hb, List.drop_drop]
        have e : pos s n + (Utf8.decode s (pos s n)).2 = pos s (n + 1) := (pos_succ hp).symm
        rw [e, validGoD_eq s f (n + 1) (by omega) (by omega)]
        have : isBad s n = false := by unfold isBad dcN dcR; simp; omega
        rw [this]; rfl
    · have := cnt_end hp hn
      subst this
      rw [if_pos (by rw [List.drop_eq_nil_iff, size_list]; omega)]; simp
theorem validD_eq (s : ByteArray) : Lib.validD s.data.toList = validB s := by
  unfold Lib.validD validB
  have := validGoD_eq s s.size 0 (by have := cnt_le s; omega) (by omega)
  simp only [pos, List.drop_zero, Nat.sub_zero] at this
  rw [size_list, this, List.range_eq_range']
theorem badL_nil (s : ByteArray) : badL s = [] ↔ validB s = true := by
  unfold badL validB
  rw [List.map_eq_nil_iff, List.filter_eq_nil_iff, List.all_eq_true]
  simp
theorem badL_len (s : ByteArray) : (badL s).length ≤ cnt s := by
  unfold badL; rw [List.length_map]; have := List.length_filter_le (isBad s) (List.range (cnt s)); simpa using this

end Go.Proofs.YthkcphnkllnfcaaDoor.Ut
