/-
  Texts joined by program: TbKind, TbWid, Orb, Cl, SpK, SpP.
-/
import Derived.Test.YtjdohhididpomaaGreatDoorWr03
set_option linter.unusedVariables false
set_option linter.unusedSimpArgs false

namespace Go.Proofs.YtjdohhididpomaaGreatDoor
section
namespace Tb
def kindL : List (List RC × Int) := [([.le 31, .rg 127 159], 0), ([.eq 173, .eq 1564, .rg 8203 8207, .rg 8234 8238, .rg 8288 8297, .eq 65279], 1), ([.rg 768 879, .rg 1155 1161, .rg 1425 1469, .eq 1471, .rg 1473 1474, .rg 1476 1477, .eq 1479, .rg 1552 1562, .rg 1611 1631, .eq 1648, .rg 1750 1756, .rg 1759 1764, .rg 1767 1768, .rg 1770 1773, .eq 3633, .rg 3636 3642, .rg 3655 3662, .rg 6832 6911, .rg 7616 7679, .rg 8400 8447, .rg 12330 12333, .rg 12441 12442, .rg 65024 65039, .rg 65056 65071], 2), ([.rg 48 57, .rg 1632 1641, .rg 1776 1785, .rg 65296 65305], 4), ([.eq 32, .eq 160, .eq 5760, .rg 8192 8202, .rg 8232 8233, .eq 8239, .eq 8287, .eq 12288], 5), ([.eq 36, .eq 43, .rg 60 62, .eq 94, .eq 96, .eq 124, .eq 126, .rg 162 166, .rg 168 169, .eq 172, .rg 174 177, .eq 180, .eq 184, .eq 215, .eq 247, .rg 8352 8399, .rg 8448 9675, .rg 9677 11263, .rg 65532 65533, .rg 126976 129791], 7), ([.rg 65 90, .rg 97 122, .eq 170, .eq 181, .eq 186, .rg 192 767, .rg 880 883, .rg 886 893, .eq 895, .eq 902, .rg 904 1153, .rg 1162 1366, .rg 1377 1415, .rg 1488 1522, .rg 1568 1610, .rg 1646 1747, .rg 1749 1788, .rg 3585 3654, .rg 4256 4607, .rg 7680 8191, .rg 11264 11743, .rg 12293 12295, .rg 12353 12543, .rg 12549 12686, .rg 13312 19903, .rg 19968 40959, .rg 44032 55203, .rg 63744 64255, .rg 64285 65019, .rg 65136 65276, .rg 65313 65338, .rg 65345 65370, .rg 65382 65500, .rg 131072 262141], 3), ([.rg 33 64, .rg 91 96, .rg 123 126, .rg 161 191, .eq 894, .eq 903, .rg 1417 1418, .rg 1470 1478, .rg 1523 1524, .rg 1548 1549, .rg 1563 1567, .rg 1642 1645, .eq 1748, .rg 8208 8286, .eq 9676, .rg 12289 12291, .rg 12296 12319, .rg 65281 65312, .rg 65339 65344, .rg 65371 65381], 6)]
def kindD : Int := 8
def kindT : List (Int × Int) := [(0, 0), (32, 5), (33, 6), (36, 7), (37, 6), (43, 7), (44, 6), (48, 4), (58, 6), (60, 7), (63, 6), (65, 3), (91, 6), (94, 7), (95, 6), (96, 7), (97, 3), (123, 6), (124, 7), (125, 6), (126, 7), (127, 0), (160, 5), (161, 6), (162, 7), (167, 6), (168, 7), (170, 3), (171, 6), (172, 7), (173, 1), (174, 7), (178, 6), (180, 7), (181, 3), (182, 6), (184, 7), (185, 6), (186, 3), (187, 6), (192, 3), (215, 7), (216, 3), (247, 7), (248, 3), (768, 2), (880, 3), (884, 8), (886, 3), (894, 6), (895, 3), (896, 8), (902, 3), (903, 6), (904, 3), (1154, 8), (1155, 2), (1162, 3), (1367, 8), (1377, 3), (1416, 8), (1417, 6), (1419, 8), (1425, 2), (1470, 6), (1471, 2), (1472, 6), (1473, 2), (1475, 6), (1476, 2), (1478, 6), (1479, 2), (1480, 8), (1488, 3), (1523, 6), (1525, 8), (1548, 6), (1550, 8), (1552, 2), (1563, 6), (1564, 1), (1565, 6), (1568, 3), (1611, 2), (1632, 4), (1642, 6), (1646, 3), (1648, 2), (1649, 3), (1748, 6), (1749, 3), (1750, 2), (1757, 3), (1759, 2), (1765, 3), (1767, 2), (1769, 3), (1770, 2), (1774, 3), (1776, 4), (1786, 3), (1789, 8), (3585, 3), (3633, 2), (3634, 3), (3636, 2), (3643, 3), (3655, 2), (3663, 8), (4256, 3), (4608, 8), (5760, 5), (5761, 8), (6832, 2), (6912, 8), (7616, 2), (7680, 3), (8192, 5), (8203, 1), (8208, 6), (8232, 5), (8234, 1), (8239, 5), (8240, 6), (8287, 5), (8288, 1), (8298, 8), (8352, 7), (8400, 2), (8448, 7), (9676, 6), (9677, 7), (11264, 3), (11744, 8), (12288, 5), (12289, 6), (12292, 8), (12293, 3), (12296, 6), (12320, 8), (12330, 2), (12334, 8), (12353, 3), (12441, 2), (12443, 3), (12544, 8), (12549, 3), (12687, 8), (13312, 3), (19904, 8), (19968, 3), (40960, 8), (44032, 3), (55204, 8), (63744, 3), (64256, 8), (64285, 3), (65020, 8), (65024, 2), (65040, 8), (65056, 2), (65072, 8), (65136, 3), (65277, 8), (65279, 1), (65280, 8), (65281, 6), (65296, 4), (65306, 6), (65313, 3), (65339, 6), (65345, 3), (65371, 6), (65382, 3), (65501, 8), (65532, 7), (65534, 8), (126976, 7), (129792, 8), (131072, 3), (262142, 8)]
theorem kind_agree : agree kindL kindD 1114111 kindT = true := by decide +kernel
def kindR (r : Int) : Int := lookC kindL kindD (knownF r)
end Tb
end

section
namespace Tb
def widL : List (List RC × Int) := [([.le 31, .rg 127 159, .eq 173, .eq 1564, .rg 8203 8207, .rg 8234 8238, .rg 8288 8297, .eq 65279, .rg 768 879, .rg 1155 1161, .rg 1425 1469, .eq 1471, .rg 1473 1474, .rg 1476 1477, .eq 1479, .rg 1552 1562, .rg 1611 1631, .eq 1648, .rg 1750 1756, .rg 1759 1764, .rg 1767 1768, .rg 1770 1773, .eq 3633, .rg 3636 3642, .rg 3655 3662, .rg 6832 6911, .rg 7616 7679, .rg 8400 8447, .rg 12330 12333, .rg 12441 12442, .rg 65024 65039, .rg 65056 65071, .rg 4448 4607], 0), ([.rg 4352 4447, .rg 8986 8987, .rg 9001 9002, .rg 9193 9203, .rg 9748 9749, .rg 9800 9811, .rg 9917 9918, .eq 9989, .eq 10060, .rg 10067 10071, .rg 10133 10135, .eq 11088, .rg 11904 12350, .rg 12353 19903, .rg 19968 42191, .rg 44032 55203, .rg 63744 64255, .rg 65072 65135, .rg 65281 65376, .rg 65504 65510, .rg 127744 128591, .rg 128640 128767, .rg 129280 129791, .rg 131072 262141], 2), ([.eq 161, .eq 164, .rg 167 168, .eq 174, .rg 176 180, .rg 182 186, .rg 188 191, .eq 215, .eq 247, .rg 913 937, .rg 945 969, .rg 1040 1103, .rg 8208 8214, .rg 8216 8221, .rg 8224 8231, .rg 8240 8251, .rg 8592 8601, .rg 8704 8959, .rg 9312 9450, .rg 9472 9675, .rg 9677 9681, .rg 9733 9734, .rg 9824 9831, .rg 57344 63743], 3)]
def widD : Int := 1
def widT : List (Int × Int) := [(0, 0), (32, 1), (127, 0), (160, 1), (161, 3), (162, 1), (164, 3), (165, 1), (167, 3), (169, 1), (173, 0), (174, 3), (175, 1), (176, 3), (181, 1), (182, 3), (187, 1), (188, 3), (192, 1), (215, 3), (216, 1), (247, 3), (248, 1), (768, 0), (880, 1), (913, 3), (938, 1), (945, 3), (970, 1), (1040, 3), (1104, 1), (1155, 0), (1162, 1), (1425, 0), (1470, 1), (1471, 0), (1472, 1), (1473, 0), (1475, 1), (1476, 0), (1478, 1), (1479, 0), (1480, 1), (1552, 0), (1563, 1), (1564, 0), (1565, 1), (1611, 0), (1632, 1), (1648, 0), (1649, 1), (1750, 0), (1757, 1), (1759, 0), (1765, 1), (1767, 0), (1769, 1), (1770, 0), (1774, 1), (3633, 0), (3634, 1), (3636, 0), (3643, 1), (3655, 0), (3663, 1), (4352, 2), (4448, 0), (4608, 1), (6832, 0), (6912, 1), (7616, 0), (7680, 1), (8203, 0), (8208, 3), (8215, 1), (8216, 3), (8222, 1), (8224, 3), (8232, 1), (8234, 0), (8239, 1), (8240, 3), (8252, 1), (8288, 0), (8298, 1), (8400, 0), (8448, 1), (8592, 3), (8602, 1), (8704, 3), (8960, 1), (8986, 2), (8988, 1), (9001, 2), (9003, 1), (9193, 2), (9204, 1), (9312, 3), (9451, 1), (9472, 3), (9676, 1), (9677, 3), (9682, 1), (9733, 3), (9735, 1), (9748, 2), (9750, 1), (9800, 2), (9812, 1), (9824, 3), (9832, 1), (9917, 2), (9919, 1), (9989, 2), (9990, 1), (10060, 2), (10061, 1), (10067, 2), (10072, 1), (10133, 2), (10136, 1), (11088, 2), (11089, 1), (11904, 2), (12330, 0), (12334, 2), (12351, 1), (12353, 2), (12441, 0), (12443, 2), (19904, 1), (19968, 2), (42192, 1), (44032, 2), (55204, 1), (57344, 3), (63744, 2), (64256, 1), (65024, 0), (65040, 1), (65056, 0), (65072, 2), (65136, 1), (65279, 0), (65280, 1), (65281, 2), (65377, 1), (65504, 2), (65511, 1), (127744, 2), (128592, 1), (128640, 2), (128768, 1), (129280, 2), (129792, 1), (131072, 2), (262142, 1)]
theorem wid_agree : agree widL widD 1114111 widT = true := by decide +kernel
def widR (r : Int) : Int := lookC widL widD (knownF r)
end Tb
end

section
namespace Orb
def orb (m : Nat) (f : Nat → Nat) : Nat → Nat
  | 0 => 0
  | i + 1 => if orb m f i < m then orb m f i + f (orb m f i) else orb m f i
def orbG (m : Nat) (f : Nat → Nat) : Nat → Nat
  | 0 => 0
  | k + 1 => if orb m f (orbG m f k) < m then orbG m f k + 1 else orbG m f k
def orbN (m : Nat) (f : Nat → Nat) : Nat := orbG m f m
def Fit (m : Nat) (f : Nat → Nat) : Prop := ∀ k, k < m → 1 ≤ f k ∧ k + f k ≤ m
variable {m : Nat} {f : Nat → Nat}
theorem orb_le (h : Fit m f) : ∀ i, orb m f i ≤ m
  | 0 => Nat.zero_le _
  | i + 1 => by
    simp only [orb]
    split
    · rename_i hl; exact (h _ hl).2
    · exact orb_le h i
theorem orb_succ {i : Nat} (hi : orb m f i < m) : orb m f (i + 1) = orb m f i + f (orb m f i) := by simp only [orb]; rw [if_pos hi]
theorem orb_step (i : Nat) : orb m f i ≤ orb m f (i + 1) := by simp only [orb]; split <;> omega
theorem orb_mono {i j : Nat} (h : i ≤ j) : orb m f i ≤ orb m f j := by
  induction j with
  | zero => have : i = 0 := by omega
            subst this; exact Nat.le_refl _
  | succ j ih =>
    by_cases hi : i = j + 1
    · subst hi; exact Nat.le_refl _
    · exact Nat.le_trans (ih (by omega)) (orb_step j)
theorem orb_ge (h : Fit m f) : ∀ {i : Nat}, orb m f i < m → i ≤ orb m f i
  | 0, _ => Nat.zero_le _
  | i + 1, hi => by
    have h0 : orb m f i < m := Nat.lt_of_le_of_lt (orb_step i) hi
    have := orb_ge h h0
    rw [orb_succ h0]
    have := (h _ h0).1
    omega
theorem orbG_inv (h : Fit m f) (k : Nat) : orbG m f k ≤ k ∧ (∀ i, i < orbG m f k → orb m f i < m) ∧ (orb m f (orbG m f k) < m → orbG m f k = k) := by
  induction k with
  | zero => exact ⟨Nat.le_refl _, fun i hi => by simp [orbG] at hi, fun _ => rfl⟩
  | succ k ih =>
    obtain ⟨h1, h2, h3⟩ := ih
    simp only [orbG]
    split
    · rename_i hl
      refine ⟨by omega, fun i hi => ?_, fun _ => by rw [h3 hl]⟩
      by_cases hi' : i < orbG m f k
      · exact h2 i hi'
      · have : i = orbG m f k := by omega
        rw [this]; exact hl
    · rename_i hl
      exact ⟨by omega, h2, fun hh => absurd hh hl⟩
theorem orbN_le (h : Fit m f) : orbN m f ≤ m := (orbG_inv h m).1
theorem orb_end (h : Fit m f) : orb m f (orbN m f) = m := by
  by_cases hl : orb m f (orbN m f) < m
  · have h1 := (orbG_inv h m).2.2 hl
    have h2 := orb_ge h hl
    unfold orbN at *
    omega
  · have := orb_le h (orbN m f); omega
theorem orb_lt (h : Fit m f) {i : Nat} : i < orbN m f ↔ orb m f i < m := by
  refine ⟨(orbG_inv h m).2.1 i, fun hi => ?_⟩
  by_cases hc : i < orbN m f
  · exact hc
  · have := orb_mono (m := m) (f := f) (show orbN m f ≤ i by omega)
    rw [orb_end h] at this
    omega
theorem orb_strict (h : Fit m f) {i j : Nat} (hij : i < j) (hi : i < orbN m f) : orb m f i + f (orb m f i) ≤ orb m f j := by
  rw [← orb_succ ((orb_lt h).1 hi)]
  exact orb_mono hij
theorem orb_inj (h : Fit m f) {i j : Nat} (hi : i ≤ orbN m f) (hj : j ≤ orbN m f) (he : orb m f i = orb m f j) : i = j := by
  rcases Nat.lt_trichotomy i j with hl | hl | hl
  · have := orb_strict h hl (by omega)
    have := (h _ ((orb_lt h).1 (show i < orbN m f by omega))).1
    omega
  · exact hl
  · have := orb_strict h hl (by omega)
    have := (h _ ((orb_lt h).1 (show j < orbN m f by omega))).1
    omega
theorem orb_zero (h : Fit m f) : orbN m f = 0 ↔ m = 0 := by
  refine ⟨fun h0 => ?_, fun h0 => ?_⟩
  · have := orb_end h; rw [h0] at this; exact this.symm
  · have := orbN_le h; omega
theorem orb_drop (h : Fit m f) {m' : Nat} {f' : Nat → Nat} {k : Nat} (hk : k ≤ orbN m f) (hm : m' + orb m f k = m) (hf : ∀ j, j < m' → f' j = f (orb m f k + j)) : ∀ i, orb m' f' i + orb m f k = orb m f (k + i)
  | 0 => by simp [orb]
  | i + 1 => by
    have ih := orb_drop h hk hm hf i
    rw [← Nat.add_assoc]
    simp only [orb]
    by_cases hl : orb m' f' i < m'
    · rw [if_pos hl, if_pos (by omega), hf _ hl, ← ih, Nat.add_comm (orb m f k)]
      omega
    · rw [if_neg hl, if_neg (by omega)]
      exact ih
theorem orb_take (h : Fit m f) {f' : Nat → Nat} {k : Nat} (hk : k ≤ orbN m f) (hf : ∀ i, i < k → f' (orb m f i) = f (orb m f i)) : ∀ i, i ≤ k → orb (orb m f k) f' i = orb m f i
  | 0, _ => rfl
  | i + 1, hi => by
    have ih := orb_take h hk hf i (by omega)
    have h1 : orb m f i < m := (orb_lt h).1 (by omega)
    have h2 := orb_strict h (show i < k by omega) (by omega)
    have h3 := (h _ h1).1
    simp only [orb, ih]
    rw [if_pos (by omega), if_pos h1, hf i (by omega)]
theorem orbN_take (h : Fit m f) {f' : Nat → Nat} {k : Nat} (hk : k ≤ orbN m f) (hf : ∀ i, i < k → f' (orb m f i) = f (orb m f i)) (hfit : Fit (orb m f k) f') : orbN (orb m f k) f' = k := by
  have ht := orb_take h hk hf
  have h1 := ht k (Nat.le_refl _)
  by_cases hlt : k < orbN (orb m f k) f'
  · have := (orb_lt hfit).1 hlt; omega
  · have h2 := orb_end hfit
    by_cases he : orbN (orb m f k) f' = k
    · exact he
    · have h3 := ht (orbN (orb m f k) f') (by omega)
      rw [h2] at h3
      exact (orb_inj h (by omega) hk h3.symm)
end Orb
end

section
namespace Cl
open Go Vc Ut Tb Orb
def wideR (r : Int) (b : Bool) : Int := if widR r < 3 then widR r else if b then 2 else 1
def regB (r : Int) : Bool := decide (127462 ≤ r) && decide (r ≤ 127487)
def joinB (r : Int) : Bool := r == 8204 || r == 8205
def picB (r : Int) : Bool := kindR r == 7 && wideR r false == 2
def aloneB (r : Int) : Bool := kindR r == 0 || (r == 8232 || r == 8233) || (kindR r == 1 && !joinB r)
def partN (r : Int) : Nat :=
  if 4352 ≤ r ∧ r ≤ 4447 then 1 else if 4448 ≤ r ∧ r ≤ 4519 then 2 else if 4520 ≤ r ∧ r ≤ 4607 then 3
  else if 44032 ≤ r ∧ r ≤ 55203 then (if (r - 44032) % 28 = 0 then 4 else 5) else 0
def sylT : Nat → Nat → Bool
  | 1, b => b == 1 || b == 2 || b == 4 || b == 5
  | 2, b => b == 2 || b == 3
  | 4, b => b == 2 || b == 3
  | 3, b => b == 3
  | 5, b => b == 3
  | _, _ => false
def sylB (a b : Int) : Bool := sylT (partN a) (partN b)
def takesB (x z y : Int) (n : Nat) : Bool := (kindR y == 2 || joinB y) || (n == 1 && (regB x && regB y)) || (z == 8205 && (picB x && picB y)) || sylB z y
def sg (s : ByteArray) (k : Nat) : Int := dcR s (pos s k)
def goB (s : ByteArray) (k n : Nat) : Bool := decide (k + n < cnt s) && (decide (n < 32) && (!isBad s (k + n) && takesB (sg s k) (sg s (k + n - 1)) (sg s (k + n)) n))
def goN (s : ByteArray) (k : Nat) : Nat → Nat → Nat
  | 0, n => n
  | f + 1, n => if goB s k n = true then goN s k f (n + 1) else n
def crB (s : ByteArray) (k : Nat) : Bool := sg s k == 13 && (decide (k + 1 < cnt s) && sg s (k + 1) == 10)
def firstN (s : ByteArray) (k : Nat) : Nat := if isBad s k = true then 1 else if crB s k = true then 2 else if aloneB (sg s k) = true then 1 else goN s k 32 1
theorem goN_ge (s : ByteArray) (k : Nat) : ∀ f n, n ≤ goN s k f n
  | 0, n => Nat.le_refl _
  | f + 1, n => by
    unfold goN
    split
    · have := goN_ge s k f (n + 1); omega
    · exact Nat.le_refl _
theorem goN_le (s : ByteArray) (k : Nat) : ∀ f n, k + n ≤ cnt s → n ≤ 32 → k + goN s k f n ≤ cnt s ∧ goN s k f n ≤ 32
  | 0, n, h1, h2 => ⟨h1, h2⟩
  | f + 1, n, h1, h2 => by
    unfold goN
    split
    · rename_i h
      simp only [goB, Bool.and_eq_true, decide_eq_true_eq] at h
      exact goN_le s k f (n + 1) (by omega) (by omega)
    · exact ⟨h1, h2⟩
theorem goN_step {s : ByteArray} {k n : Nat} (h : goB s k n = true) : n < 32 ∧ goN s k (33 - n) n = goN s k (33 - (n + 1)) (n + 1) := by
  have h' := h
  simp only [goB, Bool.and_eq_true, decide_eq_true_eq] at h'
  refine ⟨h'.2.1, ?_⟩
  rw [show 33 - n = (33 - (n + 1)) + 1 from by omega]
  simp only [goN]
  rw [if_pos h]
theorem goN_stop {s : ByteArray} {k n : Nat} (h : goB s k n = false) : goN s k (33 - n) n = n := by
  cases h33 : 33 - n with
  | zero => rfl
  | succ m => simp only [goN]; rw [if_neg (by rw [h]; decide)]
theorem first_fit (s : ByteArray) : Fit (cnt s) (firstN s) := by
  intro k hk
  unfold firstN
  split
  · omega
  · split
    · rename_i h
      simp only [crB, Bool.and_eq_true, decide_eq_true_eq] at h
      omega
    · split
      · omega
      · exact ⟨goN_ge s k 32 1, (goN_le s k 32 1 (by omega) (by omega)).1⟩
theorem first_le (s : ByteArray) {k : Nat} (hk : k < cnt s) : firstN s k ≤ 32 := by
  unfold firstN
  split
  · omega
  · split
    · omega
    · split
      · omega
      · exact (goN_le s k 32 1 (by omega) (by omega)).2
theorem sg_drop {s : ByteArray} {k : Nat} (n : Nat) : sg (s.extract (pos s k) s.size) n = sg s (k + n) := by
  unfold sg dcR; rw [dc_drop]
theorem bad_drop {s : ByteArray} {k : Nat} (n : Nat) : isBad (s.extract (pos s k) s.size) n = isBad s (k + n) := by
  unfold isBad dcR dcN; rw [dc_drop]
theorem sg_take {s : ByteArray} {k n : Nat} (hn : n < k) (hk : k ≤ cnt s) : sg (s.extract 0 (pos s k)) n = sg s n := by
  unfold sg dcR; rw [pos_take (by omega) hk, dc_take hn hk]
theorem bad_take {s : ByteArray} {k n : Nat} (hn : n < k) (hk : k ≤ cnt s) : isBad (s.extract 0 (pos s k)) n = isBad s n := by
  unfold isBad dcR dcN; rw [pos_take (by omega) hk, dc_take hn hk]
theorem goB_drop {s : ByteArray} {k j n : Nat} (hk : k ≤ cnt s) (hn : 1 ≤ n) : goB (s.extract (pos s k) s.size) j n = goB s (k + j) n := by
  unfold goB
  rw [sg_drop, sg_drop, sg_drop, bad_drop, cnt_drop hk, show k + (j + n) = k + j + n from by omega, show k + (j + n - 1) = k + j + n - 1 from by omega, show decide (j + n < cnt s - k) = decide (k + j + n < cnt s) from decide_eq_decide.2 (by omega)]
theorem goN_drop {s : ByteArray} {k j : Nat} (hk : k ≤ cnt s) : ∀ f n, 1 ≤ n → goN (s.extract (pos s k) s.size) j f n = goN s (k + j) f n
  | 0, _, _ => rfl
  | f + 1, n, hn => by
    simp only [goN]
    rw [goB_drop hk hn, goN_drop hk f (n + 1) (by omega)]
theorem first_drop {s : ByteArray} {k : Nat} (hk : k ≤ cnt s) (j : Nat) : firstN (s.extract (pos s k) s.size) j = firstN s (k + j) := by
  unfold firstN crB
  rw [bad_drop, sg_drop, sg_drop, cnt_drop hk, goN_drop hk 32 1 (by omega), ← Nat.add_assoc, show decide (j + 1 < cnt s - k) = decide (k + j + 1 < cnt s) from decide_eq_decide.2 (by omega)]
theorem goB_take {s : ByteArray} {k j n : Nat} (hk : k ≤ cnt s) (hn : j + n < k) : goB (s.extract 0 (pos s k)) j n = goB s j n := by
  unfold goB
  rw [sg_take (by omega) hk, sg_take (by omega) hk, sg_take hn hk, bad_take hn hk, cnt_take hk, show decide (j + n < k) = decide (j + n < cnt s) from decide_eq_decide.2 (by omega)]
theorem goN_take {s : ByteArray} {k j : Nat} (hk : k ≤ cnt s) : ∀ f n, j + n ≤ k → j + goN s j f n ≤ k → goN (s.extract 0 (pos s k)) j f n = goN s j f n
  | 0, _, _, _ => rfl
  | f + 1, n, h0, h => by
    simp only [goN] at h ⊢
    by_cases hn : j + n < k
    · rw [goB_take hk hn]
      by_cases hg : goB s j n = true
      · rw [if_pos hg] at h
        rw [if_pos hg, if_pos hg]
        have := goN_ge s j f (n + 1)
        exact goN_take hk f (n + 1) (by omega) h
      · rw [if_neg hg, if_neg hg]
    · have he : goB (s.extract 0 (pos s k)) j n = false := by
        unfold goB
        rw [cnt_take hk, decide_eq_false (by omega)]; rfl
      rw [if_neg (by rw [he]; decide)]
      by_cases hg : goB s j n = true
      · rw [if_pos hg] at h
        have := goN_ge s j f (n + 1)
        omega
      · rw [if_neg hg]
theorem first_take {s : ByteArray} {k j : Nat} (hk : k ≤ cnt s) (hj : j < k) (h : j + firstN s j ≤ k) : firstN (s.extract 0 (pos s k)) j = firstN s j := by
  unfold firstN at h ⊢
  rw [bad_take hj hk, sg_take hj hk]
  by_cases hb : isBad s j = true
  · rw [if_pos hb, if_pos hb]
  · rw [if_neg hb] at h
    rw [if_neg hb, if_neg hb]
    by_cases hc : crB s j = true
    · rw [if_pos hc] at h
      have : crB (s.extract 0 (pos s k)) j = true := by
        unfold crB at hc ⊢
        rw [sg_take hj hk, sg_take (by omega) hk, cnt_take hk]
        simp only [Bool.and_eq_true, decide_eq_true_eq] at hc ⊢
        exact ⟨hc.1, by omega, hc.2.2⟩
      rw [if_pos hc, if_pos this]
    · rw [if_neg hc] at h
      have : ¬ crB (s.extract 0 (pos s k)) j = true := by
        intro h2
        apply hc
        unfold crB at h2 ⊢
        rw [sg_take hj hk, cnt_take hk] at h2
        simp only [Bool.and_eq_true, decide_eq_true_eq] at h2 ⊢
        have h3 := h2.2.2
        rw [sg_take h2.2.1 hk] at h3
        exact ⟨h2.1, by omega, h3⟩
      rw [if_neg hc, if_neg this]
      by_cases ha : aloneB (sg s j) = true
      · rw [if_pos ha, if_pos ha]
      · rw [if_neg ha] at h
        rw [if_neg ha, if_neg ha]
        exact goN_take hk 32 1 (by omega) h
theorem decodeN_low (n b0 b1 b2 b3 : Nat) (h : (Lib.decodeN n b0 b1 b2 b3).1 < 128) : (Lib.decodeN n b0 b1 b2 b3).2 = 1 ∧ b0 = (Lib.decodeN n b0 b1 b2 b3).1 := by
  unfold Lib.decodeN at h ⊢
  repeat' split at h
  all_goals simp only at h
  all_goals first | omega | skip
  all_goals simp_all
theorem dc_low {s : ByteArray} {i : Nat} (h : dcR s i < 128) : dcN s i = 1 ∧ dcR s i = (bt s i : Int) := by
  have := decodeN_low (s.size - i) (bt s i) (bt s (i + 1)) (bt s (i + 2)) (bt s (i + 3)) (by unfold dcR at h; rw [dc_eq] at h; omega)
  unfold dcR dcN; rw [dc_eq]
  exact ⟨this.1, by rw [← this.2]⟩
theorem alone_13 : aloneB 13 = true := by decide +kernel
theorem cr_is {s : ByteArray} (h0 : 0 < s.size) (h : sg s 0 = 13) : pos s 1 = 1 ∧ (crB s 0 = true ↔ 1 < s.size ∧ bt s 1 = 10) ∧ (crB s 0 = true → pos s 2 = 2) := by
  have hp0 : pos s 0 = 0 := rfl
  have h1 := dc_low (s := s) (i := 0) (by unfold sg at h; rw [hp0] at h; omega)
  have p1 : pos s 1 = 1 := by rw [pos_succ (n := 0) (by rw [hp0]; exact h0), hp0, h1.1]
  have hc : crB s 0 = true ↔ 1 < s.size ∧ bt s 1 = 10 := by
    unfold crB
    rw [h]
    have : (0 + 1 < cnt s) ↔ 1 < s.size := by rw [cnt_lt, p1]
    simp only [Bool.and_eq_true, decide_eq_true_eq, beq_iff_eq, true_and, this]
    refine and_congr_right fun hl => ?_
    unfold sg
    rw [p1]
    constructor
    · intro hh; have := (dc_low (s := s) (i := 1) (by omega)).2; omega
    · intro hh
      have h3 := dc_ascii (s := s) (i := 1) (by omega)
      have h4 := dc_one h3
      rw [if_pos (by omega)] at h4
      rw [h4, hh]; rfl
  refine ⟨p1, hc, fun hh => ?_⟩
  have h2 := (hc.1 hh)
  rw [pos_succ (n := 1) (by rw [p1]; exact h2.1), p1, dc_ascii (by omega)]
def bk (s : ByteArray) (i : Nat) : Nat := orb (cnt s) (firstN s) i
def bp (s : ByteArray) (i : Nat) : Nat := pos s (bk s i)
def ncl (s : ByteArray) : Nat := orbN (cnt s) (firstN s)
theorem bk_le (s : ByteArray) (i : Nat) : bk s i ≤ cnt s := orb_le (first_fit s) i
theorem bk_lt {s : ByteArray} {i : Nat} : i < ncl s ↔ bk s i < cnt s := orb_lt (first_fit s)
theorem bk_succ {s : ByteArray} {i : Nat} (h : i < ncl s) : bk s (i + 1) = bk s i + firstN s (bk s i) := orb_succ (bk_lt.1 h)
theorem bk_end (s : ByteArray) : bk s (ncl s) = cnt s := orb_end (first_fit s)
theorem bp_le (s : ByteArray) (i : Nat) : bp s i ≤ s.size := pos_le s _
theorem bp_end (s : ByteArray) : bp s (ncl s) = s.size := by unfold bp; rw [bk_end, pos_cnt]
theorem bp_zero (s : ByteArray) : bp s 0 = 0 := rfl
theorem bp_lt {s : ByteArray} {i : Nat} : i < ncl s ↔ bp s i < s.size := by rw [bk_lt, cnt_lt]; rfl
theorem bp_mono (s : ByteArray) {i j : Nat} (h : i ≤ j) : bp s i ≤ bp s j := pos_mono s (orb_mono h)
theorem bp_strict {s : ByteArray} {i j : Nat} (h : i < j) (hi : i < ncl s) : bp s i < bp s j := by
  have h1 := orb_strict (first_fit s) h hi
  have h2 := bk_lt.1 hi
  have h3 := (first_fit s _ h2).1
  unfold bp
  have h4 : pos s (bk s i) + dcN s (pos s (bk s i)) ≤ pos s (bk s j) := pos_strict (by unfold bk at *; omega) h2
  have := dcN_pos s (pos s (bk s i))
  omega
theorem ncl_le (s : ByteArray) : ncl s ≤ s.size := Nat.le_trans (orbN_le (first_fit s)) (cnt_le s)
theorem ncl_zero {s : ByteArray} : ncl s = 0 ↔ s.size = 0 := by rw [← cnt_zero]; exact orb_zero (first_fit s)
theorem bk_drop {s : ByteArray} {k : Nat} (hk : k ≤ ncl s) (i : Nat) : bk (s.extract (bp s k) s.size) i + bk s k = bk s (k + i) := by
  unfold bk bp
  refine orb_drop (first_fit s) hk ?_ ?_ i
  · rw [cnt_drop (bk_le s k)]; have := bk_le s k; unfold bk at *; omega
  · intro j _; exact first_drop (bk_le s k) j
theorem bp_drop {s : ByteArray} {k : Nat} (hk : k ≤ ncl s) (i : Nat) : bp (s.extract (bp s k) s.size) i + bp s k = bp s (k + i) := by
  have h := bk_drop hk i
  have h2 := pos_drop (s := s) (k := bk s k) (bk (s.extract (bp s k) s.size) i)
  unfold bp at *
  rw [h2, Nat.add_comm, h]
theorem cnt_cut {s : ByteArray} (k : Nat) : cnt (s.extract 0 (bp s k)) = bk s k := cnt_take (bk_le s k)
theorem first_cut {s : ByteArray} {k : Nat} (hk : k ≤ ncl s) : ∀ i, i < k → firstN (s.extract 0 (bp s k)) (bk s i) = firstN s (bk s i) := by
  intro i hi
  have h1 := orb_strict (first_fit s) hi (by unfold ncl at hk; omega)
  have h2 := bk_lt.1 (show i < ncl s by omega)
  have h3 := (first_fit s _ h2).1
  exact first_take (bk_le s k) (by unfold bk at *; omega) h1
theorem ncl_take {s : ByteArray} {k : Nat} (hk : k ≤ ncl s) : ncl (s.extract 0 (bp s k)) = k := by
  show orbN (cnt (s.extract 0 (bp s k))) _ = _
  have h := orbN_take (first_fit s) hk (f' := firstN (s.extract 0 (bp s k))) (first_cut hk) (by have := first_fit (s.extract 0 (bp s k)); rw [cnt_cut] at this; exact this)
  rw [cnt_cut]; exact h
end Cl
end

section
open Go Go.RowKit Vc Tb Cl
def sRune (k : IntKind) (f : Int → Int) : CallSpec where
  G := Int
  args := fun r => #[.int .i32 r]
  pre := fun _ _ => True
  X := Int
  res := fun x => .int k x
  post := fun r w x w' => x = f r ∧ w' = w
def sRuneX (k : IntKind) (f : Int → Int) : CallSpec where
  G := Int
  args := fun r => #[.int .i32 r]
  pre := fun _ _ => True
  X := Int
  res := fun x => .int k x
  post := fun r w x w' => x = f r ∧ Ext w w'
structure GFind where
  b : Nat
  T : List (Int × Int)
  r : Int
def CellsT (w : World) (b : Nat) (T : List (Int × Int)) : Prop :=
  ∀ j, j < T.length → w.cell? ⟨b, 0 + j * 2, none⟩ = some (.int .i32 (T.getD j (0, 0)).1) ∧ w.cell? ⟨b, 0 + j * 2 + 1, none⟩ = some (.int .u8 (T.getD j (0, 0)).2)
def sFind : CallSpec where
  G := GFind
  args := fun g => #[.slice (some ⟨g.b, 0, none⟩) g.T.length g.T.length, .int .i32 g.r]
  pre := fun g w => CellsT w g.b g.T ∧ 0 < g.T.length ∧ g.T.length ≤ 1000 ∧ boundsOk g.T = true ∧ (g.T.getD 0 (0, 0)).1 = 0
  X := Int × Int
  res := fun x => .tuple #[.int .u8 x.1, .int .i32 x.2]
  post := fun g w x w' => FindOk g.T (knownF g.r) x.1 x.2 ∧ Ext w w'
def annFind (g : GFind) : Ann where
  sp := []
  loops := [(4, {
    X := Nat × Nat
    sh := fun _ x => [(6, .int .i64 x.1), (7, .int .i64 x.2)]
    inv := fun _ w0 x w => x.1 < x.2 ∧ x.2 ≤ g.T.length ∧ (g.T.getD x.1 (0, 0)).1 ≤ knownF g.r ∧ (x.2 = g.T.length ∨ knownF g.r < (g.T.getD x.2 (0, 0)).1) ∧ w = w0
    mu := fun _ _ x _ => x.2 - x.1 })]
  cuts := [(1, 2, { X := Unit, sh := fun _ _ => [(1, .int .i32 (knownF g.r))], inv := fun _ w0 _ w => w = w0 })]
def sTab (T : List (Int × Int)) : CallSpec where
  G := Int
  args := fun r => #[.int .i32 r]
  pre := fun _ _ => True
  X := Int × Int
  res := fun x => .tuple #[.int .u8 x.1, .int .i32 x.2]
  post := fun r w x w' => FindOk T (knownF r) x.1 x.2 ∧ Ext w w'
def sWide (p : World → World → Prop) : CallSpec where
  G := Int × Bool
  args := fun g => #[.int .i32 g.1, .bool g.2]
  pre := fun _ _ => True
  X := Int
  res := fun x => .int .i64 x
  post := fun g w x w' => x = wideR g.1 g.2 ∧ p w w'
def spKnown : List (Nat × CallSpec) := [(81, sRune .i32 knownF)]
def spFind : List (Nat × CallSpec) := [(115, sFind)]
def spKind : List (Nat × CallSpec) := [(87, sTab kindT)]
def spWid : List (Nat × CallSpec) := [(125, sTab widT)]
def spCol : List (Nat × CallSpec) := [(129, sRune .i64 widR)]
end

section
open Go Go.RowKit Vc Tb Cl
def sRB (f : Int → Bool) : CallSpec where
  G := Int
  args := fun r => #[.int .i32 r]
  pre := fun _ _ => True
  X := Bool
  res := fun x => .bool x
  post := fun r w x w' => x = f r ∧ Ext w w'
def sRN (f : Int → Nat) : CallSpec where
  G := Int
  args := fun r => #[.int .i32 r]
  pre := fun _ _ => True
  X := Nat
  res := fun x => .int .i64 x
  post := fun r w x w' => x = f r ∧ Ext w w'
def sTwoB (f : Int → Int → Bool) : CallSpec where
  G := Int × Int
  args := fun g => #[.int .i32 g.1, .int .i32 g.2]
  pre := fun _ _ => True
  X := Bool
  res := fun x => .bool x
  post := fun g w x w' => x = f g.1 g.2 ∧ Ext w w'
structure GTk where
  x : Int
  z : Int
  y : Int
  n : Nat
def sTakes : CallSpec where
  G := GTk
  args := fun g => #[.int .i32 g.x, .int .i32 g.z, .int .i32 g.y, .int .i64 g.n]
  pre := fun _ _ => True
  X := Bool
  res := fun x => .bool x
  post := fun g w x w' => x = takesB g.x g.z g.y g.n ∧ Ext w w'
def bitN : Nat → Nat
  | 1 => 1
  | 2 => 2
  | 3 => 4
  | 4 => 8
  | 5 => 16
  | _ => 0
def partP (r : Int) : Nat := bitN (partN r)
def spPic : List (Nat × CallSpec) := [(61, sRuneX .i8 kindR), (100, sWide (fun w w' => Ext w w'))]
def spRPic : List (Nat × CallSpec) := [(54, sRune .i8 kindR), (109, sWide (fun w w' => w' = w))]
def spAlone : List (Nat × CallSpec) := [(61, sRuneX .i8 kindR), (93, sRB joinB)]
def spRAlone : List (Nat × CallSpec) := [(54, sRune .i8 kindR), (105, sRB joinB)]
def spGoes : List (Nat × CallSpec) := [(117, sRN partP)]
def spSyl : List (Nat × CallSpec) := [(149, sRN partN)]
def spTakes : List (Nat × CallSpec) := [(54, sRune .i8 kindR), (105, sRB joinB), (108, sRB regB), (140, sRB picB), (141, sTwoB sylB)]
end
end Go.Proofs.YtjdohhididpomaaGreatDoor
