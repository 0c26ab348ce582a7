/-
  A text cut where a rune begins: its runes are those of the two parts; a cleaned text stays as it is.
-/
import Derived.Test.YthkcphnkllnfcaaDoorUq
set_option linter.unusedVariables false
set_option linter.unusedSimpArgs false
namespace Go.Proofs.YthkcphnkllnfcaaDoor.Ut
open Go Vc

theorem runes_clean (s : ByteArray) : runes (runesBytes (runes s)) = runes s := by
  rw [text_runes]
  unfold runes
  rw [List.map_map]
  refine List.map_congr_left fun n _ => ?_
  exact encC_same (dcR_nonneg s _) (dcR_ok s _)

theorem runes_ext {xs ys : List Int} (hl : xs.length = ys.length) (h : ∀ i, i < xs.length → xs.getD i 0 = ys.getD i 0) : xs = ys := by
  refine List.ext_getElem hl fun i h1 h2 => ?_
  have := h i h1
  rw [List.getD_eq_getElem?_getD, List.getD_eq_getElem?_getD, List.getElem?_eq_getElem h1, List.getElem?_eq_getElem h2] at this
  exact this

theorem runes_split {s : ByteArray} {k : Nat} (hk : k ≤ cnt s) : runes (s.extract 0 (pos s k)) ++ runes (s.extract (pos s k) s.size) = runes s := by
  have l1 := cnt_take hk
  have l2 := cnt_drop hk
  refine runes_ext (by rw [List.length_append, runes_len, runes_len, runes_len]; omega) fun i hi => ?_
  rw [List.length_append, runes_len, runes_len] at hi
  rw [runes_at (by omega)]
  by_cases h : i < k
  · rw [List.getD_eq_getElem?_getD, List.getElem?_append_left (by rw [runes_len]; omega), ← List.getD_eq_getElem?_getD, runes_at (by omega), pos_take (by omega) hk]
    unfold dcR; rw [dc_take h hk]
  · rw [List.getD_eq_getElem?_getD, List.getElem?_append_right (by rw [runes_len]; omega), ← List.getD_eq_getElem?_getD, runes_len, l1, runes_at (by omega)]
    unfold dcR; rw [dc_drop]
    rw [show k + (i - k) = i by omega]

theorem drop_next {s : ByteArray} {k : Nat} (hk : k < cnt s) : nxN (s.extract (pos s k) s.size) = dcN s (pos s k) ∧ nxR (s.extract (pos s k) s.size) = dcR s (pos s k) := by
  have hp := cnt_lt.1 hk
  have hs := size_ext (s := s) (a := pos s k) (b := s.size) (Nat.le_refl _)
  have hd := decode_drop s (Nat.le_of_lt hp) 0
  rw [Nat.add_zero] at hd
  unfold nxN nxR
  rw [if_neg (by omega), if_neg (by omega)]
  unfold dcN dcR
  rw [hd]; exact ⟨rfl, rfl⟩

end Go.Proofs.YthkcphnkllnfcaaDoor.Ut
