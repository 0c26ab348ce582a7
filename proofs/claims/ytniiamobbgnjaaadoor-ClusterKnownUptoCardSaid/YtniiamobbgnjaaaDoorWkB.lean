/-
  Chapter 1: whole texts: the document's lists and the program's say the same.
-/
import Derived.Test.YtniiamobbgnjaaaDoorVgB
import Derived.Test.YtniiamobbgnjaaaDoorEl
set_option linter.unusedVariables false
set_option linter.unusedSimpArgs false
namespace Go.Proofs.YtniiamobbgnjaaaDoor
open Go Go.RowKit Vc Ut

theorem oneV_len (s : ByteArray) (n : Nat) : (oneV s n).length = 4 := rfl
theorem oneV_one (s : ByteArray) (n : Nat) : ∀ u ∈ oneV s n, u.oneCell' = true := by
  intro u hu
  simp only [oneV, List.mem_cons, List.not_mem_nil, or_false] at hu
  rcases hu with rfl | rfl | rfl | rfl <;> rfl
theorem ones_len (s : ByteArray) (l : List Nat) : (l.flatMap (oneV s)).length = l.length * 4 := flat_len' (oneV_len s) l


theorem one_cell {s : ByteArray} {l : List Nat} {k j n : Nat} {v : Value} (hk : l[k]? = some n) (hj : (oneV s n)[j]? = some v) : (l.flatMap (oneV s))[k * 4 + j]? = some v := by
  rw [flat_at (oneV_len s) hk (by have := (List.getElem?_eq_some_iff.1 hj).1; simpa [oneV] using this)]; exact hj
theorem all_at {s : ByteArray} {k : Nat} (h : k < cnt s) : (allN s)[k]? = some k := by simp [allN, List.getElem?_range, h]

theorem back_at {s : ByteArray} {k : Nat} (h : k < cnt s) : (backN s)[k]? = some (cnt s - 1 - k) := by
  simp [backN, List.getElem?_map, List.getElem?_range, h]
theorem back_len (s : ByteArray) : (backN s).length = cnt s := by simp [backN]

theorem badT_succ (s : ByteArray) (n : Nat) : badT s (n + 1) = badT s n ++ (if isBad s n then [(pos s n : Int)] else []) := by
  unfold badT
  rw [List.range_succ, List.filter_append, List.map_append]
  congr 1
  by_cases h : isBad s n = true <;> simp [h]
theorem badT_len (s : ByteArray) (n : Nat) : (badT s n).length ≤ n := by
  unfold badT; rw [List.length_map]; have := List.length_filter_le (isBad s) (List.range n); simpa using this

theorem grown_heap {w w1 : World} {a : Option Addr} {b : Nat} {o : Obj} (h : w.grownBy w1 (blk a)) (hb : w.heap[b]? = some o) (hne : blk a ≠ some b) : w1.heap[b]? = some o :=
  (h.block b (Array.getElem?_eq_some_iff.1 hb).1 (fun e => hne e.symm)).trans hb
theorem row_apart {w : World} {e : TypeId} {s n c b : Nat} {ad : Option Addr} {vs : List Value} {t : ByteArray} {i : Nat} (h : Row w e s ad n vs c) (hb : w.heap[b]? = some (.stringIter t i)) : blk ad ≠ some b := by
  rcases h.2 with ⟨rfl, _⟩ | ⟨g, cur, rfl, h1, _⟩
  · simp [blk]
  · intro hh
    simp only [blk, Option.map_some, Option.some.injEq] at hh
    subst hh; rw [hb] at h1; cases h1

theorem bad_ok : (sSL .i64 3 badL).Ok Tryd.prog 28 := by
  refine bad_vc ⟨dec_ok, trivial⟩ ?_
  rintro (s : ByteArray) w ⟨hU, hsm⟩
  have hcs := cnt_le s
  rintro b w1 hn
  have hb0 : b = w.heap.size := hn.1
  refine ⟨⟨(0, none, 0), rfl, Nat.zero_le _, (Made.nil w _ _).later hn.ext, b, rfl, by omega, hn.heap⟩, ?_⟩
  rintro _ ⟨k, a, c⟩ w2 ⟨hk, hm, b', hb', hB, hit⟩
  dsimp only at hk hm hit ⊢
  obtain rfl : b = b' := by simpa using hb'
  have hbl := badT_len s k
  refine ⟨s, pos s k, hit, ?_⟩
  refine bcase_mk (fun h => ?_) (fun h => ?_)
  · have hp : pos s k < s.size := by simpa using h
    have hlt := cnt_lt.2 hp
    obtain ⟨e1, e2⟩ := nx_drop hp
    intro w3 hnx
    have hm3 := hm.nexted hnx ⟨_, _, hit⟩ hB
    have hit3 := hnx.heap hit
    rw [← pos_succ hp] at hit3
    refine ⟨pos s k, rfl, by omega, Nat.le_refl _, _, rfl, ⟨hU.ext hm3.ext, ext_size hsm⟩, ?_⟩
    rintro ⟨r, m⟩ w4 ⟨hr, hmm, hw4⟩
    dsimp only at hr hmm ⊢
    rw [e1] at hr; rw [e2] at hmm
    subst hr hmm
    have hm4 := hm3.later hw4
    have hit4 := hw4.heap hit3
    refine bcase_mk (fun h => ?_) (fun h => ?_)
    · have hnb : isBad s k = false := by
        unfold isBad
        simp only [Bool.or_eq_true, bne_iff_ne, ne_eq] at h
        simp only [decide_eq_false_iff_not]; omega
      refine ⟨(k + 1, a, c), ?_, ⟨by dsimp only; omega, ?_, b, rfl, hB, hit4⟩, by dsimp only; omega⟩
      · dsimp only; rw [badT_succ, if_neg (by simp [hnb])]; simp
      · dsimp only; rw [badT_succ, if_neg (by simp [hnb])]; simpa using hm4
    · have hbd : isBad s k = true := by
        unfold isBad
        simp only [Bool.or_eq_false_iff, bne_eq_false_iff_eq] at h
        simp only [decide_eq_true_eq]; omega
      intro b1 w5 hnw
      obtain ⟨a', c', w6, hrun, hko, hrow, hg, hor, _⟩ := hm4.row.pushN (P := Tryd.prog) (ty := 31) elem64 (by decide) (m := 1) (news := [.int .i64 (pos s k)]) hnw rfl (by simp [Value.oneCell']) (by unfold maxLen; omega) (.inr (by omega))
      have hit5 := hnw.ext.heap hit4
      have hit6 := grown_heap hg hit5 (row_apart (hm4.row.ext hnw.ext) hit5)
      have hm6 := (hm4.later hnw.ext).grown hrow hg hor
      refine ⟨a', c', w6, hrun, hko, (k + 1, a', c'), ?_, ⟨by dsimp only; omega, ?_, b, rfl, hB, hit6⟩, by dsimp only; omega⟩
      · dsimp only; rw [badT_succ, if_pos hbd]; simp
      · dsimp only; rw [badT_succ, if_pos hbd]; simpa using hm6
  · have hk1 := cnt_end (s := s) (by simpa using h) hk
    subst hk1
    exact ⟨(a, _, c), rfl, rfl, hm⟩

theorem newRunes_made {w w1 : World} {s : ByteArray} {e c b : Nat} (h : NewRunes w s e c b w1) : Made w w1 e 1 (some ⟨b, 0, none⟩) (runesV s).length ((runes s).map (Value.int .i32)) c := by
  obtain ⟨h1, h2, rfl, rfl⟩ := h
  have hext : Ext w (w.drew.alloc (.cells (runesV s ++ List.replicate (c - (runesV s).length) (Value.int .i32 0)).toArray e)) := ((Below.refl w.heap.size w).drew).alloc (Nat.le_refl _) _
  refine ⟨⟨by rw [runesV_eq, Nat.mul_one], .inr ⟨w.heap.size, (runesV s ++ List.replicate (c - (runesV s).length) (Value.int .i32 0)).toArray, rfl, ?_, h1, h2, ?_, ?_⟩⟩, ?_, hext⟩
  · show (w.heap.push _)[w.heap.size]? = _
    simp
  · simp; omega
  · rw [Nat.mul_one, List.take_left' rfl, runesV_eq]
  · intro g hg; simp [blk] at hg; omega

theorem runesV_len (s : ByteArray) : (runesV s).length = cnt s := by rw [runesV_eq, List.length_map, runes_len]

theorem count_ok : (sSN cnt).Ok Tryd.prog 27 := by
  refine count_vc trivial ?_
  rintro (s : ByteArray) w ⟨hU, hsm⟩
  have hcs := cnt_le s
  refine ⟨by rw [runesV_len]; omega, fun c b w1 hn => ⟨_, rfl, runesV_len s, (newRunes_made hn).ext⟩⟩

theorem runesIn_of {w : World} {ad : Option Addr} {xs : List Int} (h : CellsAt w ad (xs.map (Value.int .i32))) : RunesIn w ad xs.length xs := by
  refine ⟨rfl, ?_⟩
  rcases h with h | ⟨b, o, rfl, h⟩
  · left; simpa using h
  · right
    refine ⟨b, o, rfl, fun j hj => h j _ ?_⟩
    simp [List.getD, hj]
theorem bytesIn_of {w : World} {ad : Option Addr} {n : Nat} {s : ByteArray} (hn : n = s.size) (h : CellsAt w ad (s.data.toList.map fun b => Value.int .u8 (b.toNat : Int))) : BytesIn w ad n s := by
  refine ⟨hn.symm, ?_⟩
  rcases h with h | ⟨b, o, rfl, h⟩
  · left; have := size_list s; rw [List.map_eq_nil_iff] at h; rw [h] at this; simp at this; omega
  · right
    refine ⟨b, o, rfl, fun j hj => h j _ ?_⟩
    have hl := size_list s
    rw [List.getElem?_map, List.getD_eq_getElem?_getD, List.getElem?_eq_getElem (by omega)]; rfl

theorem bytes_list (xs : List Int) : (runesBytes xs).data.toList.map (fun b => Value.int .u8 (b.toNat : Int)) = (xs.flatMap encL).map (Value.int .u8) := by
  apply List.ext_getElem?
  intro j
  have hsz := runesBytes_size xs
  have hl := size_list (runesBytes xs)
  rw [List.getElem?_map, List.getElem?_map]
  by_cases h : j < (xs.flatMap encL).length
  · have e := runesBytes_bt xs j h
    have hnn := flat_encL_nonneg xs _ (List.getElem_mem h)
    rw [List.getD_eq_getElem?_getD, List.getD_eq_getElem?_getD, List.getElem?_eq_getElem h, List.getElem?_eq_getElem (by omega)] at e
    rw [List.getElem?_eq_getElem h, List.getElem?_eq_getElem (by omega)]
    simp only [Option.map_some, Option.getD_some] at e ⊢
    congr 2; omega
  · rw [List.getElem?_eq_none (by omega), List.getElem?_eq_none (by omega)]; rfl

end Go.Proofs.YtniiamobbgnjaaaDoor
