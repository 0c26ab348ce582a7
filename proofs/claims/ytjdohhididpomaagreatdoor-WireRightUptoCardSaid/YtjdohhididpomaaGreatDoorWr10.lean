/-
  Texts joined by program: WkB, Gi, WkSf, VgK, WkK, VgN.
-/
import Derived.Test.YtjdohhididpomaaGreatDoorWr09
import Derived.Test.YtjdohhididpomaaGreatDoorWr04
import Derived.Test.YtjdohhididpomaaGreatDoorProg
import Derived.KernelRfl
import Derived.Test.YtjdohhididpomaaGreatDoorWr05
set_option linter.unusedVariables false
set_option linter.unusedSimpArgs false

namespace Go.Proofs.YtjdohhididpomaaGreatDoor
section
open Go Go.RowKit Vc Ut
theorem oneV_len (s : ByteArray) (n : Nat) : (oneV s n).length = 4 := rfl
theorem oneV_one (s : ByteArray) (n : Nat) : ∀ u ∈ oneV s n, u.oneCell' = true := by
  intro u hu
  simp only [oneV, List.mem_cons, List.not_mem_nil, or_false] at hu
  rcases hu with rfl | rfl | rfl | rfl <;> rfl
theorem one_cell {s : ByteArray} {l : List Nat} {k j n : Nat} {v : Value} (hk : l[k]? = some n) (hj : (oneV s n)[j]? = some v) : (l.flatMap (oneV s))[k * 4 + j]? = some v := by
  rw [flat_at (oneV_len s) hk (by have := (List.getElem?_eq_some_iff.1 hj).1; simpa [oneV] using this)]; exact hj
theorem all_at {s : ByteArray} {k : Nat} (h : k < cnt s) : (allN s)[k]? = some k := by simp [allN, List.getElem?_range, h]
theorem badT_succ (s : ByteArray) (n : Nat) : badT s (n + 1) = badT s n ++ (if isBad s n then [(pos s n : Int)] else []) := by
  unfold badT
  rw [List.range_succ, List.filter_append, List.map_append]
  congr 1
  by_cases h : isBad s n = true <;> simp [h]
theorem badT_len (s : ByteArray) (n : Nat) : (badT s n).length ≤ n := by
  unfold badT; rw [List.length_map]; have := List.length_filter_le (isBad s) (List.range n); simpa using this
theorem newRunes_made {w w1 : World} {s : ByteArray} {e c b : Nat} (h : NewRunes w s e c b w1) : Made w w1 e 1 (some ⟨b, 0, none⟩) (runesV s).length ((runes s).map (Value.int .i32)) c := by
  obtain ⟨h1, h2, rfl, rfl⟩ := h
  have hext : Ext w (w.drew.alloc (.cells (runesV s ++ List.replicate (c - (runesV s).length) (Value.int .i32 0)).toArray e)) := ((Below.refl w.heap.size w).drew).alloc (Nat.le_refl _) _
  refine ⟨⟨by rw [runesV_eq, Nat.mul_one], .inr ⟨w.heap.size, (runesV s ++ List.replicate (c - (runesV s).length) (Value.int .i32 0)).toArray, rfl, ?_, h1, h2, ?_, ?_⟩⟩, ?_, hext⟩
  · show (w.heap.push _)[w.heap.size]? = _
    simp
  · simp; omega
  · rw [Nat.mul_one, List.take_left' rfl, runesV_eq]
  · intro g hg; simp [blk] at hg; omega
theorem runesV_len (s : ByteArray) : (runesV s).length = cnt s := by rw [runesV_eq, List.length_map, runes_len]
theorem runesIn_of {w : World} {ad : Option Addr} {xs : List Int} (h : CellsAt w ad (xs.map (Value.int .i32))) : RunesIn w ad xs.length xs := by
  refine ⟨rfl, ?_⟩
  rcases h with h | ⟨b, o, rfl, h⟩
  · left; simpa using h
  · right
    refine ⟨b, o, rfl, fun j hj => h j _ ?_⟩
    simp [List.getD, hj]
theorem bytesIn_of {w : World} {ad : Option Addr} {n : Nat} {s : ByteArray} (hn : n = s.size) (h : CellsAt w ad (s.data.toList.map fun b => Value.int .u8 (b.toNat : Int))) : BytesIn w ad n s := by
  refine ⟨hn.symm, ?_⟩
  rcases h with h | ⟨b, o, rfl, h⟩
  · left; have := size_list s; rw [List.map_eq_nil_iff] at h; rw [h] at this; simp at this; omega
  · right
    refine ⟨b, o, rfl, fun j hj => h j _ ?_⟩
    have hl := size_list s
    rw [List.getElem?_map, List.getD_eq_getElem?_getD, List.getElem?_eq_getElem (by omega)]; rfl
theorem bytes_list (xs : List Int) : (runesBytes xs).data.toList.map (fun b => Value.int .u8 (b.toNat : Int)) = (xs.flatMap encL).map (Value.int .u8) := by
  apply List.ext_getElem?
  intro j
  have hsz := runesBytes_size xs
  have hl := size_list (runesBytes xs)
  rw [List.getElem?_map, List.getElem?_map]
  by_cases h : j < (xs.flatMap encL).length
  · have e := runesBytes_bt xs j h
    have hnn := flat_encL_nonneg xs _ (List.getElem_mem h)
    rw [List.getD_eq_getElem?_getD, List.getD_eq_getElem?_getD, List.getElem?_eq_getElem h, List.getElem?_eq_getElem (by omega)] at e
    rw [List.getElem?_eq_getElem h, List.getElem?_eq_getElem (by omega)]
    simp only [Option.map_some, Option.getD_some] at e ⊢
    congr 2; omega
  · rw [List.getElem?_eq_none (by omega), List.getElem?_eq_none (by omega)]; rfl
end

section
namespace Vc
open Go Go.RowKit
theorem Stored.box {w w1 : World} {b : Nat} {u v : Value} {t : TypeId} (hs : Stored w ⟨b, 0, none⟩ v w1) (h : w.heap[b]? = some (.cells #[u] t)) : w1.heap[b]? = some (.cells #[v] t) := by
  have := hs.heap h
  simpa using this
theorem box_cell {w : World} {b : Nat} {v : Value} {t : TypeId} (h : w.heap[b]? = some (.cells #[v] t)) : w.cell? ⟨b, 0, none⟩ = some v := by
  rw [cell_of_heap h]; rfl
theorem box_old {w : World} {b : Nat} {v : Value} {t : TypeId} (h : w.heap[b]? = some (.cells #[v] t)) : ∃ old, w.cell? ⟨b, 0, none⟩ = some old := ⟨v, box_cell h⟩
theorem box_free {w : World} {b : Nat} {v : Value} {t : TypeId} (h : w.heap[b]? = some (.cells #[v] t)) : w.frozen? ⟨b, 0, none⟩ = false := frozen_of_heap h _
theorem heap_lt {w : World} {b : Nat} {o : Obj} (h : w.heap[b]? = some o) : b < w.heap.size := (Array.getElem?_eq_some_iff.1 h).1
theorem Step.stored {D : Nat → Prop} {W W1 : World} {p : Addr} {v : Value} (hs : Stored W p v W1) (hD : D p.block) (hdom : ∀ q, D q → q < W.heap.size) : Step D W W1 D :=
  ⟨(Fr.stored hs).mono (fun x _ hx => by subst hx; exact hD), fun q hq => ⟨by rw [hs.size]; exact hdom q hq, .inl hq⟩⟩
theorem Step.refl {D : Nat → Prop} {W : World} (hdom : ∀ q, D q → q < W.heap.size) : Step D W W D := ⟨Fr.refl _ _, fun q hq => ⟨hdom q hq, .inl hq⟩⟩
theorem Step.trans {D D1 D2 : Nat → Prop} {a b c : World} (h : Step D a b D1) (k : Step D1 b c D2) : Step D a c D2 :=
  ⟨h.fr.trans k.fr (fun x hx hd => ((h.dom x hd).2).elim id (fun h2 => by omega)), fun q hq => ⟨(k.dom q hq).1, (k.dom q hq).2.elim (fun h1 => ((h.dom q h1).2)) (fun h2 => .inr (Nat.le_trans h.fr.size h2))⟩⟩
theorem Step.ext {D : Nat → Prop} {W W1 : World} (hx : Ext W W1) (hdom : ∀ q, D q → q < W.heap.size) : Step D W W1 D := ⟨Fr.of_ext hx, fun q hq => ⟨Nat.lt_of_lt_of_le (hdom q hq) hx.size, .inl hq⟩⟩
theorem Mid.step {w W W1 : World} {D0 D D' : Nat → Prop} (h : Mid w D0 D W) (k : Step D W W1 D') : Mid w D0 D' W1 :=
  ⟨h.fr.trans k.fr (fun x hx hd => ((h.dom x hd).2).elim id (fun h2 => by omega)), fun q hq => ⟨(k.dom q hq).1, (k.dom q hq).2.elim (fun h1 => (h.dom q h1).2) (fun h2 => .inr (Nat.le_trans h.fr.size h2))⟩⟩
theorem Mid.lt {w W : World} {D0 D : Nat → Prop} (h : Mid w D0 D W) : ∀ q, D q → q < W.heap.size := fun q hq => (h.dom q hq).1
theorem Mid.old {w W : World} {D0 D : Nat → Prop} (h : Mid w D0 D W) {b : Nat} (hb : b < w.heap.size) (h0 : ¬ D0 b) : W.heap[b]? = w.heap[b]? := h.fr.block b hb h0
theorem Mid.start {w W : World} {D0 : Nat → Prop} (h : Ext w W) (hd : ∀ q, D0 q → q < w.heap.size) : Mid w D0 D0 W := ⟨Fr.of_ext h, fun q hq => ⟨Nat.lt_of_lt_of_le (hd q hq) h.size, .inl hq⟩⟩
theorem Mid.own {w W W1 : World} {D0 D : Nat → Prop} {S : Nat → Prop} (h : Mid w D0 D W) (hf : Fr S W W1) (hS : ∀ q, S q → w.heap.size ≤ q) : Mid w D0 D W1 :=
  ⟨h.fr.trans hf (fun x hx hs => by have := hS x hs; omega), fun q hq => ⟨Nat.lt_of_lt_of_le (h.dom q hq).1 hf.size, (h.dom q hq).2⟩⟩
theorem Mid.ext {w0 w W : World} {D0 D : Nat → Prop} (h : Mid w D0 D W) (hx : Ext w0 w) (h0 : ∀ q, D0 q → w0.heap.size ≤ q) : Ext w0 W :=
  Below.trans hx (h.fr.below hx.size (fun q hq hd => by have := h0 q hd; omega))
theorem Ext.turn {w0 w w2 : World} (h : Ext w0 w) (ht : Turn w0.heap.size w w2) : Ext w0 w2 := Below.trans h ht.ext
theorem Ext.stored {w0 w w1 : World} {p : Addr} {v : Value} (h : Ext w0 w) (hs : Stored w p v w1) (hp : w0.heap.size ≤ p.block) : Ext w0 w1 := hs.below h hp
end Vc
end

section
open Go Go.RowKit Vc Ut Tb Cl
theorem DB.ext {w w' : World} (h : DB w) (e : Ext w w') : DB w' := e.cell h
theorem inr_u64 {n : Int} (h1 : 0 ≤ n) (h2 : n ≤ 18446744073709551615) : InR .u64 n := ⟨h1, h2⟩
theorem tz64_ok : (sTz .u64).Ok Tryz.prog 151 := by
  refine tz64_vc trivial ?_
  rintro _ w hD
  exact ⟨⟨by decide +kernel, by decide +kernel⟩, 15, rfl, by decide, 4, hD, inr_i64 (by decide) (by decide), (), rfl, rfl⟩
theorem tz_ok : (sTz .u64).Ok Tryz.prog 146 := by
  refine tz_vc ⟨tz64_ok, trivial⟩ ?_
  rintro _ w hD
  exact ⟨(), rfl, hD, fun _ w' h => ⟨(), rfl, h⟩⟩
theorem pow_ok : sPow.Ok Tryz.prog 145 := by
  refine pow_vc trivial ?_
  rintro _ w _
  exact ⟨inr_i64 (by decide) (by decide), (), rfl, rfl⟩
theorem digs16 : ∀ k, k < 16 → [(48 : UInt8), 49, 50, 51, 52, 53, 54, 55, 56, 57, 97, 98, 99, 100, 101, 102].getD k 0 = hexB k := by decide
theorem digs36 : ∀ k, k < 16 → [(48 : UInt8), 49, 50, 51, 52, 53, 54, 55, 56, 57, 97, 98, 99, 100, 101, 102, 103, 104, 105, 106, 107, 108, 109, 110, 111, 112, 113, 114, 115, 116, 117, 118, 119, 120, 121, 122].getD k 0 = hexB k := by decide
theorem and15 {m : Nat} (h : m < 18446744073709551616) : IntKind.u64.wrap (((BitVec.ofInt IntKind.u64.bits (m : Int) &&& BitVec.ofInt IntKind.u64.bits ((16 : Int) - 1)).toNat : Nat) : Int) = ((m % 16 : Nat) : Int) := by
  have h1 : (BitVec.ofInt IntKind.u64.bits (m : Int) &&& BitVec.ofInt IntKind.u64.bits ((16 : Int) - 1)).toNat = m % 16 := by
    rw [BitVec.toNat_and, BitVec.toNat_ofInt, BitVec.toNat_ofInt]
    show ((m : Int) % (2 ^ 64 : Nat)).toNat &&& 15 = m % 16
    rw [show ((m : Int) % ((2 ^ 64 : Nat) : Int)).toNat = m from by omega]
    exact Nat.and_two_pow_sub_one_eq_mod m 4
  rw [h1]
  exact (inr_u64 (by omega) (by omega)).wrap
theorem shr4 (m : Nat) : ((m : Nat) : Int).fdiv ((2 : Int) ^ min (Int.toNat (4 : Int)) IntKind.u64.bits) = ((m / 16 : Nat) : Int) := by
  show (m : Int).fdiv 16 = _
  rw [Int.fdiv_eq_ediv_of_nonneg _ (by decide)]
  rfl
theorem div_pow (u j : Nat) : u / 16 ^ j / 16 = u / 16 ^ (j + 1) := by rw [Nat.div_div_eq_div_mul, Nat.pow_succ]
theorem step_dig {u j d : Nat} (h2 : u < 16 ^ d) (hj : j + 1 ≤ d) (h : 16 ≤ u / 16 ^ j) : j + 2 ≤ d := by
  rcases Nat.lt_or_ge (j + 1) d with h1 | h1
  · exact h1
  · have e : d = j + 1 := by omega
    subst e
    rw [Nat.pow_succ] at h2
    have := Nat.div_lt_of_lt_mul h2
    omega
theorem last_dig {u j d : Nat} (h1 : 16 ^ (d - 1) ≤ u) (hj : j + 1 ≤ d) (h : u / 16 ^ j < 16) : j + 1 = d := by
  rcases Nat.lt_or_ge (j + 1) d with h2 | h2
  · exfalso
    have h3 : 16 ^ (j + 1) ≤ 16 ^ (d - 1) := Nat.pow_le_pow_right (by decide) (by omega)
    have h4 : 16 ≤ u / 16 ^ j := (Nat.le_div_iff_mul_le (Nat.pow_pos (by decide))).2 (by rw [Nat.mul_comm, ← Nat.pow_succ]; exact Nat.le_trans h3 h1)
    omega
  · omega
theorem num_len (x : Nat) : ∀ j, (numS x j).length = j
  | 0 => rfl
  | j + 1 => by simp only [numS, List.length_cons, num_len x j]
theorem strL_size (l : List UInt8) : (strL l).size = l.length := by simp [strL, ByteArray.size]
theorem u8L_len (l : List UInt8) : (u8L l).length = l.length := by simp [u8L]
theorem arr_len {u j : Nat} (h : j ≤ 65) : (arrC u j).length = 65 := by
  unfold arrC
  rw [List.length_append, List.length_replicate, u8L_len, num_len]; omega
theorem arr_set {u j : Nat} (h : j < 65) : (arrC u j).toArray.setIfInBounds (64 - j) (.int .u8 ((hexB (u / 16 ^ j % 16)).toNat : Nat)) = (arrC u (j + 1)).toArray := by
  have e : arrC u j = List.replicate (64 - j) (.int .u8 0) ++ ([.int .u8 0] ++ u8L (numS u j)) := by
    unfold arrC
    rw [show 65 - j = (64 - j) + 1 from by omega, List.replicate_succ', List.append_assoc]
  rw [e, List.setIfInBounds_toArray, List.set_append_right _ _ (by rw [List.length_replicate]; exact Nat.le_refl _), List.length_replicate, Nat.sub_self]
  unfold arrC
  rw [show 65 - (j + 1) = 64 - j from by omega]
  rfl
theorem arr_bytes {w : World} {b u d : Nat} (hd : d ≤ 65) (h : w.heap[b]? = some (.cells (arrC u d).toArray 184)) : BytesIn w (some ⟨b, 65 - d, none⟩) d (strL (numS u d)) := by
  refine bytesIn_of (by rw [strL_size, num_len]) (.inr ⟨b, 65 - d, rfl, fun t v hv => ?_⟩)
  have hv : (u8L (numS u d))[t]? = some v := hv
  rw [cell_of_heap h, List.getElem?_toArray]
  unfold arrC
  rw [List.getElem?_append_right (by rw [List.length_replicate]; omega), List.length_replicate, Nat.add_sub_cancel_left]
  exact hv
theorem bit2_ok : (sBitD 2).Ok Tryz.prog 133 := by
  refine bit2_vc ⟨pow_ok, tz_ok, trivial⟩ ?_
  rintro (u : Nat) w ⟨hD, h1, h2⟩ b w1 hn1
  have z1 := hn1.size
  have h16 : u < 16777216 := Nat.lt_of_lt_of_le h2 (by decide)
  refine ⟨(), rfl, trivial, ?_⟩
  rintro _ w2 hw2
  replace hw2 := hw2.symm
  subst hw2
  refine ⟨inr_u64 (by decide) (by decide), (), rfl, hD.ext hn1.ext, ?_⟩
  rintro _ w3 hw3
  replace hw3 := hw3.symm
  subst hw3
  refine ⟨inr_u64 (by decide) (by decide), inr_u64 (by decide) (by decide), inr_u64 (by decide) (by decide), inr_u64 (by decide) (by decide), ⟨⟨0, rfl, by simp, by omega, ⟨b, rfl, by omega, hn1.heap⟩, hn1.ext⟩, ?_⟩, ?_⟩
  · rintro _ j w4 ⟨hj, ⟨b', hb', hge, hh⟩, e4⟩
    cases hb'
    have hle : u / 16 ^ j ≤ u := Nat.div_le_self _ _
    refine bcase_mk (fun h => ?_) (fun h => ?_)
    · have h := of_decide_eq_true h
      have hj2 := step_dig h2 hj (by omega)
      have hm : u / 16 ^ j % 16 < 16 := Nat.mod_lt _ (by decide)
      have ho : ((64 - j : Nat) : Int) = (65 : Int) - (j : Int) - 1 := by omega
      refine ⟨inr_i64 (by omega) (by omega), u / 16 ^ j % 16, and15 (by omega), by show _ < 36; omega, 64 - j, ho.symm, by omega, rfl, ⟨_, by rw [cell_of_heap hh, Array.getElem?_eq_getElem (by rw [List.size_toArray, arr_len (by omega)]; omega)]⟩, frozen_of_heap hh _, fun w5 hs5 => ?_⟩
      have hh5 := hs5.heap hh
      rw [digs36 _ hm, Nat.zero_add, arr_set (by omega)] at hh5
      exact ⟨j + 1, by congr 1; omega, by rw [shr4, div_pow], ⟨by omega, ⟨b, rfl, hge, hh5⟩, e4.stored hs5 (by show _ ≤ b; omega)⟩, by omega⟩
    · have h := of_decide_eq_false h
      have hjd := last_dig h1 hj (by omega)
      have hj : j = 2 - 1 := by omega
      subst hj
      exact ⟨(), rfl, rfl, ⟨b, _, rfl, hge, rfl, hh⟩, e4⟩
  · rintro _ _ w4 ⟨⟨b', j, hb', hge, hjd, hh⟩, e4⟩
    cases hb'
    have hj : j = 2 - 1 := by omega
    subst hj
    have hm : u / 16 ^ (2 - 1) < 16 := Nat.div_lt_of_lt_mul h2
    refine ⟨inr_i64 (by decide) (by decide), _, rfl, by show _ < 36; omega, 64 - 1, rfl, by decide, rfl, ⟨_, by rw [cell_of_heap hh, Array.getElem?_eq_getElem (by rw [List.size_toArray, arr_len (by decide)]; decide)]⟩, frozen_of_heap hh _, fun w5 hs5 => ?_⟩
    have hh5 := hs5.heap hh
    rw [digs36 _ hm] at hh5
    have hs := arr_set (u := u) (j := 2 - 1) (by decide)
    rw [Nat.mod_eq_of_lt hm] at hs
    have hh6 : w5.heap[b]? = some (.cells (arrC u 2).toArray 184) := hh5.trans (congrArg (fun c => some (Obj.cells c 184)) hs)
    exact ⟨strL (numS u 2), arr_bytes (by decide) hh6, ((), strL (numS u 2)), rfl, rfl, e4.stored hs5 (by show _ ≤ b; omega)⟩
theorem bit3_ok : (sBitD 3).Ok Tryz.prog 133 := by
  refine bit3_vc ⟨pow_ok, tz_ok, trivial⟩ ?_
  rintro (u : Nat) w ⟨hD, h1, h2⟩ b w1 hn1
  have z1 := hn1.size
  have h16 : u < 16777216 := Nat.lt_of_lt_of_le h2 (by decide)
  refine ⟨(), rfl, trivial, ?_⟩
  rintro _ w2 hw2
  replace hw2 := hw2.symm
  subst hw2
  refine ⟨inr_u64 (by decide) (by decide), (), rfl, hD.ext hn1.ext, ?_⟩
  rintro _ w3 hw3
  replace hw3 := hw3.symm
  subst hw3
  refine ⟨inr_u64 (by decide) (by decide), inr_u64 (by decide) (by decide), inr_u64 (by decide) (by decide), inr_u64 (by decide) (by decide), ⟨⟨0, rfl, by simp, by omega, ⟨b, rfl, by omega, hn1.heap⟩, hn1.ext⟩, ?_⟩, ?_⟩
  · rintro _ j w4 ⟨hj, ⟨b', hb', hge, hh⟩, e4⟩
    cases hb'
    have hle : u / 16 ^ j ≤ u := Nat.div_le_self _ _
    refine bcase_mk (fun h => ?_) (fun h => ?_)
    · have h := of_decide_eq_true h
      have hj2 := step_dig h2 hj (by omega)
      have hm : u / 16 ^ j % 16 < 16 := Nat.mod_lt _ (by decide)
      have ho : ((64 - j : Nat) : Int) = (65 : Int) - (j : Int) - 1 := by omega
      refine ⟨inr_i64 (by omega) (by omega), u / 16 ^ j % 16, and15 (by omega), by show _ < 36; omega, 64 - j, ho.symm, by omega, rfl, ⟨_, by rw [cell_of_heap hh, Array.getElem?_eq_getElem (by rw [List.size_toArray, arr_len (by omega)]; omega)]⟩, frozen_of_heap hh _, fun w5 hs5 => ?_⟩
      have hh5 := hs5.heap hh
      rw [digs36 _ hm, Nat.zero_add, arr_set (by omega)] at hh5
      exact ⟨j + 1, by congr 1; omega, by rw [shr4, div_pow], ⟨by omega, ⟨b, rfl, hge, hh5⟩, e4.stored hs5 (by show _ ≤ b; omega)⟩, by omega⟩
    · have h := of_decide_eq_false h
      have hjd := last_dig h1 hj (by omega)
      have hj : j = 3 - 1 := by omega
      subst hj
      exact ⟨(), rfl, rfl, ⟨b, _, rfl, hge, rfl, hh⟩, e4⟩
  · rintro _ _ w4 ⟨⟨b', j, hb', hge, hjd, hh⟩, e4⟩
    cases hb'
    have hj : j = 3 - 1 := by omega
    subst hj
    have hm : u / 16 ^ (3 - 1) < 16 := Nat.div_lt_of_lt_mul h2
    refine ⟨inr_i64 (by decide) (by decide), _, rfl, by show _ < 36; omega, 63 - 1, rfl, by decide, rfl, ⟨_, by rw [cell_of_heap hh, Array.getElem?_eq_getElem (by rw [List.size_toArray, arr_len (by decide)]; decide)]⟩, frozen_of_heap hh _, fun w5 hs5 => ?_⟩
    have hh5 := hs5.heap hh
    rw [digs36 _ hm] at hh5
    have hs := arr_set (u := u) (j := 3 - 1) (by decide)
    rw [Nat.mod_eq_of_lt hm] at hs
    have hh6 : w5.heap[b]? = some (.cells (arrC u 3).toArray 184) := hh5.trans (congrArg (fun c => some (Obj.cells c 184)) hs)
    exact ⟨strL (numS u 3), arr_bytes (by decide) hh6, ((), strL (numS u 3)), rfl, rfl, e4.stored hs5 (by show _ ≤ b; omega)⟩
theorem bit4_ok : (sBitD 4).Ok Tryz.prog 133 := by
  refine bit4_vc ⟨pow_ok, tz_ok, trivial⟩ ?_
  rintro (u : Nat) w ⟨hD, h1, h2⟩ b w1 hn1
  have z1 := hn1.size
  have h16 : u < 16777216 := Nat.lt_of_lt_of_le h2 (by decide)
  refine ⟨(), rfl, trivial, ?_⟩
  rintro _ w2 hw2
  replace hw2 := hw2.symm
  subst hw2
  refine ⟨inr_u64 (by decide) (by decide), (), rfl, hD.ext hn1.ext, ?_⟩
  rintro _ w3 hw3
  replace hw3 := hw3.symm
  subst hw3
  refine ⟨inr_u64 (by decide) (by decide), inr_u64 (by decide) (by decide), inr_u64 (by decide) (by decide), inr_u64 (by decide) (by decide), ⟨⟨0, rfl, by simp, by omega, ⟨b, rfl, by omega, hn1.heap⟩, hn1.ext⟩, ?_⟩, ?_⟩
  · rintro _ j w4 ⟨hj, ⟨b', hb', hge, hh⟩, e4⟩
    cases hb'
    have hle : u / 16 ^ j ≤ u := Nat.div_le_self _ _
    refine bcase_mk (fun h => ?_) (fun h => ?_)
    · have h := of_decide_eq_true h
      have hj2 := step_dig h2 hj (by omega)
      have hm : u / 16 ^ j % 16 < 16 := Nat.mod_lt _ (by decide)
      have ho : ((64 - j : Nat) : Int) = (65 : Int) - (j : Int) - 1 := by omega
      refine ⟨inr_i64 (by omega) (by omega), u / 16 ^ j % 16, and15 (by omega), by show _ < 36; omega, 64 - j, ho.symm, by omega, rfl, ⟨_, by rw [cell_of_heap hh, Array.getElem?_eq_getElem (by rw [List.size_toArray, arr_len (by omega)]; omega)]⟩, frozen_of_heap hh _, fun w5 hs5 => ?_⟩
      have hh5 := hs5.heap hh
      rw [digs36 _ hm, Nat.zero_add, arr_set (by omega)] at hh5
      exact ⟨j + 1, by congr 1; omega, by rw [shr4, div_pow], ⟨by omega, ⟨b, rfl, hge, hh5⟩, e4.stored hs5 (by show _ ≤ b; omega)⟩, by omega⟩
    · have h := of_decide_eq_false h
      have hjd := last_dig h1 hj (by omega)
      have hj : j = 4 - 1 := by omega
      subst hj
      exact ⟨(), rfl, rfl, ⟨b, _, rfl, hge, rfl, hh⟩, e4⟩
  · rintro _ _ w4 ⟨⟨b', j, hb', hge, hjd, hh⟩, e4⟩
    cases hb'
    have hj : j = 4 - 1 := by omega
    subst hj
    have hm : u / 16 ^ (4 - 1) < 16 := Nat.div_lt_of_lt_mul h2
    refine ⟨inr_i64 (by decide) (by decide), _, rfl, by show _ < 36; omega, 62 - 1, rfl, by decide, rfl, ⟨_, by rw [cell_of_heap hh, Array.getElem?_eq_getElem (by rw [List.size_toArray, arr_len (by decide)]; decide)]⟩, frozen_of_heap hh _, fun w5 hs5 => ?_⟩
    have hh5 := hs5.heap hh
    rw [digs36 _ hm] at hh5
    have hs := arr_set (u := u) (j := 4 - 1) (by decide)
    rw [Nat.mod_eq_of_lt hm] at hs
    have hh6 : w5.heap[b]? = some (.cells (arrC u 4).toArray 184) := hh5.trans (congrArg (fun c => some (Obj.cells c 184)) hs)
    exact ⟨strL (numS u 4), arr_bytes (by decide) hh6, ((), strL (numS u 4)), rfl, rfl, e4.stored hs5 (by show _ ≤ b; omega)⟩
theorem bit5_ok : (sBitD 5).Ok Tryz.prog 133 := by
  refine bit5_vc ⟨pow_ok, tz_ok, trivial⟩ ?_
  rintro (u : Nat) w ⟨hD, h1, h2⟩ b w1 hn1
  have z1 := hn1.size
  have h16 : u < 16777216 := Nat.lt_of_lt_of_le h2 (by decide)
  refine ⟨(), rfl, trivial, ?_⟩
  rintro _ w2 hw2
  replace hw2 := hw2.symm
  subst hw2
  refine ⟨inr_u64 (by decide) (by decide), (), rfl, hD.ext hn1.ext, ?_⟩
  rintro _ w3 hw3
  replace hw3 := hw3.symm
  subst hw3
  refine ⟨inr_u64 (by decide) (by decide), inr_u64 (by decide) (by decide), inr_u64 (by decide) (by decide), inr_u64 (by decide) (by decide), ⟨⟨0, rfl, by simp, by omega, ⟨b, rfl, by omega, hn1.heap⟩, hn1.ext⟩, ?_⟩, ?_⟩
  · rintro _ j w4 ⟨hj, ⟨b', hb', hge, hh⟩, e4⟩
    cases hb'
    have hle : u / 16 ^ j ≤ u := Nat.div_le_self _ _
    refine bcase_mk (fun h => ?_) (fun h => ?_)
    · have h := of_decide_eq_true h
      have hj2 := step_dig h2 hj (by omega)
      have hm : u / 16 ^ j % 16 < 16 := Nat.mod_lt _ (by decide)
      have ho : ((64 - j : Nat) : Int) = (65 : Int) - (j : Int) - 1 := by omega
      refine ⟨inr_i64 (by omega) (by omega), u / 16 ^ j % 16, and15 (by omega), by show _ < 36; omega, 64 - j, ho.symm, by omega, rfl, ⟨_, by rw [cell_of_heap hh, Array.getElem?_eq_getElem (by rw [List.size_toArray, arr_len (by omega)]; omega)]⟩, frozen_of_heap hh _, fun w5 hs5 => ?_⟩
      have hh5 := hs5.heap hh
      rw [digs36 _ hm, Nat.zero_add, arr_set (by omega)] at hh5
      exact ⟨j + 1, by congr 1; omega, by rw [shr4, div_pow], ⟨by omega, ⟨b, rfl, hge, hh5⟩, e4.stored hs5 (by show _ ≤ b; omega)⟩, by omega⟩
    · have h := of_decide_eq_false h
      have hjd := last_dig h1 hj (by omega)
      have hj : j = 5 - 1 := by omega
      subst hj
      exact ⟨(), rfl, rfl, ⟨b, _, rfl, hge, rfl, hh⟩, e4⟩
  · rintro _ _ w4 ⟨⟨b', j, hb', hge, hjd, hh⟩, e4⟩
    cases hb'
    have hj : j = 5 - 1 := by omega
    subst hj
    have hm : u / 16 ^ (5 - 1) < 16 := Nat.div_lt_of_lt_mul h2
    refine ⟨inr_i64 (by decide) (by decide), _, rfl, by show _ < 36; omega, 61 - 1, rfl, by decide, rfl, ⟨_, by rw [cell_of_heap hh, Array.getElem?_eq_getElem (by rw [List.size_toArray, arr_len (by decide)]; decide)]⟩, frozen_of_heap hh _, fun w5 hs5 => ?_⟩
    have hh5 := hs5.heap hh
    rw [digs36 _ hm] at hh5
    have hs := arr_set (u := u) (j := 5 - 1) (by decide)
    rw [Nat.mod_eq_of_lt hm] at hs
    have hh6 : w5.heap[b]? = some (.cells (arrC u 5).toArray 184) := hh5.trans (congrArg (fun c => some (Obj.cells c 184)) hs)
    exact ⟨strL (numS u 5), arr_bytes (by decide) hh6, ((), strL (numS u 5)), rfl, rfl, e4.stored hs5 (by show _ ≤ b; omega)⟩
theorem bit6_ok : (sBitD 6).Ok Tryz.prog 133 := by
  refine bit6_vc ⟨pow_ok, tz_ok, trivial⟩ ?_
  rintro (u : Nat) w ⟨hD, h1, h2⟩ b w1 hn1
  have z1 := hn1.size
  have h16 : u < 16777216 := Nat.lt_of_lt_of_le h2 (by decide)
  refine ⟨(), rfl, trivial, ?_⟩
  rintro _ w2 hw2
  replace hw2 := hw2.symm
  subst hw2
  refine ⟨inr_u64 (by decide) (by decide), (), rfl, hD.ext hn1.ext, ?_⟩
  rintro _ w3 hw3
  replace hw3 := hw3.symm
  subst hw3
  refine ⟨inr_u64 (by decide) (by decide), inr_u64 (by decide) (by decide), inr_u64 (by decide) (by decide), inr_u64 (by decide) (by decide), ⟨⟨0, rfl, by simp, by omega, ⟨b, rfl, by omega, hn1.heap⟩, hn1.ext⟩, ?_⟩, ?_⟩
  · rintro _ j w4 ⟨hj, ⟨b', hb', hge, hh⟩, e4⟩
    cases hb'
    have hle : u / 16 ^ j ≤ u := Nat.div_le_self _ _
    refine bcase_mk (fun h => ?_) (fun h => ?_)
    · have h := of_decide_eq_true h
      have hj2 := step_dig h2 hj (by omega)
      have hm : u / 16 ^ j % 16 < 16 := Nat.mod_lt _ (by decide)
      have ho : ((64 - j : Nat) : Int) = (65 : Int) - (j : Int) - 1 := by omega
      refine ⟨inr_i64 (by omega) (by omega), u / 16 ^ j % 16, and15 (by omega), by show _ < 36; omega, 64 - j, ho.symm, by omega, rfl, ⟨_, by rw [cell_of_heap hh, Array.getElem?_eq_getElem (by rw [List.size_toArray, arr_len (by omega)]; omega)]⟩, frozen_of_heap hh _, fun w5 hs5 => ?_⟩
      have hh5 := hs5.heap hh
      rw [digs36 _ hm, Nat.zero_add, arr_set (by omega)] at hh5
      exact ⟨j + 1, by congr 1; omega, by rw [shr4, div_pow], ⟨by omega, ⟨b, rfl, hge, hh5⟩, e4.stored hs5 (by show _ ≤ b; omega)⟩, by omega⟩
    · have h := of_decide_eq_false h
      have hjd := last_dig h1 hj (by omega)
      have hj : j = 6 - 1 := by omega
      subst hj
      exact ⟨(), rfl, rfl, ⟨b, _, rfl, hge, rfl, hh⟩, e4⟩
  · rintro _ _ w4 ⟨⟨b', j, hb', hge, hjd, hh⟩, e4⟩
    cases hb'
    have hj : j = 6 - 1 := by omega
    subst hj
    have hm : u / 16 ^ (6 - 1) < 16 := Nat.div_lt_of_lt_mul h2
    refine ⟨inr_i64 (by decide) (by decide), _, rfl, by show _ < 36; omega, 60 - 1, rfl, by decide, rfl, ⟨_, by rw [cell_of_heap hh, Array.getElem?_eq_getElem (by rw [List.size_toArray, arr_len (by decide)]; decide)]⟩, frozen_of_heap hh _, fun w5 hs5 => ?_⟩
    have hh5 := hs5.heap hh
    rw [digs36 _ hm] at hh5
    have hs := arr_set (u := u) (j := 6 - 1) (by decide)
    rw [Nat.mod_eq_of_lt hm] at hs
    have hh6 : w5.heap[b]? = some (.cells (arrC u 6).toArray 184) := hh5.trans (congrArg (fun c => some (Obj.cells c 184)) hs)
    exact ⟨strL (numS u 6), arr_bytes (by decide) hh6, ((), strL (numS u 6)), rfl, rfl, e4.stored hs5 (by show _ ≤ b; omega)⟩
theorem dig_cases (u : Nat) : digN u = 2 ∧ u < 256 ∨ digN u = 3 ∧ 256 ≤ u ∧ u < 4096 ∨ digN u = 4 ∧ 4096 ≤ u ∧ u < 65536 ∨ digN u = 5 ∧ 65536 ≤ u ∧ u < 1048576 ∨ digN u = 6 ∧ 1048576 ≤ u := by
  unfold digN
  split
  · omega
  · split
    · omega
    · split
      · omega
      · split <;> omega
theorem bits_ok : sBits.Ok Tryz.prog 133 := by
  rintro (u : Nat) w ⟨hD, h1, h2⟩
  rcases dig_cases u with ⟨e, h3⟩ | ⟨e, h3, h4⟩ | ⟨e, h3, h4⟩ | ⟨e, h3, h4⟩ | ⟨e, h3⟩
  · exact (bit2_ok u w ⟨hD, h1, h3⟩).mono fun e' w' ⟨x, he, ⟨hx, hxt⟩, hko⟩ => ⟨x, he, ⟨by rw [hx, e], hxt⟩, hko⟩
  · exact (bit3_ok u w ⟨hD, h3, h4⟩).mono fun e' w' ⟨x, he, ⟨hx, hxt⟩, hko⟩ => ⟨x, he, ⟨by rw [hx, e], hxt⟩, hko⟩
  · exact (bit4_ok u w ⟨hD, h3, h4⟩).mono fun e' w' ⟨x, he, ⟨hx, hxt⟩, hko⟩ => ⟨x, he, ⟨by rw [hx, e], hxt⟩, hko⟩
  · exact (bit5_ok u w ⟨hD, h3, h4⟩).mono fun e' w' ⟨x, he, ⟨hx, hxt⟩, hko⟩ => ⟨x, he, ⟨by rw [hx, e], hxt⟩, hko⟩
  · exact (bit6_ok u w ⟨hD, h3, h2⟩).mono fun e' w' ⟨x, he, ⟨hx, hxt⟩, hko⟩ => ⟨x, he, ⟨by rw [hx, e], hxt⟩, hko⟩
theorem fmtI_ok : sFmtI.Ok Tryz.prog 139 := by
  refine fmtI_vc ⟨bits_ok, trivial⟩ ?_
  rintro (u : Nat) w ⟨hD, h1, h2⟩
  refine ⟨inr_u64 (by omega) (by omega), u, rfl, ⟨hD, h1, h2⟩, ?_⟩
  rintro ⟨_, x⟩ w1 ⟨hx, e1⟩
  exact ⟨x, rfl, hx, e1⟩
theorem fmt_ok : sFmtI.Ok Tryz.prog 124 := by
  refine fmt_vc ⟨fmtI_ok, trivial⟩ ?_
  rintro (u : Nat) w h
  refine ⟨u, rfl, h, ?_⟩
  rintro x w1 ⟨hx, e1⟩
  exact ⟨x, rfl, hx, e1⟩
theorem num_j (u : Nat) : digN u ≤ numJ u ∧ 4 ≤ numJ u ∧ numJ u ≤ 6 ∧ (numJ u = 4 ∨ numJ u = digN u) := by
  unfold numJ
  rcases dig_cases u with ⟨e, h3⟩ | ⟨e, h3, h4⟩ | ⟨e, h3, h4⟩ | ⟨e, h3, h4⟩ | ⟨e, h3⟩ <;> rw [e] <;> decide
theorem dig_zero {u j : Nat} (h : u < 16777216) (hj : digN u ≤ j) : u / 16 ^ j = 0 := by
  refine Nat.div_eq_of_lt (Nat.lt_of_lt_of_le ?_ (Nat.pow_le_pow_right (by decide) hj))
  rcases dig_cases u with ⟨e, h3⟩ | ⟨e, h3, h4⟩ | ⟨e, h3, h4⟩ | ⟨e, h3, h4⟩ | ⟨e, h3⟩ <;> rw [e]
  · exact h3
  · exact h4
  · exact h4
  · exact h4
  · exact h
theorem dig_pos {u j : Nat} (h : 16 ≤ u) (hj : j < digN u) : 0 < u / 16 ^ j := by
  refine Nat.div_pos (Nat.le_trans (Nat.pow_le_pow_right (by decide) (show j ≤ digN u - 1 by omega)) ?_) (Nat.pow_pos (by decide))
  rcases dig_cases u with ⟨e, h3⟩ | ⟨e, h3, h4⟩ | ⟨e, h3, h4⟩ | ⟨e, h3, h4⟩ | ⟨e, h3⟩ <;> rw [e]
  · exact h
  · exact h3
  · exact h3
  · exact h3
  · exact h3
theorem strL_app (l m : List UInt8) : strL l ++ strL m = strL (l ++ m) := by
  apply ByteArray.ext
  simp [strL, ByteArray.data_append]
theorem named_ok : sNamed.Ok Tryz.prog 99 := by
  refine named_vc ⟨fmt_ok, trivial⟩ ?_
  rintro (u : Nat) w ⟨hD, h1, h2⟩
  have hj := num_j u
  refine ⟨inr_i64 (by omega) (by omega), u, rfl, ⟨hD, h1, by omega⟩, ?_⟩
  rintro x w1 ⟨rfl, e1⟩
  refine ⟨⟨digN u, rfl, Nat.le_refl _, hj.1, rfl⟩, ?_⟩
  rintro _ j w2 ⟨hj1, hj2, hw⟩
  replace hw := hw.symm
  subst hw
  have hz : (strL (numS u j)).size = j := by rw [strL_size, num_len]
  have s48 : (ByteArray.mk #[48]).size = 1 := rfl
  have s60 : (ByteArray.mk #[60]).size = 1 := rfl
  have s62 : (ByteArray.mk #[62]).size = 1 := rfl
  refine bcase_mk (fun h => ?_) (fun h => ?_)
  · have h := of_decide_eq_true h
    rw [hz] at h
    refine ⟨by rw [hz, s48]; omega, j + 1, ?_, ⟨by omega, by omega, rfl⟩, by omega⟩
    congr 1
    show strL [48] ++ strL (numS u j) = _
    rw [strL_app]
    simp only [numS]
    rw [dig_zero (by omega) hj1]
    rfl
  · have h := of_decide_eq_false h
    rw [hz] at h
    have e : j = numJ u := by omega
    subst e
    refine ⟨by rw [hz, s60]; omega, by rw [ByteArray.size_append, hz, s60, s62]; omega, _, rfl, rfl, e1⟩
theorem numX_ok : sNumX.Ok Tryz.prog 106 := by
  refine numX_vc trivial ?_
  rintro (u : Nat) w ⟨h1, h2⟩
  have hj := num_j u
  refine ⟨inr_i64 (by omega) (by omega), ⟨⟨0, none, 0⟩, by simp, rfl, Nat.zero_le _, Made.nil _ _ _⟩, ?_⟩
  rintro _ ⟨j, a, c⟩ w1 ⟨hj2, hm⟩
  dsimp only at hj2 hm ⊢
  have hle : u / 16 ^ j ≤ u := Nat.div_le_self _ _
  refine bcase_mk (fun h => ?_) (fun h => ?_)
  · have hjl : j < numJ u := by
      simp only [Bool.or_eq_true, decide_eq_true_eq] at h
      rcases h with h | h
      · rcases Nat.lt_or_ge j (digN u) with h3 | h3
        · omega
        · have := dig_zero (u := u) (j := j) (by omega) h3; omega
      · omega
    have hmod : u / 16 ^ j % 16 < 16 := Nat.mod_lt _ (by decide)
    have hq0 : (0 : Int) ≤ ((u / 16 ^ j : Nat) : Int) := Int.natCast_nonneg _
    have hqi : InR .i64 (((u / 16 ^ j : Nat) : Int) / 16) := by
      generalize u / 16 ^ j = q at hle
      exact inr_i64 (by omega) (by omega)
    refine ⟨hq0, by decide, u / 16 ^ j % 16, rfl, by show _ < 16; omega, fun b w2 hn2 => ?_⟩
    rw [digs16 _ hmod] at hn2
    have hb := Made.box (w0 := w) (s := 1) (n := 1) hn2 hm.ext rfl (by decide)
    obtain ⟨a', c', w3, hrun, hko, hm3, _⟩ := hb.pushS (P := Tryz.prog) (ty := 40) (sa := a) (cx := c) elem8 (by decide) (m := j) (news := u8L (numS u j)) (by rw [u8L_len, num_len, Nat.mul_one]) (hm.row.cells.ext hn2.ext) (by
      intro v hv
      obtain ⟨x, _, rfl⟩ := List.mem_map.1 hv
      rfl) (by unfold maxLen; omega) (.inr (by omega))
    refine ⟨a', c', w3, hrun, hko, hq0, by decide, hqi, ⟨j + 1, a', c'⟩, ?_, by dsimp only; rw [Nat.add_comm], ⟨hjl, ?_⟩, by dsimp only; omega⟩
    · dsimp only; rw [← div_pow]; rfl
    · rw [Nat.add_comm 1 j] at hm3
      exact hm3
  · simp only [Bool.or_eq_false_iff, decide_eq_false_iff_not] at h
    have hjd : digN u ≤ j := by
      rcases Nat.lt_or_ge j (digN u) with h3 | h3
      · have := dig_pos h1 h3; omega
      · exact h3
    have e : j = numJ u := by omega
    subst e
    exact ⟨_, bytesIn_of (s := strL (numS u (numJ u))) (by rw [strL_size, num_len]) hm.row.cells, _, rfl, rfl, hm.ext⟩
theorem blanks_ok : sBlanks.Ok Tryz.prog 104 := by
  refine blanks_vc trivial ?_
  rintro (n : Nat) w hn
  refine ⟨⟨⟨0, none, 0⟩, rfl, rfl, Nat.zero_le _, Made.nil _ _ _⟩, ?_⟩
  rintro _ ⟨j, a, c⟩ w1 ⟨hj, hm⟩
  dsimp only at hj hm ⊢
  refine bcase_mk (fun h => ?_) (fun h => ?_)
  · have hl : j < n := by have := of_decide_eq_true h; omega
    intro b w2 hn2
    obtain ⟨a', c', w3, hrun, hko, hm3, _⟩ := hm.pushN (P := Tryz.prog) (ty := 40) elem8 (by decide) (m := 1) (news := [.int .u8 32]) hn2 rfl (by simp [Value.oneCell']) (by unfold maxLen; omega) (.inr (by omega))
    refine ⟨a', c', w3, hrun, hko, inr_i64 (by omega) (by omega), ⟨j + 1, a', c'⟩, by simp, rfl, ⟨hl, ?_⟩, by dsimp only; omega⟩
    dsimp only
    have e : u8L (List.replicate (j + 1) 32) = u8L (List.replicate j 32) ++ [.int .u8 32] := by
      unfold u8L; rw [List.replicate_succ', List.map_append]; rfl
    rw [e]; exact hm3
  · have e : j = n := by have := of_decide_eq_false h; omega
    subst e
    exact ⟨blankS j, bytesIn_of (by show j = (strL (List.replicate j 32)).size; rw [strL_size, List.length_replicate]) hm.row.cells, _, rfl, rfl, hm.ext⟩
end

section
set_option linter.unusedVariables false
open Go Go.RowKit Vc Tb Cl
open Value
set_option maxRecDepth 1000000
theorem known_vc (hsp : SpecsOk Tryz.prog []) (h : ∀ (g : Int) (w : World), True → bcase (decide (g < 0) || (decide (g > 1114111) || decide (g ≥ 55296) && decide (g ≤ 57343))) (∃ (x : Int), int .i32 65533 = int .i32 x ∧ x = knownF g ∧ w = w) (∃ (x : Int), int .i32 g = int .i32 x ∧ x = knownF g ∧ w = w)) :
    ((sRune .i32 knownF)).Ok Tryz.prog 81 := ok_of_vc (sRune .i32 knownF) (annOf []) [] (fun _ _ => rfl) (fun _ _ => rfl) hsp Tryz.func81 rfl (n := 1) (fun _ => rfl) (by kernel_rfl) (vcast (by kernel_rfl) h)
theorem find_vc (hsp : SpecsOk Tryz.prog []) (h : ∀ (g : GFind) (w : World), CellsT w g.b g.T ∧ 0 < g.T.length ∧ g.T.length ≤ 1000 ∧ boundsOk g.T = true ∧ (g.T.getD 0 ((0 : Int), (0 : Int))).fst = (0 : Int) → bcase (decide (g.r < 0) || (decide (g.r > 1114111) || decide (g.r ≥ 55296) && decide (g.r ≤ 57343))) (∃ (c : Unit), int .i32 65533 = int .i32 (knownF g.r) ∧ w = w) (∃ (c : Unit), int .i32 g.r = int .i32 (knownF g.r) ∧ w = w) ∧ ∀ (u : Nat → Value) (c : Unit) w', w' = w → (∃ (x : Nat × Nat), int .i64 0 = int .i64 (x.fst : Int) ∧ int .i64 (g.T.length : Int) = int .i64 (x.snd : Int) ∧ x.fst < x.snd ∧ x.snd ≤ g.T.length ∧ (g.T.getD x.fst ((0 : Int), (0 : Int))).fst ≤ knownF g.r ∧ (x.snd = g.T.length ∨ knownF g.r < (g.T.getD x.snd ((0 : Int), (0 : Int))).fst) ∧ w' = w') ∧ ∀ (u1 : Nat → Value) (x : Nat × Nat) w'1, x.fst < x.snd ∧ x.snd ≤ g.T.length ∧ (g.T.getD x.fst ((0 : Int), (0 : Int))).fst ≤ knownF g.r ∧ (x.snd = g.T.length ∨ knownF g.r < (g.T.getD x.snd ((0 : Int), (0 : Int))).fst) ∧ w'1 = w' → InR .i64 ((x.snd : Int) - (x.fst : Int)) ∧ bcase (decide ((x.snd : Int) - (x.fst : Int) > 1)) (InR .i64 ((x.fst : Int) + (x.snd : Int)) ∧ (0 : Int) ≤ (x.fst : Int) + (x.snd : Int) ∧ (0 : Int) < 2 ∧ InR .i64 (((x.fst : Int) + (x.snd : Int)) / 2) ∧ IxE (((x.fst : Int) + (x.snd : Int)) / 2) g.T.length fun k => LdK w'1 .i32 g.b (0 + k * 2) fun n => bcase (decide (n > knownF g.r)) (∃ (y : Nat × Nat), int .i64 (x.fst : Int) = int .i64 (y.fst : Int) ∧ int .i64 (((x.fst : Int) + (x.snd : Int)) / 2) = int .i64 (y.snd : Int) ∧ (y.fst < y.snd ∧ y.snd ≤ g.T.length ∧ (g.T.getD y.fst ((0 : Int), (0 : Int))).fst ≤ knownF g.r ∧ (y.snd = g.T.length ∨ knownF g.r < (g.T.getD y.snd ((0 : Int), (0 : Int))).fst) ∧ w'1 = w') ∧ y.snd - y.fst < x.snd - x.fst) (∃ (y : Nat × Nat), int .i64 (((x.fst : Int) + (x.snd : Int)) / 2) = int .i64 (y.fst : Int) ∧ int .i64 (x.snd : Int) = int .i64 (y.snd : Int) ∧ (y.fst < y.snd ∧ y.snd ≤ g.T.length ∧ (g.T.getD y.fst ((0 : Int), (0 : Int))).fst ≤ knownF g.r ∧ (y.snd = g.T.length ∨ knownF g.r < (g.T.getD y.snd ((0 : Int), (0 : Int))).fst) ∧ w'1 = w') ∧ y.snd - y.fst < x.snd - x.fst)) (bcase (decide ((x.snd : Int) < (g.T.length : Int))) (∀ w1, Drew w'1 w1 → IxE (x.fst : Int) g.T.length fun k => LdK w'1 .u8 g.b (0 + k * 2 + 1) fun n => IxE (x.snd : Int) g.T.length fun k1 => LdK w'1 .i32 g.b (0 + k1 * 2) fun n1 => InR .i32 (n1 - 1) ∧ ∃ (x1 : Int × Int), tuple #[int .u8 n, int .i32 (n1 - 1)] = tuple #[int .u8 x1.fst, int .i32 x1.snd] ∧ FindOk g.T (knownF g.r) x1.fst x1.snd ∧ Ext w w1) (IxE (x.fst : Int) g.T.length fun k => LdK w'1 .u8 g.b (0 + k * 2 + 1) fun n => ∃ (x1 : Int × Int), tuple #[int .u8 n, int .i32 1114111] = tuple #[int .u8 x1.fst, int .i32 x1.snd] ∧ FindOk g.T (knownF g.r) x1.fst x1.snd ∧ Ext w w'1))) : sFind.Ok Tryz.prog 115 := ok_of_vc sFind (fun g _ => annFind g) [] (fun _ _ => rfl) (fun _ _ => rfl) hsp Tryz.func115 rfl (n := 2) (fun _ => rfl) (by kernel_rfl) (vcast (by kernel_rfl) h)
theorem rkind_vc (hsp : SpecsOk Tryz.prog spKnown) (h : ∀ (g : Int) (w : World), True → ∃ (g1 : Int), #[int .i32 g] = #[int .i32 g1] ∧ True ∧ ∀ (x : Int) w', x = knownF g1 ∧ w' = w → bcase (decide (x ≤ 31) || decide (x ≥ 127) && decide (x ≤ 159)) (∃ (x1 : Int), int .i8 0 = int .i8 x1 ∧ x1 = kindR g ∧ w' = w) (bcase (x == 173 || (x == 1564 || (decide (x ≥ 8203) && decide (x ≤ 8207) || (decide (x ≥ 8234) && decide (x ≤ 8238) || (decide (x ≥ 8288) && decide (x ≤ 8297) || x == 65279))))) (∃ (x1 : Int), int .i8 1 = int .i8 x1 ∧ x1 = kindR g ∧ w' = w) (bcase (decide (x ≥ 768) && decide (x ≤ 879) || (decide (x ≥ 1155) && decide (x ≤ 1161) || (decide (x ≥ 1425) && decide (x ≤ 1469) || (x == 1471 || (decide (x ≥ 1473) && decide (x ≤ 1474) || (decide (x ≥ 1476) && decide (x ≤ 1477) || (x == 1479 || (decide (x ≥ 1552) && decide (x ≤ 1562) || (decide (x ≥ 1611) && decide (x ≤ 1631) || (x == 1648 || (decide (x ≥ 1750) && decide (x ≤ 1756) || (decide (x ≥ 1759) && decide (x ≤ 1764) || (decide (x ≥ 1767) && decide (x ≤ 1768) || (decide (x ≥ 1770) && decide (x ≤ 1773) || (x == 3633 || (decide (x ≥ 3636) && decide (x ≤ 3642) || (decide (x ≥ 3655) && decide (x ≤ 3662) || (decide (x ≥ 6832) && decide (x ≤ 6911) || (decide (x ≥ 7616) && decide (x ≤ 7679) || (decide (x ≥ 8400) && decide (x ≤ 8447) || (decide (x ≥ 12330) && decide (x ≤ 12333) || (decide (x ≥ 12441) && decide (x ≤ 12442) || (decide (x ≥ 65024) && decide (x ≤ 65039) || decide (x ≥ 65056) && decide (x ≤ 65071)))))))))))))))))))))))) (∃ (x1 : Int), int .i8 2 = int .i8 x1 ∧ x1 = kindR g ∧ w' = w) (bcase (decide (x ≥ 48) && decide (x ≤ 57) || (decide (x ≥ 1632) && decide (x ≤ 1641) || (decide (x ≥ 1776) && decide (x ≤ 1785) || decide (x ≥ 65296) && decide (x ≤ 65305)))) (∃ (x1 : Int), int .i8 4 = int .i8 x1 ∧ x1 = kindR g ∧ w' = w) (bcase (x == 32 || (x == 160 || (x == 5760 || (decide (x ≥ 8192) && decide (x ≤ 8202) || (decide (x ≥ 8232) && decide (x ≤ 8233) || (x == 8239 || (x == 8287 || x == 12288))))))) (∃ (x1 : Int), int .i8 5 = int .i8 x1 ∧ x1 = kindR g ∧ w' = w) (bcase (x == 36 || (x == 43 || (decide (x ≥ 60) && decide (x ≤ 62) || (x == 94 || (x == 96 || (x == 124 || (x == 126 || (decide (x ≥ 162) && decide (x ≤ 166) || (decide (x ≥ 168) && decide (x ≤ 169) || (x == 172 || (decide (x ≥ 174) && decide (x ≤ 177) || (x == 180 || (x == 184 || (x == 215 || (x == 247 || (decide (x ≥ 8352) && decide (x ≤ 8399) || (decide (x ≥ 8448) && decide (x ≤ 9675) || (decide (x ≥ 9677) && decide (x ≤ 11263) || (decide (x ≥ 65532) && decide (x ≤ 65533) || decide (x ≥ 126976) && decide (x ≤ 129791)))))))))))))))))))) (∃ (x1 : Int), int .i8 7 = int .i8 x1 ∧ x1 = kindR g ∧ w' = w) (bcase (decide (x ≥ 65) && decide (x ≤ 90) || (decide (x ≥ 97) && decide (x ≤ 122) || (x == 170 || (x == 181 || (x == 186 || (decide (x ≥ 192) && decide (x ≤ 767) || (decide (x ≥ 880) && decide (x ≤ 883) || (decide (x ≥ 886) && decide (x ≤ 893) || (x == 895 || (x == 902 || (decide (x ≥ 904) && decide (x ≤ 1153) ||
 (decide (x ≥ 1162) && decide (x ≤ 1366) || (decide (x ≥ 1377) && decide (x ≤ 1415) || (decide (x ≥ 1488) && decide (x ≤ 1522) || (decide (x ≥ 1568) && decide (x ≤ 1610) || (decide (x ≥ 1646) && decide (x ≤ 1747) || (decide (x ≥ 1749) && decide (x ≤ 1788) || (decide (x ≥ 3585) && decide (x ≤ 3654) || (decide (x ≥ 4256) && decide (x ≤ 4607) || (decide (x ≥ 7680) && decide (x ≤ 8191) || (decide (x ≥ 11264) && decide (x ≤ 11743) || (decide (x ≥ 12293) && decide (x ≤ 12295) || (decide (x ≥ 12353) && decide (x ≤ 12543) || (decide (x ≥ 12549) && decide (x ≤ 12686) || (decide (x ≥ 13312) && decide (x ≤ 19903) || (decide (x ≥ 19968) && decide (x ≤ 40959) || (decide (x ≥ 44032) && decide (x ≤ 55203) || (decide (x ≥ 63744) && decide (x ≤ 64255) || (decide (x ≥ 64285) && decide (x ≤ 65019) || (decide (x ≥ 65136) && decide (x ≤ 65276) || (decide (x ≥ 65313) && decide (x ≤ 65338) || (decide (x ≥ 65345) && decide (x ≤ 65370) || (decide (x ≥ 65382) && decide (x ≤ 65500) || decide (x ≥ 131072) && decide (x ≤ 262141)))))))))))))))))))))))))))))))))) (∃ (x1 : Int), int .i8 3 = int .i8 x1 ∧ x1 = kindR g ∧ w' = w) (bcase (decide (x ≥ 33) && decide (x ≤ 64) || (decide (x ≥ 91) && decide (x ≤ 96) || (decide (x ≥ 123) && decide (x ≤ 126) || (decide (x ≥ 161) && decide (x ≤ 191) || (x == 894 || (x == 903 || (decide (x ≥ 1417) && decide (x ≤ 1418) || (decide (x ≥ 1470) && decide (x ≤ 1478) || (decide (x ≥ 1523) && decide (x ≤ 1524) || (decide (x ≥ 1548) && decide (x ≤ 1549) || (decide (x ≥ 1563) && decide (x ≤ 1567) || (decide (x ≥ 1642) && decide (x ≤ 1645) || (x == 1748 || (decide (x ≥ 8208) && decide (x ≤ 8286) || (x == 9676 || (decide (x ≥ 12289) && decide (x ≤ 12291) || (decide (x ≥ 12296) && decide (x ≤ 12319) || (decide (x ≥ 65281) && decide (x ≤ 65312) || (decide (x ≥ 65339) && decide (x ≤ 65344) || decide (x ≥ 65371) && decide (x ≤ 65381)))))))))))))))))))) (∃ (x1 : Int), int .i8 6 = int .i8 x1 ∧ x1 = kindR g ∧ w' = w) (∃ (x1 : Int), int .i8 8 = int .i8 x1 ∧ x1 = kindR g ∧ w' = w))))))))) :
    ((sRune .i8 kindR)).Ok Tryz.prog 54 := ok_of_vc (sRune .i8 kindR) (annOf spKnown) spKnown (fun _ _ => rfl) (fun _ _ => rfl) hsp Tryz.func54 rfl (n := 1) (fun _ => rfl) (by kernel_rfl) (vcast (by kernel_rfl) h)
theorem kinds_vc (hsp : SpecsOk Tryz.prog spFind) (h : ∀ (g : Int) (w : World), True → ∀ b w1, New w (Obj.cells #[int .i32 0, int .u8 0, int .i32 32, int .u8 5, int .i32 33, int .u8 6, int .i32 36, int .u8 7, int .i32 37, int .u8 6, int .i32 43, int .u8 7, int .i32 44, int .u8 6, int .i32 48, int .u8 4, int .i32 58, int .u8 6, int .i32 60, int .u8 7, int .i32 63, int .u8 6, int .i32 65, int .u8 3, int .i32 91, int .u8 6, int .i32 94, int .u8 7, int .i32 95, int .u8 6, int .i32 96, int .u8 7, int .i32 97, int .u8 3, int .i32 123, int .u8 6, int .i32 124, int .u8 7, int .i32 125, int .u8 6, int .i32 126, int .u8 7, int .i32 127, int .u8 0, int .i32 160, int .u8 5, int .i32 161, int .u8 6, int .i32 162, int .u8 7, int .i32 167, int .u8 6, int .i32 168, int .u8 7, int .i32 170, int .u8 3, int .i32 171, int .u8 6, int .i32 172, int .u8 7, int .i32 173, int .u8 1, int .i32 174, int .u8 7, int .i32 178, int .u8 6, int .i32 180, int .u8 7, int .i32 181, int .u8 3, int .i32 182, int .u8 6, int .i32 184, int .u8 7, int .i32 185, int .u8 6, int .i32 186, int .u8 3, int .i32 187, int .u8 6, int .i32 192, int .u8 3, int .i32 215, int .u8 7, int .i32 216, int .u8 3, int .i32 247, int .u8 7, int .i32 248, int .u8 3, int .i32 768, int .u8 2, int .i32 880, int .u8 3, int .i32 884, int .u8 8, int .i32 886, int .u8 3, int .i32 894, int .u8 6, int .i32 895, int .u8 3, int .i32 896, int .u8 8, int .i32 902, int .u8 3, int .i32 903, int .u8 6, int .i32 904, int .u8 3, int .i32 1154, int .u8 8, int .i32 1155, int .u8 2, int .i32 1162, int .u8 3, int .i32 1367, int .u8 8, int .i32 1377, int .u8 3, int .i32 1416, int .u8 8, int .i32 1417, int .u8 6, int .i32 1419, int .u8 8, int .i32 1425, int .u8 2, int .i32 1470, int .u8 6, int .i32 1471, int .u8 2, int .i32 1472, int .u8 6, int .i32 1473, int .u8 2, int .i32 1475, int .u8 6, int .i32 1476, int .u8 2, int .i32 1478, int .u8 6, int .i32 1479, int .u8 2, int .i32 1480, int .u8 8, int .i32 1488, int .u8 3, int .i32 1523, int .u8 6, int .i32 1525, int .u8 8, int .i32 1548, int .u8 6, int .i32 1550, int .u8 8, int .i32 1552, int .u8 2, int .i32 1563, int .u8 6, int .i32 1564, int .u8 1, int .i32 1565, int .u8 6, int .i32 1568, int .u8 3, int .i32 1611, int .u8 2, int .i32 1632, int .u8 4, int .i32 1642, int .u8 6, int .i32 1646, int .u8 3, int .i32 1648, int .u8 2, int .i32 1649, int .u8 3, int .i32 1748, int .u8 6, int .i32 1749, int .u8 3, int .i32 1750, int .u8 2, int .i32 1757, int .u8 3, int .i32 1759, int .u8 2, int .i32 1765, int .u8 3, int .i32 1767, int .u8 2, int .i32 1769, int .u8 3, int .i32 1770, int .u8 2, int .i32 1774, int .u8 3, int .i32 1776, int .u8 4, int .i32 1786, int .u8 3, int .i32 1789, int .u8 8, int .i32 3585, int .u8 3, int .i32 3633, int .u8 2, int .i32 3634, int .u8 3, int .i32 3636, int .u8 2, int .i32 3643, int .u8 3, int .i32 3655, int .u8 2, int .i32 3663, int .u8 8, int .i32 4256, int .u8 3, int .i32 4608, int .u8 8, int .i32 5760, int .u8 5, int .i32 5761,
 int .u8 8, int .i32 6832, int .u8 2, int .i32 6912, int .u8 8, int .i32 7616, int .u8 2, int .i32 7680, int .u8 3, int .i32 8192, int .u8 5, int .i32 8203, int .u8 1, int .i32 8208, int .u8 6, int .i32 8232, int .u8 5, int .i32 8234, int .u8 1, int .i32 8239, int .u8 5, int .i32 8240, int .u8 6, int .i32 8287, int .u8 5, int .i32 8288, int .u8 1, int .i32 8298, int .u8 8, int .i32 8352, int .u8 7, int .i32 8400, int .u8 2, int .i32 8448, int .u8 7, int .i32 9676, int .u8 6, int .i32 9677, int .u8 7, int .i32 11264, int .u8 3, int .i32 11744, int .u8 8, int .i32 12288, int .u8 5, int .i32 12289, int .u8 6, int .i32 12292, int .u8 8, int .i32 12293, int .u8 3, int .i32 12296, int .u8 6, int .i32 12320, int .u8 8, int .i32 12330, int .u8 2, int .i32 12334, int .u8 8, int .i32 12353, int .u8 3, int .i32 12441, int .u8 2, int .i32 12443, int .u8 3, int .i32 12544, int .u8 8, int .i32 12549, int .u8 3, int .i32 12687, int .u8 8, int .i32 13312, int .u8 3, int .i32 19904, int .u8 8, int .i32 19968, int .u8 3, int .i32 40960, int .u8 8, int .i32 44032, int .u8 3, int .i32 55204, int .u8 8, int .i32 63744, int .u8 3, int .i32 64256, int .u8 8, int .i32 64285, int .u8 3, int .i32 65020, int .u8 8, int .i32 65024, int .u8 2, int .i32 65040, int .u8 8, int .i32 65056, int .u8 2, int .i32 65072, int .u8 8, int .i32 65136, int .u8 3, int .i32 65277, int .u8 8, int .i32 65279, int .u8 1, int .i32 65280, int .u8 8, int .i32 65281, int .u8 6, int .i32 65296, int .u8 4, int .i32 65306, int .u8 6, int .i32 65313, int .u8 3, int .i32 65339, int .u8 6, int .i32 65345, int .u8 3, int .i32 65371, int .u8 6, int .i32 65382, int .u8 3, int .i32 65501, int .u8 8, int .i32 65532, int .u8 7, int .i32 65534, int .u8 8, int .i32 126976, int .u8 7, int .i32 129792, int .u8 8, int .i32 131072, int .u8 3, int .i32 262142, int .u8 8] 150) b w1 → ∃ (g1 : GFind), #[slice (some ⟨b, 0, none⟩) 181 181, int .i32 g] = #[slice (some ⟨g1.b, 0, none⟩) g1.T.length g1.T.length, int .i32 g1.r] ∧ (CellsT w1 g1.b g1.T ∧ 0 < g1.T.length ∧ g1.T.length ≤ 1000 ∧ boundsOk g1.T = true ∧ (g1.T.getD 0 ((0 : Int), (0 : Int))).fst = (0 : Int)) ∧ ∀ (x : Int × Int) w', FindOk g1.T (knownF g1.r) x.fst x.snd ∧ Ext w1 w' → ∃ (x1 : Int × Int), tuple #[int .u8 x.fst, int .i32 x.snd] = tuple #[int .u8 x1.fst, int .i32 x1.snd] ∧ FindOk kindT (knownF g) x1.fst x1.snd ∧ Ext w w') :
    ((sTab kindT)).Ok Tryz.prog 87 := ok_of_vc (sTab kindT) (annOf spFind) spFind (fun _ _ => rfl) (fun _ _ => rfl) hsp Tryz.func87 rfl (n := 1) (fun _ => rfl) (by kernel_rfl) (vcast (by kernel_rfl) h)
theorem ckind_vc (hsp : SpecsOk Tryz.prog spKind) (h : ∀ (g : Int) (w : World), True → ∃ (g1 : Int), #[int .i32 g] = #[int .i32 g1] ∧ True ∧ ∀ (x : Int × Int) w', FindOk kindT (knownF g1) x.fst x.snd ∧ Ext w w' → InR .i8 x.fst ∧ ∃ (x1 : Int), int .i8 x.fst = int .i8 x1 ∧ x1 = kindR g ∧ Ext w w') :
    ((sRuneX .i8 kindR)).Ok Tryz.prog 61 := ok_of_vc (sRuneX .i8 kindR) (annOf spKind) spKind (fun _ _ => rfl) (fun _ _ => rfl) hsp Tryz.func61 rfl (n := 1) (fun _ => rfl) (by kernel_rfl) (vcast (by kernel_rfl) h)
theorem rwid_vc (hsp : SpecsOk Tryz.prog spKnown) (h : ∀ (g : Int) (w : World), True → ∃ (g1 : Int), #[int .i32 g] = #[int .i32 g1] ∧ True ∧ ∀ (x : Int) w', x = knownF g1 ∧ w' = w → bcase (decide (x ≤ 31) || (decide (x ≥ 127) && decide (x ≤ 159) || (x == 173 || (x == 1564 || (decide (x ≥ 8203) && decide (x ≤ 8207) || (decide (x ≥ 8234) && decide (x ≤ 8238) || (decide (x ≥ 8288) && decide (x ≤ 8297) || (x == 65279 || (decide (x ≥ 768) && decide (x ≤ 879) || (decide (x ≥ 1155) && decide (x ≤ 1161) || (decide (x ≥ 1425) && decide (x ≤ 1469) || (x == 1471 || (decide (x ≥ 1473) && decide (x ≤ 1474) || (decide (x ≥ 1476) && decide (x ≤ 1477) || (x == 1479 || (decide (x ≥ 1552) && decide (x ≤ 1562) || (decide (x ≥ 1611) && decide (x ≤ 1631) || (x == 1648 || (decide (x ≥ 1750) && decide (x ≤ 1756) || (decide (x ≥ 1759) && decide (x ≤ 1764) || (decide (x ≥ 1767) && decide (x ≤ 1768) || (decide (x ≥ 1770) && decide (x ≤ 1773) || (x == 3633 || (decide (x ≥ 3636) && decide (x ≤ 3642) || (decide (x ≥ 3655) && decide (x ≤ 3662) || (decide (x ≥ 6832) && decide (x ≤ 6911) || (decide (x ≥ 7616) && decide (x ≤ 7679) || (decide (x ≥ 8400) && decide (x ≤ 8447) || (decide (x ≥ 12330) && decide (x ≤ 12333) || (decide (x ≥ 12441) && decide (x ≤ 12442) || (decide (x ≥ 65024) && decide (x ≤ 65039) || (decide (x ≥ 65056) && decide (x ≤ 65071) || decide (x ≥ 4448) && decide (x ≤ 4607))))))))))))))))))))))))))))))))) (∃ (x1 : Int), int .i64 0 = int .i64 x1 ∧ x1 = widR g ∧ w' = w) (bcase (decide (x ≥ 4352) && decide (x ≤ 4447) || (decide (x ≥ 8986) && decide (x ≤ 8987) || (decide (x ≥ 9001) && decide (x ≤ 9002) || (decide (x ≥ 9193) && decide (x ≤ 9203) || (decide (x ≥ 9748) && decide (x ≤ 9749) || (decide (x ≥ 9800) && decide (x ≤ 9811) || (decide (x ≥ 9917) && decide (x ≤ 9918) || (x == 9989 || (x == 10060 || (decide (x ≥ 10067) && decide (x ≤ 10071) || (decide (x ≥ 10133) && decide (x ≤ 10135) || (x == 11088 || (decide (x ≥ 11904) && decide (x ≤ 12350) || (decide (x ≥ 12353) && decide (x ≤ 19903) || (decide (x ≥ 19968) && decide (x ≤ 42191) || (decide (x ≥ 44032) && decide (x ≤ 55203) || (decide (x ≥ 63744) && decide (x ≤ 64255) || (decide (x ≥ 65072) && decide (x ≤ 65135) || (decide (x ≥ 65281) && decide (x ≤ 65376) || (decide (x ≥ 65504) && decide (x ≤ 65510) || (decide (x ≥ 127744) && decide (x ≤ 128591) || (decide (x ≥ 128640) && decide (x ≤ 128767) || (decide (x ≥ 129280) && decide (x ≤ 129791) || decide (x ≥ 131072) && decide (x ≤ 262141)))))))))))))))))))))))) (∃ (x1 : Int), int .i64 2 = int .i64 x1 ∧ x1 = widR g ∧ w' = w) (bcase (x == 161 || (x == 164 || (decide (x ≥ 167) && decide (x ≤ 168) || (x == 174 || (decide (x ≥ 176) && decide (x ≤ 180) || (decide (x ≥ 182) && decide (x ≤ 186) || (decide (x ≥ 188) && decide (x ≤ 191) || (x == 215 || (x == 247 || (decide (x ≥ 913) && decide (x ≤ 937) || (decide (x ≥ 945) && decide (x ≤ 969) || (decide (x ≥ 1040) && decide (x ≤ 1103) || (decide (x ≥ 8208) && decide (x ≤ 8214) || (decide (x ≥ 8216) && decide (x ≤ 8221) ||
 (decide (x ≥ 8224) && decide (x ≤ 8231) || (decide (x ≥ 8240) && decide (x ≤ 8251) || (decide (x ≥ 8592) && decide (x ≤ 8601) || (decide (x ≥ 8704) && decide (x ≤ 8959) || (decide (x ≥ 9312) && decide (x ≤ 9450) || (decide (x ≥ 9472) && decide (x ≤ 9675) || (decide (x ≥ 9677) && decide (x ≤ 9681) || (decide (x ≥ 9733) && decide (x ≤ 9734) || (decide (x ≥ 9824) && decide (x ≤ 9831) || decide (x ≥ 57344) && decide (x ≤ 63743)))))))))))))))))))))))) (∃ (x1 : Int), int .i64 3 = int .i64 x1 ∧ x1 = widR g ∧ w' = w) (∃ (x1 : Int), int .i64 1 = int .i64 x1 ∧ x1 = widR g ∧ w' = w)))) :
    ((sRune .i64 widR)).Ok Tryz.prog 129 := ok_of_vc (sRune .i64 widR) (annOf spKnown) spKnown (fun _ _ => rfl) (fun _ _ => rfl) hsp Tryz.func129 rfl (n := 1) (fun _ => rfl) (by kernel_rfl) (vcast (by kernel_rfl) h)
theorem wids_vc (hsp : SpecsOk Tryz.prog spFind) (h : ∀ (g : Int) (w : World), True → ∀ b w1, New w (Obj.cells #[int .i32 0, int .u8 0, int .i32 32, int .u8 1, int .i32 127, int .u8 0, int .i32 160, int .u8 1, int .i32 161, int .u8 3, int .i32 162, int .u8 1, int .i32 164, int .u8 3, int .i32 165, int .u8 1, int .i32 167, int .u8 3, int .i32 169, int .u8 1, int .i32 173, int .u8 0, int .i32 174, int .u8 3, int .i32 175, int .u8 1, int .i32 176, int .u8 3, int .i32 181, int .u8 1, int .i32 182, int .u8 3, int .i32 187, int .u8 1, int .i32 188, int .u8 3, int .i32 192, int .u8 1, int .i32 215, int .u8 3, int .i32 216, int .u8 1, int .i32 247, int .u8 3, int .i32 248, int .u8 1, int .i32 768, int .u8 0, int .i32 880, int .u8 1, int .i32 913, int .u8 3, int .i32 938, int .u8 1, int .i32 945, int .u8 3, int .i32 970, int .u8 1, int .i32 1040, int .u8 3, int .i32 1104, int .u8 1, int .i32 1155, int .u8 0, int .i32 1162, int .u8 1, int .i32 1425, int .u8 0, int .i32 1470, int .u8 1, int .i32 1471, int .u8 0, int .i32 1472, int .u8 1, int .i32 1473, int .u8 0, int .i32 1475, int .u8 1, int .i32 1476, int .u8 0, int .i32 1478, int .u8 1, int .i32 1479, int .u8 0, int .i32 1480, int .u8 1, int .i32 1552, int .u8 0, int .i32 1563, int .u8 1, int .i32 1564, int .u8 0, int .i32 1565, int .u8 1, int .i32 1611, int .u8 0, int .i32 1632, int .u8 1, int .i32 1648, int .u8 0, int .i32 1649, int .u8 1, int .i32 1750, int .u8 0, int .i32 1757, int .u8 1, int .i32 1759, int .u8 0, int .i32 1765, int .u8 1, int .i32 1767, int .u8 0, int .i32 1769, int .u8 1, int .i32 1770, int .u8 0, int .i32 1774, int .u8 1, int .i32 3633, int .u8 0, int .i32 3634, int .u8 1, int .i32 3636, int .u8 0, int .i32 3643, int .u8 1, int .i32 3655, int .u8 0, int .i32 3663, int .u8 1, int .i32 4352, int .u8 2, int .i32 4448, int .u8 0, int .i32 4608, int .u8 1, int .i32 6832, int .u8 0, int .i32 6912, int .u8 1, int .i32 7616, int .u8 0, int .i32 7680, int .u8 1, int .i32 8203, int .u8 0, int .i32 8208, int .u8 3, int .i32 8215, int .u8 1, int .i32 8216, int .u8 3, int .i32 8222, int .u8 1, int .i32 8224, int .u8 3, int .i32 8232, int .u8 1, int .i32 8234, int .u8 0, int .i32 8239, int .u8 1, int .i32 8240, int .u8 3, int .i32 8252, int .u8 1, int .i32 8288, int .u8 0, int .i32 8298, int .u8 1, int .i32 8400, int .u8 0, int .i32 8448, int .u8 1, int .i32 8592, int .u8 3, int .i32 8602, int .u8 1, int .i32 8704, int .u8 3, int .i32 8960, int .u8 1, int .i32 8986, int .u8 2, int .i32 8988, int .u8 1, int .i32 9001, int .u8 2, int .i32 9003, int .u8 1, int .i32 9193, int .u8 2, int .i32 9204, int .u8 1, int .i32 9312, int .u8 3, int .i32 9451, int .u8 1, int .i32 9472, int .u8 3, int .i32 9676, int .u8 1, int .i32 9677, int .u8 3, int .i32 9682, int .u8 1, int .i32 9733, int .u8 3, int .i32 9735, int .u8 1, int .i32 9748, int .u8 2, int .i32 9750, int .u8 1, int .i32 9800, int .u8 2, int .i32 9812, int .u8 1, int .i32 9824, int .u8 3, int .i32 9832, int .u8 1,
 int .i32 9917, int .u8 2, int .i32 9919, int .u8 1, int .i32 9989, int .u8 2, int .i32 9990, int .u8 1, int .i32 10060, int .u8 2, int .i32 10061, int .u8 1, int .i32 10067, int .u8 2, int .i32 10072, int .u8 1, int .i32 10133, int .u8 2, int .i32 10136, int .u8 1, int .i32 11088, int .u8 2, int .i32 11089, int .u8 1, int .i32 11904, int .u8 2, int .i32 12330, int .u8 0, int .i32 12334, int .u8 2, int .i32 12351, int .u8 1, int .i32 12353, int .u8 2, int .i32 12441, int .u8 0, int .i32 12443, int .u8 2, int .i32 19904, int .u8 1, int .i32 19968, int .u8 2, int .i32 42192, int .u8 1, int .i32 44032, int .u8 2, int .i32 55204, int .u8 1, int .i32 57344, int .u8 3, int .i32 63744, int .u8 2, int .i32 64256, int .u8 1, int .i32 65024, int .u8 0, int .i32 65040, int .u8 1, int .i32 65056, int .u8 0, int .i32 65072, int .u8 2, int .i32 65136, int .u8 1, int .i32 65279, int .u8 0, int .i32 65280, int .u8 1, int .i32 65281, int .u8 2, int .i32 65377, int .u8 1, int .i32 65504, int .u8 2, int .i32 65511, int .u8 1, int .i32 127744, int .u8 2, int .i32 128592, int .u8 1, int .i32 128640, int .u8 2, int .i32 128768, int .u8 1, int .i32 129280, int .u8 2, int .i32 129792, int .u8 1, int .i32 131072, int .u8 2, int .i32 262142, int .u8 1] 181) b w1 → ∃ (g1 : GFind), #[slice (some ⟨b, 0, none⟩) 157 157, int .i32 g] = #[slice (some ⟨g1.b, 0, none⟩) g1.T.length g1.T.length, int .i32 g1.r] ∧ (CellsT w1 g1.b g1.T ∧ 0 < g1.T.length ∧ g1.T.length ≤ 1000 ∧ boundsOk g1.T = true ∧ (g1.T.getD 0 ((0 : Int), (0 : Int))).fst = (0 : Int)) ∧ ∀ (x : Int × Int) w', FindOk g1.T (knownF g1.r) x.fst x.snd ∧ Ext w1 w' → ∃ (x1 : Int × Int), tuple #[int .u8 x.fst, int .i32 x.snd] = tuple #[int .u8 x1.fst, int .i32 x1.snd] ∧ FindOk widT (knownF g) x1.fst x1.snd ∧ Ext w w') :
    ((sTab widT)).Ok Tryz.prog 125 := ok_of_vc (sTab widT) (annOf spFind) spFind (fun _ _ => rfl) (fun _ _ => rfl) hsp Tryz.func125 rfl (n := 1) (fun _ => rfl) (by kernel_rfl) (vcast (by kernel_rfl) h)
theorem rwide_vc (hsp : SpecsOk Tryz.prog spCol) (h : ∀ (g : Int × Bool) (w : World), True → ∃ (g1 : Int), #[int .i32 g.fst] = #[int .i32 g1] ∧ True ∧ ∀ (x : Int) w', x = widR g1 ∧ w' = w → bcase (x == 3) (bcase g.snd (∃ (x1 : Int), int .i64 2 = int .i64 x1 ∧ x1 = wideR g.fst g.snd ∧ w' = w) (∃ (x1 : Int), int .i64 1 = int .i64 x1 ∧ x1 = wideR g.fst g.snd ∧ w' = w)) (∃ (x1 : Int), int .i64 x = int .i64 x1 ∧ x1 = wideR g.fst g.snd ∧ w' = w)) :
    ((sWide (fun w w' => w' = w))).Ok Tryz.prog 109 := ok_of_vc (sWide (fun w w' => w' = w)) (annOf spCol) spCol (fun _ _ => rfl) (fun _ _ => rfl) hsp Tryz.func109 rfl (n := 2) (fun _ => rfl) (by kernel_rfl) (vcast (by kernel_rfl) h)
theorem cwide_vc (hsp : SpecsOk Tryz.prog spWid) (h : ∀ (g : Int × Bool) (w : World), True → ∃ (g1 : Int), #[int .i32 g.fst] = #[int .i32 g1] ∧ True ∧ ∀ (x : Int × Int) w', FindOk widT (knownF g1) x.fst x.snd ∧ Ext w w' → bcase (decide (x.fst < 3)) (InR .i64 x.fst ∧ ∃ (x1 : Int), int .i64 x.fst = int .i64 x1 ∧ x1 = wideR g.fst g.snd ∧ Ext w w') (bcase g.snd (∃ (x1 : Int), int .i64 2 = int .i64 x1 ∧ x1 = wideR g.fst g.snd ∧ Ext w w') (∃ (x1 : Int), int .i64 1 = int .i64 x1 ∧ x1 = wideR g.fst g.snd ∧ Ext w w'))) :
    ((sWide (fun w w' => Ext w w'))).Ok Tryz.prog 100 := ok_of_vc (sWide (fun w w' => Ext w w')) (annOf spWid) spWid (fun _ _ => rfl) (fun _ _ => rfl) hsp Tryz.func100 rfl (n := 2) (fun _ => rfl) (by kernel_rfl) (vcast (by kernel_rfl) h)
end

section
open Go Go.RowKit Vc Tb Cl
theorem known_ok : (sRune .i32 knownF).Ok Tryz.prog 81 := by
  refine known_vc trivial ?_
  intro g w _
  refine bcase_mk (fun h => ⟨_, rfl, ?_, rfl⟩) (fun h => ⟨_, rfl, ?_, rfl⟩)
  · unfold knownF; rw [h]
  · unfold knownF; rw [h]
def chainC (L : List (List RC × Int)) (K : Int → Prop) (d x : Int) : Prop := match L with
  | [] => K d
  | (c, v) :: l => bcase (anyC c x) (K v) (chainC l K d x)
theorem chainC_mk {L : List (List RC × Int)} {K : Int → Prop} {d x : Int} (h : K (lookC L d x)) : chainC L K d x := by
  induction L with
  | nil => exact h
  | cons p l ih =>
    obtain ⟨c, v⟩ := p
    simp only [lookC] at h
    simp only [chainC]
    cases hb : anyC c x with
    | true => rw [hb] at h; exact h
    | false => rw [hb] at h; exact ih h
theorem bounds_at {T : List (Int × Int)} (h : boundsOk T = true) (j : Nat) : 0 ≤ (T.getD j (0, 0)).1 ∧ (T.getD j (0, 0)).1 ≤ 1114111 ∧ 0 ≤ (T.getD j (0, 0)).2 ∧ (T.getD j (0, 0)).2 ≤ 255 := by
  by_cases hj : j < T.length
  · have h1 := List.all_eq_true.1 h T[j] (List.getElem_mem hj)
    simp only [Bool.and_eq_true, decide_eq_true_eq] at h1
    rw [List.getD_eq_getElem?_getD, List.getElem?_eq_getElem hj]
    exact ⟨h1.1.1.1, h1.1.1.2, h1.1.2, h1.2⟩
  · rw [List.getD_eq_getElem?_getD, List.getElem?_eq_none (by omega)]
    simp
theorem find_ok : sFind.Ok Tryz.prog 115 := by
  refine find_vc trivial ?_
  rintro ⟨b, T, r⟩ w ⟨hc, hpos, hlen, hbd, h0⟩
  have hk := knownF_bd r
  dsimp only at hc hpos hlen hbd h0 ⊢
  refine ⟨bcase_mk (fun h => ⟨(), ?_, rfl⟩) (fun h => ⟨(), ?_, rfl⟩), ?_⟩
  · unfold knownF; rw [h]
  · unfold knownF; rw [h]
  generalize knownF r = q at hk ⊢
  rintro _ _ w' rfl
  refine ⟨⟨(0, T.length), rfl, rfl, hpos, Nat.le_refl _, by rw [h0]; exact hk.1, .inl rfl, rfl⟩, ?_⟩
  rintro _ ⟨lo, hi⟩ w2 ⟨h1, h2, h3, h4, rfl⟩
  dsimp only at h1 h2 h3 h4 ⊢
  refine ⟨inr_i64 (by omega) (by omega), bcase_mk (fun h => ?_) (fun h => ?_)⟩
  · simp only [gt_iff_lt, decide_eq_true_eq] at h
    refine ⟨inr_i64 (by omega) (by omega), by omega, by omega, inr_i64 (by omega) (by omega), (lo + hi) / 2, by omega, by omega, ?_⟩
    have hm : (lo + hi) / 2 < T.length := by omega
    refine ⟨_, (hc _ hm).1, bcase_mk (fun h => ?_) (fun h => ?_)⟩
    · simp only [gt_iff_lt, decide_eq_true_eq] at h
      exact ⟨(lo, (lo + hi) / 2), rfl, by simp, ⟨by dsimp only; omega, by dsimp only; omega, h3, .inr h, rfl⟩, by dsimp only; omega⟩
    · simp only [gt_iff_lt, decide_eq_false_iff_not] at h
      exact ⟨((lo + hi) / 2, hi), by simp, rfl, ⟨by dsimp only; omega, by dsimp only; omega, Int.not_lt.1 h, h4, rfl⟩, by dsimp only; omega⟩
  · simp only [gt_iff_lt, decide_eq_false_iff_not] at h
    have hlo : lo < T.length := by omega
    have hhi : hi = lo + 1 := by omega
    subst hhi
    refine bcase_mk (fun h => ?_) (fun h => ?_)
    · simp only [decide_eq_true_eq] at h
      have hh : lo + 1 < T.length := by omega
      have hb := bounds_at hbd (lo + 1)
      refine fun w3 hw3 => ⟨lo, rfl, hlo, _, (hc _ hlo).2, lo + 1, rfl, hh, _, (hc _ hh).1, inr_i32 (by omega) (by omega), (_, _), rfl, ⟨lo, hlo, h3, rfl, .inr ⟨hh, ?_, rfl⟩⟩, hw3.ext⟩
      rcases h4 with h4 | h4
      · omega
      · exact h4
    · simp only [decide_eq_false_iff_not] at h
      refine ⟨lo, rfl, hlo, _, (hc _ hlo).2, (_, _), rfl, ⟨lo, hlo, h3, rfl, .inl ⟨by omega, rfl⟩⟩, Ext.refl _⟩
def tblCells (T : List (Int × Int)) : List Value := match T with
  | [] => []
  | (a, v) :: r => .int .i32 a :: .int .u8 v :: tblCells r
theorem tblCells_at {T : List (Int × Int)} {j : Nat} (hj : j < T.length) : (tblCells T)[j * 2]? = some (.int .i32 (T.getD j (0, 0)).1) ∧ (tblCells T)[j * 2 + 1]? = some (.int .u8 (T.getD j (0, 0)).2) := by
  induction T generalizing j with
  | nil => simp at hj
  | cons p r ih =>
    obtain ⟨a, v⟩ := p
    cases j with
    | zero => simp [tblCells]
    | succ j =>
      have := ih (j := j) (by simpa using hj)
      rw [show (j + 1) * 2 = j * 2 + 1 + 1 from by omega]
      simpa [tblCells] using this
theorem tbl_new {w w1 : World} {T : List (Int × Int)} {e : TypeId} {b : Nat} {cs : Array Value} (h : New w (.cells cs e) b w1) (hcs : cs.toList = tblCells T) : CellsT w1 b T := by
  intro j hj
  have := tblCells_at hj
  rw [← hcs] at this
  constructor
  · rw [h.cell, Nat.zero_add, ← Array.getElem?_toList]; exact this.1
  · rw [h.cell, Nat.zero_add, ← Array.getElem?_toList]; exact this.2
theorem small_val {T : List (Int × Int)} {r u t : Int} (hs : smallOk T = true) (h : FindOk T r u t) : 0 ≤ u ∧ u ≤ 127 := by
  obtain ⟨j, h1, _, rfl, _⟩ := h
  have h2 := List.all_eq_true.1 hs T[j] (List.getElem_mem h1)
  simp only [Bool.and_eq_true, decide_eq_true_eq] at h2
  rw [List.getD_eq_getElem?_getD, List.getElem?_eq_getElem h1]
  exact h2
set_option maxRecDepth 20000 in
theorem rkind_ok : (sRune .i8 kindR).Ok Tryz.prog 54 := by
  refine rkind_vc ⟨known_ok, trivial⟩ ?_
  intro g w _
  refine ⟨g, rfl, trivial, ?_⟩
  rintro x w' ⟨rfl, rfl⟩
  exact chainC_mk (L := kindL) (d := kindD) (K := fun v => ∃ x1 : Int, Value.int .i8 v = Value.int .i8 x1 ∧ x1 = kindR g ∧ w' = w') ⟨_, rfl, rfl, rfl⟩
set_option maxRecDepth 20000 in
theorem kinds_ok : (sTab kindT).Ok Tryz.prog 87 := by
  refine kinds_vc ⟨find_ok, trivial⟩ ?_
  intro g w _ b w1 hn
  refine ⟨⟨b, kindT, g⟩, rfl, ⟨tbl_new hn rfl, (by decide +kernel : 0 < kindT.length), (by decide +kernel : kindT.length ≤ 1000), (by decide +kernel : boundsOk kindT = true), rfl⟩, ?_⟩
  rintro ⟨u, t⟩ w2 ⟨h1, h2⟩
  exact ⟨(u, t), rfl, h1, hn.ext.trans h2⟩
set_option maxRecDepth 20000 in
theorem rwid_ok : (sRune .i64 widR).Ok Tryz.prog 129 := by
  refine rwid_vc ⟨known_ok, trivial⟩ ?_
  intro g w _
  refine ⟨g, rfl, trivial, ?_⟩
  rintro x w' ⟨rfl, rfl⟩
  exact chainC_mk (L := widL) (d := widD) (K := fun v => ∃ x1 : Int, Value.int .i64 v = Value.int .i64 x1 ∧ x1 = widR g ∧ w' = w') ⟨_, rfl, rfl, rfl⟩
set_option maxRecDepth 20000 in
theorem wids_ok : (sTab widT).Ok Tryz.prog 125 := by
  refine wids_vc ⟨find_ok, trivial⟩ ?_
  intro g w _ b w1 hn
  refine ⟨⟨b, widT, g⟩, rfl, ⟨tbl_new hn rfl, (by decide +kernel : 0 < widT.length), (by decide +kernel : widT.length ≤ 1000), (by decide +kernel : boundsOk widT = true), rfl⟩, ?_⟩
  rintro ⟨u, t⟩ w2 ⟨h1, h2⟩
  exact ⟨(u, t), rfl, h1, hn.ext.trans h2⟩
theorem ckind_ok : (sRuneX .i8 kindR).Ok Tryz.prog 61 := by
  refine ckind_vc ⟨kinds_ok, trivial⟩ ?_
  intro g w _
  refine ⟨g, rfl, trivial, ?_⟩
  rintro ⟨u, t⟩ w' ⟨h1, h2⟩
  have hs := small_val (by decide +kernel) h1
  exact ⟨inr_i8 (by dsimp only at hs ⊢; omega) (by dsimp only at hs ⊢; omega), u, rfl, h1.val kind_agree, h2⟩
theorem wid_small {r u t : Int} (h : FindOk widT (knownF r) u t) : 0 ≤ u ∧ u ≤ 3 := by
  obtain ⟨j, h1, _, rfl, _⟩ := h
  have h2 : widT.all (fun p => decide (0 ≤ p.2) && decide (p.2 ≤ 3)) = true := by decide +kernel
  have h3 := List.all_eq_true.1 h2 widT[j] (List.getElem_mem h1)
  simp only [Bool.and_eq_true, decide_eq_true_eq] at h3
  rw [List.getD_eq_getElem?_getD, List.getElem?_eq_getElem h1]
  exact h3
theorem rwide_ok : (sWide (fun w w' => w' = w)).Ok Tryz.prog 109 := by
  refine rwide_vc ⟨rwid_ok, trivial⟩ ?_
  rintro ⟨r, b⟩ w _
  refine ⟨r, rfl, trivial, ?_⟩
  rintro x w' ⟨rfl, rfl⟩
  have hd : widR r = 0 ∨ widR r = 1 ∨ widR r = 2 ∨ widR r = 3 := by
    have h2 : (widL.all (fun p => decide (p.2 = 0 ∨ p.2 = 1 ∨ p.2 = 2 ∨ p.2 = 3))) = true := by decide +kernel
    have : ∀ (l : List (List RC × Int)) (q : Int), l.all (fun p => decide (p.2 = 0 ∨ p.2 = 1 ∨ p.2 = 2 ∨ p.2 = 3)) = true → lookC l 1 q = 0 ∨ lookC l 1 q = 1 ∨ lookC l 1 q = 2 ∨ lookC l 1 q = 3 := by
      intro l q hl
      induction l with
      | nil => simp [lookC]
      | cons p l ih =>
        obtain ⟨c, v⟩ := p
        simp only [List.all_cons, Bool.and_eq_true, decide_eq_true_eq] at hl
        simp only [lookC]
        split
        · exact hl.1
        · exact ih hl.2
    exact this widL (knownF r) h2
  refine bcase_mk (fun h => ?_) (fun h => ⟨_, rfl, ?_, rfl⟩)
  · have h3 : widR r = 3 := by simpa using h
    refine bcase_mk (fun hb => ⟨_, rfl, ?_, rfl⟩) (fun hb => ⟨_, rfl, ?_, rfl⟩)
    · have hb : b = true := hb
      show _ = wideR r b
      unfold wideR; rw [h3, hb]; rfl
    · have hb : b = false := hb
      show _ = wideR r b
      unfold wideR; rw [h3, hb]; rfl
  · have h3 : widR r ≠ 3 := by simpa using h
    show _ = wideR r b
    unfold wideR; rw [if_pos (by omega)]
theorem cwide_ok : (sWide (fun w w' => Ext w w')).Ok Tryz.prog 100 := by
  refine cwide_vc ⟨wids_ok, trivial⟩ ?_
  rintro ⟨r, b⟩ w _
  refine ⟨r, rfl, trivial, ?_⟩
  rintro ⟨u, t⟩ w' ⟨h1, h2⟩
  have hs := wid_small h1
  have hv : u = widR r := h1.val wid_agree
  dsimp only at hs ⊢
  refine bcase_mk (fun h => ?_) (fun h => ?_)
  · have h : u < 3 := by simpa using h
    exact ⟨inr_i64 (by omega) (by omega), _, rfl, by show _ = wideR r b; unfold wideR; rw [← hv, if_pos h], h2⟩
  · have h : ¬ u < 3 := by simpa using h
    refine bcase_mk (fun hb => ⟨_, rfl, ?_, h2⟩) (fun hb => ⟨_, rfl, ?_, h2⟩)
    · have hb : b = true := hb
      show _ = wideR r b
      unfold wideR; rw [← hv, if_neg h, hb]; rfl
    · have hb : b = false := hb
      show _ = wideR r b
      unfold wideR; rw [← hv, if_neg h, hb]; rfl
end

section
set_option linter.unusedVariables false
open Go Go.RowKit Vc Ut Tb Cl
open Value
set_option maxRecDepth 1000000
theorem cnext_vc (hsp : SpecsOk Tryz.prog spCNext) (h : ∀ (g : ByteArray) (w : World), U8 w ∧ g.size ≤ 67108864 → (∃ (g1 : ByteArray), #[string g] = #[string g1] ∧ (U8 w ∧ g1.size ≤ 67108864) ∧ ∀ (x : Int × Nat) w', x.fst = nxR g1 ∧ x.snd = nxN g1 ∧ Ext w w' → bcase (g.toList == (ByteArray.mk #[]).toList) (∃ (x1 : Nat), int .i64 0 = int .i64 (x1 : Int) ∧ x1 = nextL g ∧ Ext w w') (bcase (x.fst == 65533) (bcase ((x.snd : Int) == 1) (∃ (y : Unit), int .i32 x.fst = int .i32 (sg g 0) ∧ int .i64 (x.snd : Int) = int .i64 (↑(pos g (1 : Nat)) : Int) ∧ 0 < g.size ∧ (isBad g 0 = true ∨ aloneB (sg g 0) = true) ∧ Ext w w') (∃ (g2 : Int), #[int .i32 x.fst] = #[int .i32 g2] ∧ True ∧ ∀ (x1 : Bool) w'1, x1 = aloneB g2 ∧ Ext w' w'1 → bcase x1 (∃ (y : Unit), int .i32 x.fst = int .i32 (sg g 0) ∧ int .i64 (x.snd : Int) = int .i64 (↑(pos g (1 : Nat)) : Int) ∧ 0 < g.size ∧ (isBad g 0 = true ∨ aloneB (sg g 0) = true) ∧ Ext w w'1) (∃ (k : Nat), (x.snd : Int) = (k : Int) ∧ k ≤ g.size ∧ g.size ≤ g.size ∧ ∃ (g3 : ByteArray), #[string (g.extract k g.size)] = #[string g3] ∧ (U8 w'1 ∧ g3.size ≤ 67108864) ∧ ∀ (x2 : Int × Nat) w'2, x2.fst = nxR g3 ∧ x2.snd = nxN g3 ∧ Ext w'1 w'2 → bcase ((x.snd : Int) == (g.size : Int) || x2.fst == 65533 && (x2.snd : Int) == 1) (∃ (x3 : Nat), int .i64 (x.snd : Int) = int .i64 (x3 : Int) ∧ x3 = nextL g ∧ Ext w w'2) (∃ (g4 : Int), #[int .i32 x2.fst] = #[int .i32 g4] ∧ True ∧ ∀ (x3 : Int) w'3, x3 = kindR g4 ∧ Ext w'2 w'3 → bcase (x3 == 2) (bcase (x3 == 2) (∃ (c : Nat), (1 : Int) = (c : Int) ∧ goB g 0 c = true ∧ Ext w'2 w'3) (∃ (g5 : Int), #[int .i32 x.fst] = #[int .i32 g5] ∧ True ∧ ∀ (x4 : Bool) w'4, x4 = regB g5 ∧ Ext w'3 w'4 → bcase x4 (∃ (g6 : Int), #[int .i32 x2.fst] = #[int .i32 g6] ∧ True ∧ ∀ (x5 : Bool) w'5, x5 = regB g6 ∧ Ext w'4 w'5 → bcase x5 (∃ (c : Nat), (1 : Int) = (c : Int) ∧ goB g 0 c = true ∧ Ext w'2 w'5) (bcase (x.fst == 8205) (∃ (g7 : Int), #[int .i32 x.fst] = #[int .i32 g7] ∧ True ∧ ∀ (x6 : Bool) w'6, x6 = picB g7 ∧ Ext w'5 w'6 → bcase x6 (∃ (g8 : Int), #[int .i32 x2.fst] = #[int .i32 g8] ∧ True ∧ ∀ (x7 : Bool) w'7, x7 = picB g8 ∧ Ext w'6 w'7 → bcase x7 (∃ (c : Nat), (1 : Int) = (c : Int) ∧ goB g 0 c = true ∧ Ext w'2 w'7) (∃ (g9 : Int × Int), #[int .i32 x.fst, int .i32 x2.fst] = #[int .i32 g9.fst, int .i32 g9.snd] ∧ True ∧ ∀ (x8 : Bool) w'8, x8 = sylB g9.fst g9.snd ∧ Ext w'7 w'8 → bcase x8 (∃ (c : Nat), (1 : Int) = (c : Int) ∧ goB g 0 c = true ∧ Ext w'2 w'8) (∃ (x9 : Nat), int .i64 (x.snd : Int) = int .i64 (x9 : Int) ∧ x9 = nextL g ∧ Ext w w'8))) (∃ (g8 : Int × Int), #[int .i32 x.fst, int .i32 x2.fst] = #[int .i32 g8.fst, int .i32 g8.snd] ∧ True ∧ ∀ (x7 : Bool) w'7, x7 = sylB g8.fst g8.snd ∧ Ext w'6 w'7 → bcase x7 (∃ (c : Nat), (1 : Int) = (c : Int) ∧ goB g 0 c = true ∧ Ext w'2 w'7) (∃ (x8 : Nat), int .i64 (x.snd : Int) = int .i64 (x8 : Int) ∧ x8 = nextL g ∧ Ext w w'7))) (∃ (g7 : Int × Int), #[int .i32 x.fst, int .i32 x2.fst] = #[int .i32 g7.fst, int .i32 g7.snd] ∧ True ∧ ∀ (x6 : Bool) w'6, x6 = sylB g7.fst g7.snd ∧ Ext w'5 w'6 →
 bcase x6 (∃ (c : Nat), (1 : Int) = (c : Int) ∧ goB g 0 c = true ∧ Ext w'2 w'6) (∃ (x7 : Nat), int .i64 (x.snd : Int) = int .i64 (x7 : Int) ∧ x7 = nextL g ∧ Ext w w'6)))) (bcase (x.fst == 8205) (∃ (g6 : Int), #[int .i32 x.fst] = #[int .i32 g6] ∧ True ∧ ∀ (x5 : Bool) w'5, x5 = picB g6 ∧ Ext w'4 w'5 → bcase x5 (∃ (g7 : Int), #[int .i32 x2.fst] = #[int .i32 g7] ∧ True ∧ ∀ (x6 : Bool) w'6, x6 = picB g7 ∧ Ext w'5 w'6 → bcase x6 (∃ (c : Nat), (1 : Int) = (c : Int) ∧ goB g 0 c = true ∧ Ext w'2 w'6) (∃ (g8 : Int × Int), #[int .i32 x.fst, int .i32 x2.fst] = #[int .i32 g8.fst, int .i32 g8.snd] ∧ True ∧ ∀ (x7 : Bool) w'7, x7 = sylB g8.fst g8.snd ∧ Ext w'6 w'7 → bcase x7 (∃ (c : Nat), (1 : Int) = (c : Int) ∧ goB g 0 c = true ∧ Ext w'2 w'7) (∃ (x8 : Nat), int .i64 (x.snd : Int) = int .i64 (x8 : Int) ∧ x8 = nextL g ∧ Ext w w'7))) (∃ (g7 : Int × Int), #[int .i32 x.fst, int .i32 x2.fst] = #[int .i32 g7.fst, int .i32 g7.snd] ∧ True ∧ ∀ (x6 : Bool) w'6, x6 = sylB g7.fst g7.snd ∧ Ext w'5 w'6 → bcase x6 (∃ (c : Nat), (1 : Int) = (c : Int) ∧ goB g 0 c = true ∧ Ext w'2 w'6) (∃ (x7 : Nat), int .i64 (x.snd : Int) = int .i64 (x7 : Int) ∧ x7 = nextL g ∧ Ext w w'6))) (∃ (g6 : Int × Int), #[int .i32 x.fst, int .i32 x2.fst] = #[int .i32 g6.fst, int .i32 g6.snd] ∧ True ∧ ∀ (x5 : Bool) w'5, x5 = sylB g6.fst g6.snd ∧ Ext w'4 w'5 → bcase x5 (∃ (c : Nat), (1 : Int) = (c : Int) ∧ goB g 0 c = true ∧ Ext w'2 w'5) (∃ (x6 : Nat), int .i64 (x.snd : Int) = int .i64 (x6 : Int) ∧ x6 = nextL g ∧ Ext w w'5))))) (∃ (g5 : Int), #[int .i32 x2.fst] = #[int .i32 g5] ∧ True ∧ ∀ (x4 : Bool) w'4, x4 = joinB g5 ∧ Ext w'3 w'4 → bcase x4 (∃ (c : Nat), (1 : Int) = (c : Int) ∧ goB g 0 c = true ∧ Ext w'2 w'4) (∃ (g6 : Int), #[int .i32 x.fst] = #[int .i32 g6] ∧ True ∧ ∀ (x5 : Bool) w'5, x5 = regB g6 ∧ Ext w'4 w'5 → bcase x5 (∃ (g7 : Int), #[int .i32 x2.fst] = #[int .i32 g7] ∧ True ∧ ∀ (x6 : Bool) w'6, x6 = regB g7 ∧ Ext w'5 w'6 → bcase x6 (∃ (c : Nat), (1 : Int) = (c : Int) ∧ goB g 0 c = true ∧ Ext w'2 w'6) (bcase (x.fst == 8205) (∃ (g8 : Int), #[int .i32 x.fst] = #[int .i32 g8] ∧ True ∧ ∀ (x7 : Bool) w'7, x7 = picB g8 ∧ Ext w'6 w'7 → bcase x7 (∃ (g9 : Int), #[int .i32 x2.fst] = #[int .i32 g9] ∧ True ∧ ∀ (x8 : Bool) w'8, x8 = picB g9 ∧ Ext w'7 w'8 → bcase x8 (∃ (c : Nat), (1 : Int) = (c : Int) ∧ goB g 0 c = true ∧ Ext w'2 w'8) (∃ (g10 : Int × Int), #[int .i32 x.fst, int .i32 x2.fst] = #[int .i32 g10.fst, int .i32 g10.snd] ∧ True ∧ ∀ (x9 : Bool) w'9, x9 = sylB g10.fst g10.snd ∧ Ext w'8 w'9 → bcase x9 (∃ (c : Nat), (1 : Int) = (c : Int) ∧ goB g 0 c = true ∧ Ext w'2 w'9) (∃ (x10 : Nat), int .i64 (x.snd : Int) = int .i64 (x10 : Int) ∧ x10 = nextL g ∧ Ext w w'9))) (∃ (g9 : Int × Int), #[int .i32 x.fst, int .i32 x2.fst] = #[int .i32 g9.fst, int .i32 g9.snd] ∧ True ∧ ∀ (x8 : Bool) w'8, x8 = sylB g9.fst g9.snd ∧ Ext w'7 w'8 → bcase x8 (∃ (c : Nat), (1 : Int) = (c : Int) ∧ goB g 0 c = true ∧ Ext w'2 w'8) (∃ (x9 : Nat), int .i64 (x.snd : Int) = int .i64 (x9 : Int) ∧ x9 = nextL g ∧ Ext w w'8))) (∃ (g8 : Int × Int),
 #[int .i32 x.fst, int .i32 x2.fst] = #[int .i32 g8.fst, int .i32 g8.snd] ∧ True ∧ ∀ (x7 : Bool) w'7, x7 = sylB g8.fst g8.snd ∧ Ext w'6 w'7 → bcase x7 (∃ (c : Nat), (1 : Int) = (c : Int) ∧ goB g 0 c = true ∧ Ext w'2 w'7) (∃ (x8 : Nat), int .i64 (x.snd : Int) = int .i64 (x8 : Int) ∧ x8 = nextL g ∧ Ext w w'7)))) (bcase (x.fst == 8205) (∃ (g7 : Int), #[int .i32 x.fst] = #[int .i32 g7] ∧ True ∧ ∀ (x6 : Bool) w'6, x6 = picB g7 ∧ Ext w'5 w'6 → bcase x6 (∃ (g8 : Int), #[int .i32 x2.fst] = #[int .i32 g8] ∧ True ∧ ∀ (x7 : Bool) w'7, x7 = picB g8 ∧ Ext w'6 w'7 → bcase x7 (∃ (c : Nat), (1 : Int) = (c : Int) ∧ goB g 0 c = true ∧ Ext w'2 w'7) (∃ (g9 : Int × Int), #[int .i32 x.fst, int .i32 x2.fst] = #[int .i32 g9.fst, int .i32 g9.snd] ∧ True ∧ ∀ (x8 : Bool) w'8, x8 = sylB g9.fst g9.snd ∧ Ext w'7 w'8 → bcase x8 (∃ (c : Nat), (1 : Int) = (c : Int) ∧ goB g 0 c = true ∧ Ext w'2 w'8) (∃ (x9 : Nat), int .i64 (x.snd : Int) = int .i64 (x9 : Int) ∧ x9 = nextL g ∧ Ext w w'8))) (∃ (g8 : Int × Int), #[int .i32 x.fst, int .i32 x2.fst] = #[int .i32 g8.fst, int .i32 g8.snd] ∧ True ∧ ∀ (x7 : Bool) w'7, x7 = sylB g8.fst g8.snd ∧ Ext w'6 w'7 → bcase x7 (∃ (c : Nat), (1 : Int) = (c : Int) ∧ goB g 0 c = true ∧ Ext w'2 w'7) (∃ (x8 : Nat), int .i64 (x.snd : Int) = int .i64 (x8 : Int) ∧ x8 = nextL g ∧ Ext w w'7))) (∃ (g7 : Int × Int), #[int .i32 x.fst, int .i32 x2.fst] = #[int .i32 g7.fst, int .i32 g7.snd] ∧ True ∧ ∀ (x6 : Bool) w'6, x6 = sylB g7.fst g7.snd ∧ Ext w'5 w'6 → bcase x6 (∃ (c : Nat), (1 : Int) = (c : Int) ∧ goB g 0 c = true ∧ Ext w'2 w'6) (∃ (x7 : Nat), int .i64 (x.snd : Int) = int .i64 (x7 : Int) ∧ x7 = nextL g ∧ Ext w w'6)))))) ∧ ∀ (u : Nat → Value) (c : Nat) w'3, (1 : Int) = (c : Int) ∧ goB g 0 c = true ∧ Ext w'2 w'3 → InR .i64 ((1 : Int) + 1) ∧ InR .i64 ((x.snd : Int) + (x2.snd : Int)) ∧ ∃ (y : Nat), int .i32 x.fst = int .i32 (sg g 0) ∧ int .i32 x2.fst = int .i32 (sg g (y - 1)) ∧ int .i64 2 = int .i64 (y : Int) ∧ int .i64 ((x.snd : Int) + (x2.snd : Int)) = int .i64 (↑(pos g y) : Int) ∧ 1 ≤ y ∧ y ≤ cnt g ∧ y ≤ 32 ∧ 0 < g.size ∧ goN g 0 (33 - y) y = firstN g 0 ∧ Ext w w'3))) (∃ (g2 : Int), #[int .i32 x.fst] = #[int .i32 g2] ∧ True ∧ ∀ (x1 : Bool) w'1, x1 = aloneB g2 ∧ Ext w' w'1 → bcase x1 (∃ (y : Unit), int .i32 x.fst = int .i32 (sg g 0) ∧ int .i64 (x.snd : Int) = int .i64 (↑(pos g (1 : Nat)) : Int) ∧ 0 < g.size ∧ (isBad g 0 = true ∨ aloneB (sg g 0) = true) ∧ Ext w w'1) (∃ (k : Nat), (x.snd : Int) = (k : Int) ∧ k ≤ g.size ∧ g.size ≤ g.size ∧ ∃ (g3 : ByteArray), #[string (g.extract k g.size)] = #[string g3] ∧ (U8 w'1 ∧ g3.size ≤ 67108864) ∧ ∀ (x2 : Int × Nat) w'2, x2.fst = nxR g3 ∧ x2.snd = nxN g3 ∧ Ext w'1 w'2 → bcase ((x.snd : Int) == (g.size : Int) || x2.fst == 65533 && (x2.snd : Int) == 1) (∃ (x3 : Nat), int .i64 (x.snd : Int) = int .i64 (x3 : Int) ∧ x3 = nextL g ∧ Ext w w'2) (∃ (g4 : Int), #[int .i32 x2.fst] = #[int .i32 g4] ∧ True ∧ ∀ (x3 : Int) w'3, x3 = kindR g4 ∧ Ext w'2 w'3 → bcase (x3 == 2)
 (bcase (x3 == 2) (∃ (c : Nat), (1 : Int) = (c : Int) ∧ goB g 0 c = true ∧ Ext w'2 w'3) (∃ (g5 : Int), #[int .i32 x.fst] = #[int .i32 g5] ∧ True ∧ ∀ (x4 : Bool) w'4, x4 = regB g5 ∧ Ext w'3 w'4 → bcase x4 (∃ (g6 : Int), #[int .i32 x2.fst] = #[int .i32 g6] ∧ True ∧ ∀ (x5 : Bool) w'5, x5 = regB g6 ∧ Ext w'4 w'5 → bcase x5 (∃ (c : Nat), (1 : Int) = (c : Int) ∧ goB g 0 c = true ∧ Ext w'2 w'5) (bcase (x.fst == 8205) (∃ (g7 : Int), #[int .i32 x.fst] = #[int .i32 g7] ∧ True ∧ ∀ (x6 : Bool) w'6, x6 = picB g7 ∧ Ext w'5 w'6 → bcase x6 (∃ (g8 : Int), #[int .i32 x2.fst] = #[int .i32 g8] ∧ True ∧ ∀ (x7 : Bool) w'7, x7 = picB g8 ∧ Ext w'6 w'7 → bcase x7 (∃ (c : Nat), (1 : Int) = (c : Int) ∧ goB g 0 c = true ∧ Ext w'2 w'7) (∃ (g9 : Int × Int), #[int .i32 x.fst, int .i32 x2.fst] = #[int .i32 g9.fst, int .i32 g9.snd] ∧ True ∧ ∀ (x8 : Bool) w'8, x8 = sylB g9.fst g9.snd ∧ Ext w'7 w'8 → bcase x8 (∃ (c : Nat), (1 : Int) = (c : Int) ∧ goB g 0 c = true ∧ Ext w'2 w'8) (∃ (x9 : Nat), int .i64 (x.snd : Int) = int .i64 (x9 : Int) ∧ x9 = nextL g ∧ Ext w w'8))) (∃ (g8 : Int × Int), #[int .i32 x.fst, int .i32 x2.fst] = #[int .i32 g8.fst, int .i32 g8.snd] ∧ True ∧ ∀ (x7 : Bool) w'7, x7 = sylB g8.fst g8.snd ∧ Ext w'6 w'7 → bcase x7 (∃ (c : Nat), (1 : Int) = (c : Int) ∧ goB g 0 c = true ∧ Ext w'2 w'7) (∃ (x8 : Nat), int .i64 (x.snd : Int) = int .i64 (x8 : Int) ∧ x8 = nextL g ∧ Ext w w'7))) (∃ (g7 : Int × Int), #[int .i32 x.fst, int .i32 x2.fst] = #[int .i32 g7.fst, int .i32 g7.snd] ∧ True ∧ ∀ (x6 : Bool) w'6, x6 = sylB g7.fst g7.snd ∧ Ext w'5 w'6 → bcase x6 (∃ (c : Nat), (1 : Int) = (c : Int) ∧ goB g 0 c = true ∧ Ext w'2 w'6) (∃ (x7 : Nat), int .i64 (x.snd : Int) = int .i64 (x7 : Int) ∧ x7 = nextL g ∧ Ext w w'6)))) (bcase (x.fst == 8205) (∃ (g6 : Int), #[int .i32 x.fst] = #[int .i32 g6] ∧ True ∧ ∀ (x5 : Bool) w'5, x5 = picB g6 ∧ Ext w'4 w'5 → bcase x5 (∃ (g7 : Int), #[int .i32 x2.fst] = #[int .i32 g7] ∧ True ∧ ∀ (x6 : Bool) w'6, x6 = picB g7 ∧ Ext w'5 w'6 → bcase x6 (∃ (c : Nat), (1 : Int) = (c : Int) ∧ goB g 0 c = true ∧ Ext w'2 w'6) (∃ (g8 : Int × Int), #[int .i32 x.fst, int .i32 x2.fst] = #[int .i32 g8.fst, int .i32 g8.snd] ∧ True ∧ ∀ (x7 : Bool) w'7, x7 = sylB g8.fst g8.snd ∧ Ext w'6 w'7 → bcase x7 (∃ (c : Nat), (1 : Int) = (c : Int) ∧ goB g 0 c = true ∧ Ext w'2 w'7) (∃ (x8 : Nat), int .i64 (x.snd : Int) = int .i64 (x8 : Int) ∧ x8 = nextL g ∧ Ext w w'7))) (∃ (g7 : Int × Int), #[int .i32 x.fst, int .i32 x2.fst] = #[int .i32 g7.fst, int .i32 g7.snd] ∧ True ∧ ∀ (x6 : Bool) w'6, x6 = sylB g7.fst g7.snd ∧ Ext w'5 w'6 → bcase x6 (∃ (c : Nat), (1 : Int) = (c : Int) ∧ goB g 0 c = true ∧ Ext w'2 w'6) (∃ (x7 : Nat), int .i64 (x.snd : Int) = int .i64 (x7 : Int) ∧ x7 = nextL g ∧ Ext w w'6))) (∃ (g6 : Int × Int), #[int .i32 x.fst, int .i32 x2.fst] = #[int .i32 g6.fst, int .i32 g6.snd] ∧ True ∧ ∀ (x5 : Bool) w'5, x5 = sylB g6.fst g6.snd ∧ Ext w'4 w'5 → bcase x5 (∃ (c : Nat), (1 : Int) = (c : Int) ∧ goB g 0 c = true ∧ Ext w'2 w'5)
 (∃ (x6 : Nat), int .i64 (x.snd : Int) = int .i64 (x6 : Int) ∧ x6 = nextL g ∧ Ext w w'5))))) (∃ (g5 : Int), #[int .i32 x2.fst] = #[int .i32 g5] ∧ True ∧ ∀ (x4 : Bool) w'4, x4 = joinB g5 ∧ Ext w'3 w'4 → bcase x4 (∃ (c : Nat), (1 : Int) = (c : Int) ∧ goB g 0 c = true ∧ Ext w'2 w'4) (∃ (g6 : Int), #[int .i32 x.fst] = #[int .i32 g6] ∧ True ∧ ∀ (x5 : Bool) w'5, x5 = regB g6 ∧ Ext w'4 w'5 → bcase x5 (∃ (g7 : Int), #[int .i32 x2.fst] = #[int .i32 g7] ∧ True ∧ ∀ (x6 : Bool) w'6, x6 = regB g7 ∧ Ext w'5 w'6 → bcase x6 (∃ (c : Nat), (1 : Int) = (c : Int) ∧ goB g 0 c = true ∧ Ext w'2 w'6) (bcase (x.fst == 8205) (∃ (g8 : Int), #[int .i32 x.fst] = #[int .i32 g8] ∧ True ∧ ∀ (x7 : Bool) w'7, x7 = picB g8 ∧ Ext w'6 w'7 → bcase x7 (∃ (g9 : Int), #[int .i32 x2.fst] = #[int .i32 g9] ∧ True ∧ ∀ (x8 : Bool) w'8, x8 = picB g9 ∧ Ext w'7 w'8 → bcase x8 (∃ (c : Nat), (1 : Int) = (c : Int) ∧ goB g 0 c = true ∧ Ext w'2 w'8) (∃ (g10 : Int × Int), #[int .i32 x.fst, int .i32 x2.fst] = #[int .i32 g10.fst, int .i32 g10.snd] ∧ True ∧ ∀ (x9 : Bool) w'9, x9 = sylB g10.fst g10.snd ∧ Ext w'8 w'9 → bcase x9 (∃ (c : Nat), (1 : Int) = (c : Int) ∧ goB g 0 c = true ∧ Ext w'2 w'9) (∃ (x10 : Nat), int .i64 (x.snd : Int) = int .i64 (x10 : Int) ∧ x10 = nextL g ∧ Ext w w'9))) (∃ (g9 : Int × Int), #[int .i32 x.fst, int .i32 x2.fst] = #[int .i32 g9.fst, int .i32 g9.snd] ∧ True ∧ ∀ (x8 : Bool) w'8, x8 = sylB g9.fst g9.snd ∧ Ext w'7 w'8 → bcase x8 (∃ (c : Nat), (1 : Int) = (c : Int) ∧ goB g 0 c = true ∧ Ext w'2 w'8) (∃ (x9 : Nat), int .i64 (x.snd : Int) = int .i64 (x9 : Int) ∧ x9 = nextL g ∧ Ext w w'8))) (∃ (g8 : Int × Int), #[int .i32 x.fst, int .i32 x2.fst] = #[int .i32 g8.fst, int .i32 g8.snd] ∧ True ∧ ∀ (x7 : Bool) w'7, x7 = sylB g8.fst g8.snd ∧ Ext w'6 w'7 → bcase x7 (∃ (c : Nat), (1 : Int) = (c : Int) ∧ goB g 0 c = true ∧ Ext w'2 w'7) (∃ (x8 : Nat), int .i64 (x.snd : Int) = int .i64 (x8 : Int) ∧ x8 = nextL g ∧ Ext w w'7)))) (bcase (x.fst == 8205) (∃ (g7 : Int), #[int .i32 x.fst] = #[int .i32 g7] ∧ True ∧ ∀ (x6 : Bool) w'6, x6 = picB g7 ∧ Ext w'5 w'6 → bcase x6 (∃ (g8 : Int), #[int .i32 x2.fst] = #[int .i32 g8] ∧ True ∧ ∀ (x7 : Bool) w'7, x7 = picB g8 ∧ Ext w'6 w'7 → bcase x7 (∃ (c : Nat), (1 : Int) = (c : Int) ∧ goB g 0 c = true ∧ Ext w'2 w'7) (∃ (g9 : Int × Int), #[int .i32 x.fst, int .i32 x2.fst] = #[int .i32 g9.fst, int .i32 g9.snd] ∧ True ∧ ∀ (x8 : Bool) w'8, x8 = sylB g9.fst g9.snd ∧ Ext w'7 w'8 → bcase x8 (∃ (c : Nat), (1 : Int) = (c : Int) ∧ goB g 0 c = true ∧ Ext w'2 w'8) (∃ (x9 : Nat), int .i64 (x.snd : Int) = int .i64 (x9 : Int) ∧ x9 = nextL g ∧ Ext w w'8))) (∃ (g8 : Int × Int), #[int .i32 x.fst, int .i32 x2.fst] = #[int .i32 g8.fst, int .i32 g8.snd] ∧ True ∧ ∀ (x7 : Bool) w'7, x7 = sylB g8.fst g8.snd ∧ Ext w'6 w'7 → bcase x7 (∃ (c : Nat), (1 : Int) = (c : Int) ∧ goB g 0 c = true ∧ Ext w'2 w'7) (∃ (x8 : Nat), int .i64 (x.snd : Int) = int .i64 (x8 : Int) ∧ x8 = nextL g ∧ Ext w w'7))) (∃ (g7 : Int × Int), #[int .i32 x.fst, int .i32 x2.fst] = #[int .i32 g7.fst, int .i32 g7.snd] ∧
 True ∧ ∀ (x6 : Bool) w'6, x6 = sylB g7.fst g7.snd ∧ Ext w'5 w'6 → bcase x6 (∃ (c : Nat), (1 : Int) = (c : Int) ∧ goB g 0 c = true ∧ Ext w'2 w'6) (∃ (x7 : Nat), int .i64 (x.snd : Int) = int .i64 (x7 : Int) ∧ x7 = nextL g ∧ Ext w w'6)))))) ∧ ∀ (u : Nat → Value) (c : Nat) w'3, (1 : Int) = (c : Int) ∧ goB g 0 c = true ∧ Ext w'2 w'3 → InR .i64 ((1 : Int) + 1) ∧ InR .i64 ((x.snd : Int) + (x2.snd : Int)) ∧ ∃ (y : Nat), int .i32 x.fst = int .i32 (sg g 0) ∧ int .i32 x2.fst = int .i32 (sg g (y - 1)) ∧ int .i64 2 = int .i64 (y : Int) ∧ int .i64 ((x.snd : Int) + (x2.snd : Int)) = int .i64 (↑(pos g y) : Int) ∧ 1 ≤ y ∧ y ≤ cnt g ∧ y ≤ 32 ∧ 0 < g.size ∧ goN g 0 (33 - y) y = firstN g 0 ∧ Ext w w'3)))) ∧ (∀ (u : Nat → Value) (x : Nat) w', 1 ≤ x ∧ x ≤ cnt g ∧ x ≤ 32 ∧ 0 < g.size ∧ goN g 0 (33 - x) x = firstN g 0 ∧ Ext w w' → bcase ((x : Int) == 32) (∃ (x1 : Nat), int .i64 (↑(pos g x) : Int) = int .i64 (x1 : Int) ∧ x1 = nextL g ∧ Ext w w') (∃ (k : Nat), (↑(pos g x) : Int) = (k : Int) ∧ k ≤ g.size ∧ g.size ≤ g.size ∧ ∃ (g1 : ByteArray), #[string (g.extract k g.size)] = #[string g1] ∧ (U8 w' ∧ g1.size ≤ 67108864) ∧ ∀ (x1 : Int × Nat) w'1, x1.fst = nxR g1 ∧ x1.snd = nxN g1 ∧ Ext w' w'1 → bcase ((↑(pos g x) : Int) == (g.size : Int) || x1.fst == 65533 && (x1.snd : Int) == 1) (∃ (x2 : Nat), int .i64 (↑(pos g x) : Int) = int .i64 (x2 : Int) ∧ x2 = nextL g ∧ Ext w w'1) (∃ (g2 : Int), #[int .i32 x1.fst] = #[int .i32 g2] ∧ True ∧ ∀ (x2 : Int) w'2, x2 = kindR g2 ∧ Ext w'1 w'2 → bcase (x2 == 2) (bcase (x2 == 2) (∃ (c : Nat), (x : Int) = (c : Int) ∧ goB g 0 c = true ∧ Ext w'1 w'2) (bcase ((x : Int) == 1) (∃ (g3 : Int), #[int .i32 (sg g 0)] = #[int .i32 g3] ∧ True ∧ ∀ (x3 : Bool) w'3, x3 = regB g3 ∧ Ext w'2 w'3 → bcase x3 (∃ (g4 : Int), #[int .i32 x1.fst] = #[int .i32 g4] ∧ True ∧ ∀ (x4 : Bool) w'4, x4 = regB g4 ∧ Ext w'3 w'4 → bcase x4 (∃ (c : Nat), (x : Int) = (c : Int) ∧ goB g 0 c = true ∧ Ext w'1 w'4) (bcase (sg g (x - 1) == 8205) (∃ (g5 : Int), #[int .i32 (sg g 0)] = #[int .i32 g5] ∧ True ∧ ∀ (x5 : Bool) w'5, x5 = picB g5 ∧ Ext w'4 w'5 → bcase x5 (∃ (g6 : Int), #[int .i32 x1.fst] = #[int .i32 g6] ∧ True ∧ ∀ (x6 : Bool) w'6, x6 = picB g6 ∧ Ext w'5 w'6 → bcase x6 (∃ (c : Nat), (x : Int) = (c : Int) ∧ goB g 0 c = true ∧ Ext w'1 w'6) (∃ (g7 : Int × Int), #[int .i32 (sg g (x - 1)), int .i32 x1.fst] = #[int .i32 g7.fst, int .i32 g7.snd] ∧ True ∧ ∀ (x7 : Bool) w'7, x7 = sylB g7.fst g7.snd ∧ Ext w'6 w'7 → bcase x7 (∃ (c : Nat), (x : Int) = (c : Int) ∧ goB g 0 c = true ∧ Ext w'1 w'7) (∃ (x8 : Nat), int .i64 (↑(pos g x) : Int) = int .i64 (x8 : Int) ∧ x8 = nextL g ∧ Ext w w'7))) (∃ (g6 : Int × Int), #[int .i32 (sg g (x - 1)), int .i32 x1.fst] = #[int .i32 g6.fst, int .i32 g6.snd] ∧ True ∧ ∀ (x6 : Bool) w'6, x6 = sylB g6.fst g6.snd ∧ Ext w'5 w'6 → bcase x6 (∃ (c : Nat), (x : Int) = (c : Int) ∧ goB g 0 c = true ∧ Ext w'1 w'6) (∃ (x7 : Nat), int .i64 (↑(pos g x) : Int) = int .i64 (x7 : Int) ∧ x7 = nextL g ∧ Ext w w'6))) (∃ (g5 : Int × Int), #[int .i32 (sg g (x - 1)), int .i32 x1.fst] =
 #[int .i32 g5.fst, int .i32 g5.snd] ∧ True ∧ ∀ (x5 : Bool) w'5, x5 = sylB g5.fst g5.snd ∧ Ext w'4 w'5 → bcase x5 (∃ (c : Nat), (x : Int) = (c : Int) ∧ goB g 0 c = true ∧ Ext w'1 w'5) (∃ (x6 : Nat), int .i64 (↑(pos g x) : Int) = int .i64 (x6 : Int) ∧ x6 = nextL g ∧ Ext w w'5)))) (bcase (sg g (x - 1) == 8205) (∃ (g4 : Int), #[int .i32 (sg g 0)] = #[int .i32 g4] ∧ True ∧ ∀ (x4 : Bool) w'4, x4 = picB g4 ∧ Ext w'3 w'4 → bcase x4 (∃ (g5 : Int), #[int .i32 x1.fst] = #[int .i32 g5] ∧ True ∧ ∀ (x5 : Bool) w'5, x5 = picB g5 ∧ Ext w'4 w'5 → bcase x5 (∃ (c : Nat), (x : Int) = (c : Int) ∧ goB g 0 c = true ∧ Ext w'1 w'5) (∃ (g6 : Int × Int), #[int .i32 (sg g (x - 1)), int .i32 x1.fst] = #[int .i32 g6.fst, int .i32 g6.snd] ∧ True ∧ ∀ (x6 : Bool) w'6, x6 = sylB g6.fst g6.snd ∧ Ext w'5 w'6 → bcase x6 (∃ (c : Nat), (x : Int) = (c : Int) ∧ goB g 0 c = true ∧ Ext w'1 w'6) (∃ (x7 : Nat), int .i64 (↑(pos g x) : Int) = int .i64 (x7 : Int) ∧ x7 = nextL g ∧ Ext w w'6))) (∃ (g5 : Int × Int), #[int .i32 (sg g (x - 1)), int .i32 x1.fst] = #[int .i32 g5.fst, int .i32 g5.snd] ∧ True ∧ ∀ (x5 : Bool) w'5, x5 = sylB g5.fst g5.snd ∧ Ext w'4 w'5 → bcase x5 (∃ (c : Nat), (x : Int) = (c : Int) ∧ goB g 0 c = true ∧ Ext w'1 w'5) (∃ (x6 : Nat), int .i64 (↑(pos g x) : Int) = int .i64 (x6 : Int) ∧ x6 = nextL g ∧ Ext w w'5))) (∃ (g4 : Int × Int), #[int .i32 (sg g (x - 1)), int .i32 x1.fst] = #[int .i32 g4.fst, int .i32 g4.snd] ∧ True ∧ ∀ (x4 : Bool) w'4, x4 = sylB g4.fst g4.snd ∧ Ext w'3 w'4 → bcase x4 (∃ (c : Nat), (x : Int) = (c : Int) ∧ goB g 0 c = true ∧ Ext w'1 w'4) (∃ (x5 : Nat), int .i64 (↑(pos g x) : Int) = int .i64 (x5 : Int) ∧ x5 = nextL g ∧ Ext w w'4)))) (bcase (sg g (x - 1) == 8205) (∃ (g3 : Int), #[int .i32 (sg g 0)] = #[int .i32 g3] ∧ True ∧ ∀ (x3 : Bool) w'3, x3 = picB g3 ∧ Ext w'2 w'3 → bcase x3 (∃ (g4 : Int), #[int .i32 x1.fst] = #[int .i32 g4] ∧ True ∧ ∀ (x4 : Bool) w'4, x4 = picB g4 ∧ Ext w'3 w'4 → bcase x4 (∃ (c : Nat), (x : Int) = (c : Int) ∧ goB g 0 c = true ∧ Ext w'1 w'4) (∃ (g5 : Int × Int), #[int .i32 (sg g (x - 1)), int .i32 x1.fst] = #[int .i32 g5.fst, int .i32 g5.snd] ∧ True ∧ ∀ (x5 : Bool) w'5, x5 = sylB g5.fst g5.snd ∧ Ext w'4 w'5 → bcase x5 (∃ (c : Nat), (x : Int) = (c : Int) ∧ goB g 0 c = true ∧ Ext w'1 w'5) (∃ (x6 : Nat), int .i64 (↑(pos g x) : Int) = int .i64 (x6 : Int) ∧ x6 = nextL g ∧ Ext w w'5))) (∃ (g4 : Int × Int), #[int .i32 (sg g (x - 1)), int .i32 x1.fst] = #[int .i32 g4.fst, int .i32 g4.snd] ∧ True ∧ ∀ (x4 : Bool) w'4, x4 = sylB g4.fst g4.snd ∧ Ext w'3 w'4 → bcase x4 (∃ (c : Nat), (x : Int) = (c : Int) ∧ goB g 0 c = true ∧ Ext w'1 w'4) (∃ (x5 : Nat), int .i64 (↑(pos g x) : Int) = int .i64 (x5 : Int) ∧ x5 = nextL g ∧ Ext w w'4))) (∃ (g3 : Int × Int), #[int .i32 (sg g (x - 1)), int .i32 x1.fst] = #[int .i32 g3.fst, int .i32 g3.snd] ∧ True ∧ ∀ (x3 : Bool) w'3, x3 = sylB g3.fst g3.snd ∧ Ext w'2 w'3 → bcase x3 (∃ (c : Nat), (x : Int) = (c : Int) ∧ goB g 0 c = true ∧ Ext w'1 w'3) (∃ (x4 : Nat),
 int .i64 (↑(pos g x) : Int) = int .i64 (x4 : Int) ∧ x4 = nextL g ∧ Ext w w'3))))) (∃ (g3 : Int), #[int .i32 x1.fst] = #[int .i32 g3] ∧ True ∧ ∀ (x3 : Bool) w'3, x3 = joinB g3 ∧ Ext w'2 w'3 → bcase x3 (∃ (c : Nat), (x : Int) = (c : Int) ∧ goB g 0 c = true ∧ Ext w'1 w'3) (bcase ((x : Int) == 1) (∃ (g4 : Int), #[int .i32 (sg g 0)] = #[int .i32 g4] ∧ True ∧ ∀ (x4 : Bool) w'4, x4 = regB g4 ∧ Ext w'3 w'4 → bcase x4 (∃ (g5 : Int), #[int .i32 x1.fst] = #[int .i32 g5] ∧ True ∧ ∀ (x5 : Bool) w'5, x5 = regB g5 ∧ Ext w'4 w'5 → bcase x5 (∃ (c : Nat), (x : Int) = (c : Int) ∧ goB g 0 c = true ∧ Ext w'1 w'5) (bcase (sg g (x - 1) == 8205) (∃ (g6 : Int), #[int .i32 (sg g 0)] = #[int .i32 g6] ∧ True ∧ ∀ (x6 : Bool) w'6, x6 = picB g6 ∧ Ext w'5 w'6 → bcase x6 (∃ (g7 : Int), #[int .i32 x1.fst] = #[int .i32 g7] ∧ True ∧ ∀ (x7 : Bool) w'7, x7 = picB g7 ∧ Ext w'6 w'7 → bcase x7 (∃ (c : Nat), (x : Int) = (c : Int) ∧ goB g 0 c = true ∧ Ext w'1 w'7) (∃ (g8 : Int × Int), #[int .i32 (sg g (x - 1)), int .i32 x1.fst] = #[int .i32 g8.fst, int .i32 g8.snd] ∧ True ∧ ∀ (x8 : Bool) w'8, x8 = sylB g8.fst g8.snd ∧ Ext w'7 w'8 → bcase x8 (∃ (c : Nat), (x : Int) = (c : Int) ∧ goB g 0 c = true ∧ Ext w'1 w'8) (∃ (x9 : Nat), int .i64 (↑(pos g x) : Int) = int .i64 (x9 : Int) ∧ x9 = nextL g ∧ Ext w w'8))) (∃ (g7 : Int × Int), #[int .i32 (sg g (x - 1)), int .i32 x1.fst] = #[int .i32 g7.fst, int .i32 g7.snd] ∧ True ∧ ∀ (x7 : Bool) w'7, x7 = sylB g7.fst g7.snd ∧ Ext w'6 w'7 → bcase x7 (∃ (c : Nat), (x : Int) = (c : Int) ∧ goB g 0 c = true ∧ Ext w'1 w'7) (∃ (x8 : Nat), int .i64 (↑(pos g x) : Int) = int .i64 (x8 : Int) ∧ x8 = nextL g ∧ Ext w w'7))) (∃ (g6 : Int × Int), #[int .i32 (sg g (x - 1)), int .i32 x1.fst] = #[int .i32 g6.fst, int .i32 g6.snd] ∧ True ∧ ∀ (x6 : Bool) w'6, x6 = sylB g6.fst g6.snd ∧ Ext w'5 w'6 → bcase x6 (∃ (c : Nat), (x : Int) = (c : Int) ∧ goB g 0 c = true ∧ Ext w'1 w'6) (∃ (x7 : Nat), int .i64 (↑(pos g x) : Int) = int .i64 (x7 : Int) ∧ x7 = nextL g ∧ Ext w w'6)))) (bcase (sg g (x - 1) == 8205) (∃ (g5 : Int), #[int .i32 (sg g 0)] = #[int .i32 g5] ∧ True ∧ ∀ (x5 : Bool) w'5, x5 = picB g5 ∧ Ext w'4 w'5 → bcase x5 (∃ (g6 : Int), #[int .i32 x1.fst] = #[int .i32 g6] ∧ True ∧ ∀ (x6 : Bool) w'6, x6 = picB g6 ∧ Ext w'5 w'6 → bcase x6 (∃ (c : Nat), (x : Int) = (c : Int) ∧ goB g 0 c = true ∧ Ext w'1 w'6) (∃ (g7 : Int × Int), #[int .i32 (sg g (x - 1)), int .i32 x1.fst] = #[int .i32 g7.fst, int .i32 g7.snd] ∧ True ∧ ∀ (x7 : Bool) w'7, x7 = sylB g7.fst g7.snd ∧ Ext w'6 w'7 → bcase x7 (∃ (c : Nat), (x : Int) = (c : Int) ∧ goB g 0 c = true ∧ Ext w'1 w'7) (∃ (x8 : Nat), int .i64 (↑(pos g x) : Int) = int .i64 (x8 : Int) ∧ x8 = nextL g ∧ Ext w w'7))) (∃ (g6 : Int × Int), #[int .i32 (sg g (x - 1)), int .i32 x1.fst] = #[int .i32 g6.fst, int .i32 g6.snd] ∧ True ∧ ∀ (x6 : Bool) w'6, x6 = sylB g6.fst g6.snd ∧ Ext w'5 w'6 → bcase x6 (∃ (c : Nat), (x : Int) = (c : Int) ∧ goB g 0 c = true ∧ Ext w'1 w'6) (∃ (x7 : Nat), int .i64 (↑(pos g x) : Int) = int .i64 (x7 : Int) ∧ x7 = nextL g ∧ Ext w w'6)))
 (∃ (g5 : Int × Int), #[int .i32 (sg g (x - 1)), int .i32 x1.fst] = #[int .i32 g5.fst, int .i32 g5.snd] ∧ True ∧ ∀ (x5 : Bool) w'5, x5 = sylB g5.fst g5.snd ∧ Ext w'4 w'5 → bcase x5 (∃ (c : Nat), (x : Int) = (c : Int) ∧ goB g 0 c = true ∧ Ext w'1 w'5) (∃ (x6 : Nat), int .i64 (↑(pos g x) : Int) = int .i64 (x6 : Int) ∧ x6 = nextL g ∧ Ext w w'5)))) (bcase (sg g (x - 1) == 8205) (∃ (g4 : Int), #[int .i32 (sg g 0)] = #[int .i32 g4] ∧ True ∧ ∀ (x4 : Bool) w'4, x4 = picB g4 ∧ Ext w'3 w'4 → bcase x4 (∃ (g5 : Int), #[int .i32 x1.fst] = #[int .i32 g5] ∧ True ∧ ∀ (x5 : Bool) w'5, x5 = picB g5 ∧ Ext w'4 w'5 → bcase x5 (∃ (c : Nat), (x : Int) = (c : Int) ∧ goB g 0 c = true ∧ Ext w'1 w'5) (∃ (g6 : Int × Int), #[int .i32 (sg g (x - 1)), int .i32 x1.fst] = #[int .i32 g6.fst, int .i32 g6.snd] ∧ True ∧ ∀ (x6 : Bool) w'6, x6 = sylB g6.fst g6.snd ∧ Ext w'5 w'6 → bcase x6 (∃ (c : Nat), (x : Int) = (c : Int) ∧ goB g 0 c = true ∧ Ext w'1 w'6) (∃ (x7 : Nat), int .i64 (↑(pos g x) : Int) = int .i64 (x7 : Int) ∧ x7 = nextL g ∧ Ext w w'6))) (∃ (g5 : Int × Int), #[int .i32 (sg g (x - 1)), int .i32 x1.fst] = #[int .i32 g5.fst, int .i32 g5.snd] ∧ True ∧ ∀ (x5 : Bool) w'5, x5 = sylB g5.fst g5.snd ∧ Ext w'4 w'5 → bcase x5 (∃ (c : Nat), (x : Int) = (c : Int) ∧ goB g 0 c = true ∧ Ext w'1 w'5) (∃ (x6 : Nat), int .i64 (↑(pos g x) : Int) = int .i64 (x6 : Int) ∧ x6 = nextL g ∧ Ext w w'5))) (∃ (g4 : Int × Int), #[int .i32 (sg g (x - 1)), int .i32 x1.fst] = #[int .i32 g4.fst, int .i32 g4.snd] ∧ True ∧ ∀ (x4 : Bool) w'4, x4 = sylB g4.fst g4.snd ∧ Ext w'3 w'4 → bcase x4 (∃ (c : Nat), (x : Int) = (c : Int) ∧ goB g 0 c = true ∧ Ext w'1 w'4) (∃ (x5 : Nat), int .i64 (↑(pos g x) : Int) = int .i64 (x5 : Int) ∧ x5 = nextL g ∧ Ext w w'4)))))) ∧ ∀ (u1 : Nat → Value) (c : Nat) w'2, (x : Int) = (c : Int) ∧ goB g 0 c = true ∧ Ext w'1 w'2 → InR .i64 ((x : Int) + 1) ∧ InR .i64 ((↑(pos g x) : Int) + (x1.snd : Int)) ∧ ∃ (y : Nat), int .i32 (sg g 0) = int .i32 (sg g 0) ∧ int .i32 x1.fst = int .i32 (sg g (y - 1)) ∧ int .i64 ((x : Int) + 1) = int .i64 (y : Int) ∧ int .i64 ((↑(pos g x) : Int) + (x1.snd : Int)) = int .i64 (↑(pos g y) : Int) ∧ (1 ≤ y ∧ y ≤ cnt g ∧ y ≤ 32 ∧ 0 < g.size ∧ goN g 0 (33 - y) y = firstN g 0 ∧ Ext w w'2) ∧ 40 - y < 40 - x)) ∧ (∀ (u : Nat → Value) (x : Unit) w', 0 < g.size ∧ (isBad g 0 = true ∨ aloneB (sg g 0) = true) ∧ Ext w w' → bcase (sg g 0 == 13) (bcase (decide ((g.size : Int) > 1)) (IxE (1 : Int) g.size fun k => bcase ((↑(g.data.toList.getD k (0 : UInt8)).toNat : Int) == 10) (∃ (x1 : Nat), int .i64 2 = int .i64 (x1 : Int) ∧ x1 = nextL g ∧ Ext w w') (∃ (x1 : Nat), int .i64 (↑(pos g (1 : Nat)) : Int) = int .i64 (x1 : Int) ∧ x1 = nextL g ∧ Ext w w')) (∃ (x1 : Nat), int .i64 (↑(pos g (1 : Nat)) : Int) = int .i64 (x1 : Int) ∧ x1 = nextL g ∧ Ext w w')) (∃ (x1 : Nat), int .i64 (↑(pos g (1 : Nat)) : Int) = int .i64 (x1 : Int) ∧ x1 = nextL g ∧ Ext w w')) ∧ True) :
    ((sSN nextL)).Ok Tryz.prog 67 := ok_of_vc (sSN nextL) annCNext spCNext (fun _ _ => rfl) (fun _ _ => rfl) hsp Tryz.func67 rfl (n := 1) (fun _ => rfl) (by kernel_rfl) (vcast (by kernel_rfl) h)
theorem signs_vc (hsp : SpecsOk Tryz.prog spSigns) (h : ∀ (g : ByteArray) (w : World), U8 w ∧ g.size ≤ 67108864 → (∃ (x : Nat × Option Addr × Nat), int .i64 0 = int .i64 (↑(pos g x.fst) : Int) ∧ slice none 0 0 = slice x.snd.fst x.fst x.snd.snd ∧ x.fst ≤ cnt g ∧ Made w w (134 : TypeId) 3 x.snd.fst x.fst (List.flatMap (sgnV g) (List.range x.fst)) x.snd.snd) ∧ ∀ (u : Nat → Value) (x : Nat × Option Addr × Nat) w', x.fst ≤ cnt g ∧ Made w w' (134 : TypeId) 3 x.snd.fst x.fst (List.flatMap (sgnV g) (List.range x.fst)) x.snd.snd → bcase (decide ((↑(pos g x.fst) : Int) < (g.size : Int))) (∃ (k : Nat), (↑(pos g x.fst) : Int) = (k : Int) ∧ k ≤ g.size ∧ g.size ≤ g.size ∧ ∃ (g1 : ByteArray), #[string (g.extract k g.size)] = #[string g1] ∧ (U8 w' ∧ g1.size ≤ 67108864) ∧ ∀ (x1 : Int × Nat) w'1, x1.fst = nxR g1 ∧ x1.snd = nxN g1 ∧ Ext w' w'1 → bcase (x1.fst == 65533) (∀ b w1, New w'1 (Obj.cells #[int .i32 x1.fst, int .i64 (↑(pos g x.fst) : Int), bool ((x1.snd : Int) == 1)] 134) b w1 → ∃ (a' : Option Addr) (c' : Nat) (w'2 : World), AppRun Tryz.prog #[102, 102] 102 (slice x.snd.fst x.fst x.snd.snd) (slice (some ⟨b, 0, none⟩) 1 1) w1 a' (x.fst + 1) c' w'2 ∧ KO w1 w'2 ∧ InR .i64 ((↑(pos g x.fst) : Int) + (x1.snd : Int)) ∧ ∃ (y : Nat × Option Addr × Nat), int .i64 ((↑(pos g x.fst) : Int) + (x1.snd : Int)) = int .i64 (↑(pos g y.fst) : Int) ∧ slice a' (x.fst + 1) c' = slice y.snd.fst y.fst y.snd.snd ∧ (y.fst ≤ cnt g ∧ Made w w'2 (134 : TypeId) 3 y.snd.fst y.fst (List.flatMap (sgnV g) (List.range y.fst)) y.snd.snd) ∧ cnt g - y.fst < cnt g - x.fst) (∀ b w1, New w'1 (Obj.cells #[int .i32 x1.fst, int .i64 (↑(pos g x.fst) : Int), bool false] (134 : Nat)) b w1 → ∃ (a' : Option Addr) (c' : Nat) (w'2 : World), AppRun Tryz.prog #[102, 102] 102 (slice x.snd.fst x.fst x.snd.snd) (slice (some ⟨b, 0, none⟩) 1 1) w1 a' (x.fst + 1) c' w'2 ∧ KO w1 w'2 ∧ InR .i64 ((↑(pos g x.fst) : Int) + (x1.snd : Int)) ∧ ∃ (y : Nat × Option Addr × Nat), int .i64 ((↑(pos g x.fst) : Int) + (x1.snd : Int)) = int .i64 (↑(pos g y.fst) : Int) ∧ slice a' (x.fst + 1) c' = slice y.snd.fst y.fst y.snd.snd ∧ (y.fst ≤ cnt g ∧ Made w w'2 (134 : TypeId) 3 y.snd.fst y.fst (List.flatMap (sgnV g) (List.range y.fst)) y.snd.snd) ∧ cnt g - y.fst < cnt g - x.fst)) (∃ (x1 : Option Addr × Nat × Nat), slice x.snd.fst x.fst x.snd.snd = slice x1.fst x1.snd.fst x1.snd.snd ∧ x1.snd.fst = cnt g ∧ Made w w' (134 : TypeId) 3 x1.fst x1.snd.fst (List.flatMap (sgnV g) (List.range (cnt g))) x1.snd.snd)) : sSigns.Ok Tryz.prog 71 := ok_of_vc sSigns annSigns spSigns (fun _ _ => rfl) (fun _ _ => rfl) hsp Tryz.func71 rfl (n := 1) (fun _ => rfl) (by kernel_rfl) (vcast (by kernel_rfl) h)
theorem first_vc (hsp : SpecsOk Tryz.prog spFirst) (h : ∀ (g : GFst) (w : World), g.k < cnt g.s ∧ g.s.size ≤ 67108864 ∧ CellsAt w g.a (List.flatMap (sgnV g.s) (List.drop g.k (List.range (cnt g.s)))) → IxE (0 : Int) (cnt g.s - g.k) fun k => ptrE g.a fun (b o : Nat) => LdB w b (o + k * 3 + 2) fun b1 => bcase b1 (∃ (x : Nat), int .i64 1 = int .i64 (x : Int) ∧ x = firstN g.s g.k ∧ Ext w w) ((IxE (0 : Int) (cnt g.s - g.k) fun k1 => ptrE g.a fun (b2 o1 : Nat) => LdK w .i32 b2 (o1 + k1 * 3) fun n => bcase (n == 13) (bcase (decide ((↑(cnt g.s - g.k) : Int) > 1)) (IxE (1 : Int) (cnt g.s - g.k) fun k2 => ptrE g.a fun (b3 o2 : Nat) => LdK w .i32 b3 (o2 + k2 * 3) fun n1 => ∃ (c : Unit), bool (n1 == 10) = bool (crB g.s g.k) ∧ Ext w w) (∃ (c : Unit), bool false = bool (crB g.s g.k) ∧ Ext w w)) (∃ (c : Unit), bool false = bool (crB g.s g.k) ∧ Ext w w)) ∧ ∀ (u : Nat → Value) (c : Unit) w', Ext w w' → bcase (crB g.s g.k) (∃ (x : Nat), int .i64 2 = int .i64 (x : Int) ∧ x = firstN g.s g.k ∧ Ext w w') (IxE (0 : Int) (cnt g.s - g.k) fun k1 => ptrE g.a fun (b2 o1 : Nat) => LdK w' .i32 b2 (o1 + k1 * 3) fun n => ∃ (g1 : Int), #[int .i32 n] = #[int .i32 g1] ∧ True ∧ ∀ (x : Bool) w'1, x = aloneB g1 ∧ Ext w' w'1 → bcase x (∃ (x1 : Nat), int .i64 1 = int .i64 (x1 : Int) ∧ x1 = firstN g.s g.k ∧ Ext w w'1) ((∃ (x1 : Nat), int .i64 1 = int .i64 (x1 : Int) ∧ 1 ≤ x1 ∧ g.k + x1 ≤ cnt g.s ∧ x1 ≤ 32 ∧ goN g.s g.k (33 - x1) x1 = firstN g.s g.k ∧ Ext w'1 w'1) ∧ ∀ (u1 : Nat → Value) (x1 : Nat) w'2, 1 ≤ x1 ∧ g.k + x1 ≤ cnt g.s ∧ x1 ≤ 32 ∧ goN g.s g.k (33 - x1) x1 = firstN g.s g.k ∧ Ext w'1 w'2 → ∀ w1, Drew w'2 w1 → bcase (decide ((x1 : Int) < (↑(cnt g.s - g.k) : Int))) (bcase (decide ((x1 : Int) < 32)) (IxE (x1 : Int) (cnt g.s - g.k) fun k2 => ptrE g.a fun (b3 o2 : Nat) => LdB w'2 b3 (o2 + k2 * 3 + 2) fun b4 => bcase (!b4) (IxE (0 : Int) (cnt g.s - g.k) fun k3 => ptrE g.a fun (b5 o3 : Nat) => LdK w'2 .i32 b5 (o3 + k3 * 3) fun n1 => InR .i64 ((x1 : Int) - 1) ∧ IxE ((x1 : Int) - 1) (cnt g.s - g.k) fun k4 => ptrE g.a fun (b6 o4 : Nat) => LdK w'2 .i32 b6 (o4 + k4 * 3) fun n2 => IxE (x1 : Int) (cnt g.s - g.k) fun k5 => ptrE g.a fun (b7 o5 : Nat) => LdK w'2 .i32 b7 (o5 + k5 * 3) fun n3 => ∃ (g2 : GTk), #[int .i32 n1, int .i32 n2, int .i32 n3, int .i64 (x1 : Int)] = #[int .i32 g2.x, int .i32 g2.z, int .i32 g2.y, int .i64 (g2.n : Int)] ∧ True ∧ ∀ (x2 : Bool) w'3, x2 = takesB g2.x g2.z g2.y g2.n ∧ Ext w1 w'3 → bcase x2 (InR .i64 ((x1 : Int) + 1) ∧ ∃ (y : Nat), int .i64 ((x1 : Int) + 1) = int .i64 (y : Int) ∧ (1 ≤ y ∧ g.k + y ≤ cnt g.s ∧ y ≤ 32 ∧ goN g.s g.k (33 - y) y = firstN g.s g.k ∧ Ext w'1 w'3) ∧ 40 - y < 40 - x1) (∃ (x3 : Nat), int .i64 (x1 : Int) = int .i64 (x3 : Int) ∧ x3 = firstN g.s g.k ∧ Ext w w'3)) (∃ (x2 : Nat), int .i64 (x1 : Int) = int .i64 (x2 : Int) ∧ x2 = firstN g.s g.k ∧ Ext w w1)) (∃ (x2 : Nat), int .i64 (x1 : Int) = int .i64 (x2 : Int) ∧ x2 = firstN g.s g.k ∧ Ext w w1)) (∃ (x2 : Nat),
 int .i64 (x1 : Int) = int .i64 (x2 : Int) ∧ x2 = firstN g.s g.k ∧ Ext w w1))))) : sFirst.Ok Tryz.prog 102 := ok_of_vc sFirst annFirst spFirst (fun _ _ => rfl) (fun _ _ => rfl) hsp Tryz.func102 rfl (n := 1) (fun _ => rfl) (by kernel_rfl) (vcast (by kernel_rfl) h)
theorem rallP_vc (hsp : SpecsOk Tryz.prog spRAllP) (h : ∀ (g : ByteArray) (w : World), U8 w ∧ g.size ≤ 67108864 → ∃ (g1 : ByteArray), #[string g] = #[string g1] ∧ (U8 w ∧ g1.size ≤ 67108864) ∧ ∀ (x : Option Addr × Nat × Nat) w', x.snd.fst = cnt g1 ∧ Made w w' (134 : TypeId) 3 x.fst x.snd.fst (List.flatMap (sgnV g1) (List.range (cnt g1))) x.snd.snd → (∃ (x1 : GAl), slice x.fst x.snd.fst x.snd.snd = slice x1.la (cnt g - bk g x1.i) x1.lc ∧ slice none 0 0 = slice x1.oa x1.i x1.oc ∧ x1.i ≤ ncl g ∧ cnt g - bk g x1.i ≤ x1.lc ∧ CellsAt w' x1.la (List.flatMap (sgnV g) (List.drop (bk g x1.i) (List.range (cnt g)))) ∧ Made w' w' (142 : TypeId) 2 x1.oa x1.i (List.flatMap (pcV g) (List.range x1.i)) x1.oc) ∧ ∀ (u : Nat → Value) (x1 : GAl) w'1, x1.i ≤ ncl g ∧ cnt g - bk g x1.i ≤ x1.lc ∧ CellsAt w' x1.la (List.flatMap (sgnV g) (List.drop (bk g x1.i) (List.range (cnt g)))) ∧ Made w' w'1 (142 : TypeId) 2 x1.oa x1.i (List.flatMap (pcV g) (List.range x1.i)) x1.oc → bcase (decide ((↑(cnt g - bk g x1.i) : Int) > 0)) (∃ (g2 : GFst), #[slice x1.la (cnt g - bk g x1.i) x1.lc] = #[slice g2.a (cnt g2.s - g2.k) g2.c] ∧ (g2.k < cnt g2.s ∧ g2.s.size ≤ 67108864 ∧ CellsAt w'1 g2.a (List.flatMap (sgnV g2.s) (List.drop g2.k (List.range (cnt g2.s))))) ∧ ∀ (x2 : Nat) w'2, x2 = firstN g2.s g2.k ∧ Ext w'1 w'2 → bcase (decide ((x2 : Int) < (↑(cnt g - bk g x1.i) : Int))) (IxE (x2 : Int) (cnt g - bk g x1.i) fun k => ptrE x1.la fun (b o : Nat) => LdI w'2 b (o + k * 3 + 1) fun n => ∀ w1, Drew w'2 w1 → IxE (0 : Int) (cnt g - bk g x1.i) fun k1 => ptrE x1.la fun (b1 o1 : Nat) => LdI w'2 b1 (o1 + k1 * 3 + 1) fun n1 => IxE (0 : Int) (cnt g - bk g x1.i) fun k2 => ptrE x1.la fun (b2 o2 : Nat) => LdI w'2 b2 (o2 + k2 * 3 + 1) fun n2 => ∃ (k3 : Nat), n2 = (k3 : Int) ∧ ∃ (k4 : Nat), n = (k4 : Int) ∧ k3 ≤ k4 ∧ k4 ≤ g.size ∧ ∀ b3 w11, New w1 (Obj.cells #[int .i64 n1, string (g.extract k3 k4)] 142) b3 w11 → Below w1.heap.size w1 w11 ∧ ∃ (a' : Option Addr) (c' : Nat) (w'3 : World), AppRun Tryz.prog #[104, 104] 104 (slice x1.oa x1.i x1.oc) (slice (some ⟨b3, 0, none⟩) 1 1) w11 a' (x1.i + 1) c' w'3 ∧ KO w11 w'3 ∧ ∃ (ln : Nat), (x2 : Int) = (ln : Int) ∧ ln ≤ cnt g - bk g x1.i ∧ ∀ (ad' : Option Addr), SlAt x1.la ad' x1.lc ln 3 → ∃ (y : GAl), slice ad' (cnt g - bk g x1.i - ln) (x1.lc - ln) = slice y.la (cnt g - bk g y.i) y.lc ∧ slice a' (x1.i + 1) c' = slice y.oa y.i y.oc ∧ (y.i ≤ ncl g ∧ cnt g - bk g y.i ≤ y.lc ∧ CellsAt w' y.la (List.flatMap (sgnV g) (List.drop (bk g y.i) (List.range (cnt g)))) ∧ Made w' w'3 (142 : TypeId) 2 y.oa y.i (List.flatMap (pcV g) (List.range y.i)) y.oc) ∧ ncl g - y.i < ncl g - x1.i) (∀ w1, Drew w'2 w1 → IxE (0 : Int) (cnt g - bk g x1.i) fun k => ptrE x1.la fun (b o : Nat) => LdI w'2 b (o + k * 3 + 1) fun n => IxE (0 : Int) (cnt g - bk g x1.i) fun k1 => ptrE x1.la fun (b1 o1 : Nat) => LdI w'2 b1 (o1 + k1 * 3 + 1) fun n1 => ∃ (k2 : Nat), n1 = (k2 : Int) ∧ ∃ (k3 : Nat), (g.size : Int) = (k3 : Int) ∧ k2 ≤ k3 ∧ k3 ≤ g.size ∧ ∀ b2 w11,
 New w1 (Obj.cells #[int .i64 n, string (g.extract k2 k3)] 142) b2 w11 → Below w1.heap.size w1 w11 ∧ ∃ (a' : Option Addr) (c' : Nat) (w'3 : World), AppRun Tryz.prog #[104, 104] 104 (slice x1.oa x1.i x1.oc) (slice (some ⟨b2, 0, none⟩) 1 1) w11 a' (x1.i + 1) c' w'3 ∧ KO w11 w'3 ∧ ∃ (ln : Nat), (x2 : Int) = (ln : Int) ∧ ln ≤ cnt g - bk g x1.i ∧ ∀ (ad' : Option Addr), SlAt x1.la ad' x1.lc ln 3 → ∃ (y : GAl), slice ad' (cnt g - bk g x1.i - ln) (x1.lc - ln) = slice y.la (cnt g - bk g y.i) y.lc ∧ slice a' (x1.i + 1) c' = slice y.oa y.i y.oc ∧ (y.i ≤ ncl g ∧ cnt g - bk g y.i ≤ y.lc ∧ CellsAt w' y.la (List.flatMap (sgnV g) (List.drop (bk g y.i) (List.range (cnt g)))) ∧ Made w' w'3 (142 : TypeId) 2 y.oa y.i (List.flatMap (pcV g) (List.range y.i)) y.oc) ∧ ncl g - y.i < ncl g - x1.i)) (∃ (x2 : Option Addr × Nat × Nat), slice x1.oa x1.i x1.oc = slice x2.fst x2.snd.fst x2.snd.snd ∧ x2.snd.fst = ncl g ∧ Made w w'1 (142 : TypeId) 2 x2.fst x2.snd.fst (List.flatMap (pcV g) (List.range (ncl g))) x2.snd.snd)) : sRAllP.Ok Tryz.prog 73 := ok_of_vc sRAllP annRAllP spRAllP (fun _ _ => rfl) (fun _ _ => rfl) hsp Tryz.func73 rfl (n := 1) (fun _ => rfl) (by kernel_rfl) (vcast (by kernel_rfl) h)
theorem rnextC_vc (hsp : SpecsOk Tryz.prog spRNextC) (h : ∀ (g : ByteArray) (w : World), U8 w ∧ g.size ≤ 67108864 → ∃ (g1 : ByteArray), #[string g] = #[string g1] ∧ (U8 w ∧ g1.size ≤ 67108864) ∧ ∀ (x : Option Addr × Nat × Nat) w', x.snd.fst = cnt g1 ∧ Made w w' (134 : TypeId) 3 x.fst x.snd.fst (List.flatMap (sgnV g1) (List.range (cnt g1))) x.snd.snd → bcase ((x.snd.fst : Int) == 0) (∃ (x1 : Nat), int .i64 0 = int .i64 (x1 : Int) ∧ x1 = nextL g ∧ Ext w w') (∃ (g2 : GFst), #[slice x.fst x.snd.fst x.snd.snd] = #[slice g2.a (cnt g2.s - g2.k) g2.c] ∧ (g2.k < cnt g2.s ∧ g2.s.size ≤ 67108864 ∧ CellsAt w' g2.a (List.flatMap (sgnV g2.s) (List.drop g2.k (List.range (cnt g2.s))))) ∧ ∀ (x1 : Nat) w'1, x1 = firstN g2.s g2.k ∧ Ext w' w'1 → bcase ((x1 : Int) == (x.snd.fst : Int)) (∃ (x2 : Nat), int .i64 (g.size : Int) = int .i64 (x2 : Int) ∧ x2 = nextL g ∧ Ext w w'1) (IxE (x1 : Int) x.snd.fst fun k => ptrE x.fst fun (b o : Nat) => LdI w'1 b (o + k * 3 + 1) fun n => ∃ (x2 : Nat), int .i64 n = int .i64 (x2 : Int) ∧ x2 = nextL g ∧ Ext w w'1))) :
    ((sSN nextL)).Ok Tryz.prog 69 := ok_of_vc (sSN nextL) (annOf spRNextC) spRNextC (fun _ _ => rfl) (fun _ _ => rfl) hsp Tryz.func69 rfl (n := 1) (fun _ => rfl) (by kernel_rfl) (vcast (by kernel_rfl) h)
end
end Go.Proofs.YtjdohhididpomaaGreatDoor
