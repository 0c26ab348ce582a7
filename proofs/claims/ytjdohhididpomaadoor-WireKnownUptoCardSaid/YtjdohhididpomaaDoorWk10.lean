/-
  Texts joined by program: WkB, Gi, WkSf, VgK, WkK, VgN.
-/
import Derived.Test.YtjdohhididpomaaDoorWk09
import Derived.Test.YtjdohhididpomaaDoorWk05
import Derived.Test.YtjdohhididpomaaDoorProg
import Derived.KernelRfl
set_option linter.unusedVariables false
set_option linter.unusedSimpArgs false

section
namespace Go.Proofs.YtjdohhididpomaaDoor
open Go Go.RowKit Vc Ut
theorem oneV_len (s : ByteArray) (n : Nat) : (oneV s n).length = 4 := rfl
theorem oneV_one (s : ByteArray) (n : Nat) : ∀ u ∈ oneV s n, u.oneCell' = true := by
  intro u hu
  simp only [oneV, List.mem_cons, List.not_mem_nil, or_false] at hu
  rcases hu with rfl | rfl | rfl | rfl <;> rfl
theorem ones_len (s : ByteArray) (l : List Nat) : (l.flatMap (oneV s)).length = l.length * 4 := flat_len' (oneV_len s) l
theorem one_cell {s : ByteArray} {l : List Nat} {k j n : Nat} {v : Value} (hk : l[k]? = some n) (hj : (oneV s n)[j]? = some v) : (l.flatMap (oneV s))[k * 4 + j]? = some v := by
  rw [flat_at (oneV_len s) hk (by have := (List.getElem?_eq_some_iff.1 hj).1; simpa [oneV] using this)]; exact hj
theorem all_at {s : ByteArray} {k : Nat} (h : k < cnt s) : (allN s)[k]? = some k := by simp [allN, List.getElem?_range, h]
theorem back_at {s : ByteArray} {k : Nat} (h : k < cnt s) : (backN s)[k]? = some (cnt s - 1 - k) := by
  simp [backN, List.getElem?_map, List.getElem?_range, h]
theorem back_len (s : ByteArray) : (backN s).length = cnt s := by simp [backN]
theorem badT_succ (s : ByteArray) (n : Nat) : badT s (n + 1) = badT s n ++ (if isBad s n then [(pos s n : Int)] else []) := by
  unfold badT
  rw [List.range_succ, List.filter_append, List.map_append]
  congr 1
  by_cases h : isBad s n = true <;> simp [h]
theorem badT_len (s : ByteArray) (n : Nat) : (badT s n).length ≤ n := by
  unfold badT; rw [List.length_map]; have := List.length_filter_le (isBad s) (List.range n); simpa using this
theorem grown_heap {w w1 : World} {a : Option Addr} {b : Nat} {o : Obj} (h : w.grownBy w1 (blk a)) (hb : w.heap[b]? = some o) (hne : blk a ≠ some b) : w1.heap[b]? = some o :=
  (h.block b (Array.getElem?_eq_some_iff.1 hb).1 (fun e => hne e.symm)).trans hb
theorem row_apart {w : World} {e : TypeId} {s n c b : Nat} {ad : Option Addr} {vs : List Value} {t : ByteArray} {i : Nat} (h : Row w e s ad n vs c) (hb : w.heap[b]? = some (.stringIter t i)) : blk ad ≠ some b := by
  rcases h.2 with ⟨rfl, _⟩ | ⟨g, cur, rfl, h1, _⟩
  · simp [blk]
  · intro hh
    simp only [blk, Option.map_some, Option.some.injEq] at hh
    subst hh; rw [hb] at h1; cases h1
theorem newRunes_made {w w1 : World} {s : ByteArray} {e c b : Nat} (h : NewRunes w s e c b w1) : Made w w1 e 1 (some ⟨b, 0, none⟩) (runesV s).length ((runes s).map (Value.int .i32)) c := by
  obtain ⟨h1, h2, rfl, rfl⟩ := h
  have hext : Ext w (w.drew.alloc (.cells (runesV s ++ List.replicate (c - (runesV s).length) (Value.int .i32 0)).toArray e)) := ((Below.refl w.heap.size w).drew).alloc (Nat.le_refl _) _
  refine ⟨⟨by rw [runesV_eq, Nat.mul_one], .inr ⟨w.heap.size, (runesV s ++ List.replicate (c - (runesV s).length) (Value.int .i32 0)).toArray, rfl, ?_, h1, h2, ?_, ?_⟩⟩, ?_, hext⟩
  · show (w.heap.push _)[w.heap.size]? = _
    simp
  · simp; omega
  · rw [Nat.mul_one, List.take_left' rfl, runesV_eq]
  · intro g hg; simp [blk] at hg; omega
theorem runesV_len (s : ByteArray) : (runesV s).length = cnt s := by rw [runesV_eq, List.length_map, runes_len]
theorem runesIn_of {w : World} {ad : Option Addr} {xs : List Int} (h : CellsAt w ad (xs.map (Value.int .i32))) : RunesIn w ad xs.length xs := by
  refine ⟨rfl, ?_⟩
  rcases h with h | ⟨b, o, rfl, h⟩
  · left; simpa using h
  · right
    refine ⟨b, o, rfl, fun j hj => h j _ ?_⟩
    simp [List.getD, hj]
theorem bytesIn_of {w : World} {ad : Option Addr} {n : Nat} {s : ByteArray} (hn : n = s.size) (h : CellsAt w ad (s.data.toList.map fun b => Value.int .u8 (b.toNat : Int))) : BytesIn w ad n s := by
  refine ⟨hn.symm, ?_⟩
  rcases h with h | ⟨b, o, rfl, h⟩
  · left; have := size_list s; rw [List.map_eq_nil_iff] at h; rw [h] at this; simp at this; omega
  · right
    refine ⟨b, o, rfl, fun j hj => h j _ ?_⟩
    have hl := size_list s
    rw [List.getElem?_map, List.getD_eq_getElem?_getD, List.getElem?_eq_getElem (by omega)]; rfl
theorem bytes_list (xs : List Int) : (runesBytes xs).data.toList.map (fun b => Value.int .u8 (b.toNat : Int)) = (xs.flatMap encL).map (Value.int .u8) := by
  apply List.ext_getElem?
  intro j
  have hsz := runesBytes_size xs
  have hl := size_list (runesBytes xs)
  rw [List.getElem?_map, List.getElem?_map]
  by_cases h : j < (xs.flatMap encL).length
  · have e := runesBytes_bt xs j h
    have hnn := flat_encL_nonneg xs _ (List.getElem_mem h)
    rw [List.getD_eq_getElem?_getD, List.getD_eq_getElem?_getD, List.getElem?_eq_getElem h, List.getElem?_eq_getElem (by omega)] at e
    rw [List.getElem?_eq_getElem h, List.getElem?_eq_getElem (by omega)]
    simp only [Option.map_some, Option.getD_some] at e ⊢
    congr 2; omega
  · rw [List.getElem?_eq_none (by omega), List.getElem?_eq_none (by omega)]; rfl
end Go.Proofs.YtjdohhididpomaaDoor
end

section
namespace Go.Proofs.YtjdohhididpomaaDoor.Vc
open Go Go.RowKit
theorem Stored.box {w w1 : World} {b : Nat} {u v : Value} {t : TypeId} (hs : Stored w ⟨b, 0, none⟩ v w1) (h : w.heap[b]? = some (.cells #[u] t)) : w1.heap[b]? = some (.cells #[v] t) := by
  have := hs.heap h
  simpa using this
theorem box_cell {w : World} {b : Nat} {v : Value} {t : TypeId} (h : w.heap[b]? = some (.cells #[v] t)) : w.cell? ⟨b, 0, none⟩ = some v := by
  rw [cell_of_heap h]; rfl
theorem box_old {w : World} {b : Nat} {v : Value} {t : TypeId} (h : w.heap[b]? = some (.cells #[v] t)) : ∃ old, w.cell? ⟨b, 0, none⟩ = some old := ⟨v, box_cell h⟩
theorem box_free {w : World} {b : Nat} {v : Value} {t : TypeId} (h : w.heap[b]? = some (.cells #[v] t)) : w.frozen? ⟨b, 0, none⟩ = false := frozen_of_heap h _
theorem heap_lt {w : World} {b : Nat} {o : Obj} (h : w.heap[b]? = some o) : b < w.heap.size := (Array.getElem?_eq_some_iff.1 h).1
theorem Step.stored {D : Nat → Prop} {W W1 : World} {p : Addr} {v : Value} (hs : Stored W p v W1) (hD : D p.block) (hdom : ∀ q, D q → q < W.heap.size) : Step D W W1 D :=
  ⟨(Fr.stored hs).mono (fun x _ hx => by subst hx; exact hD), fun q hq => ⟨by rw [hs.size]; exact hdom q hq, .inl hq⟩⟩
theorem Step.refl {D : Nat → Prop} {W : World} (hdom : ∀ q, D q → q < W.heap.size) : Step D W W D := ⟨Fr.refl _ _, fun q hq => ⟨hdom q hq, .inl hq⟩⟩
theorem Step.trans {D D1 D2 : Nat → Prop} {a b c : World} (h : Step D a b D1) (k : Step D1 b c D2) : Step D a c D2 :=
  ⟨h.fr.trans k.fr (fun x hx hd => ((h.dom x hd).2).elim id (fun h2 => by omega)), fun q hq => ⟨(k.dom q hq).1, (k.dom q hq).2.elim (fun h1 => ((h.dom q h1).2)) (fun h2 => .inr (Nat.le_trans h.fr.size h2))⟩⟩
theorem Step.ext {D : Nat → Prop} {W W1 : World} (hx : Ext W W1) (hdom : ∀ q, D q → q < W.heap.size) : Step D W W1 D := ⟨Fr.of_ext hx, fun q hq => ⟨Nat.lt_of_lt_of_le (hdom q hq) hx.size, .inl hq⟩⟩
theorem Mid.step {w W W1 : World} {D0 D D' : Nat → Prop} (h : Mid w D0 D W) (k : Step D W W1 D') : Mid w D0 D' W1 :=
  ⟨h.fr.trans k.fr (fun x hx hd => ((h.dom x hd).2).elim id (fun h2 => by omega)), fun q hq => ⟨(k.dom q hq).1, (k.dom q hq).2.elim (fun h1 => (h.dom q h1).2) (fun h2 => .inr (Nat.le_trans h.fr.size h2))⟩⟩
theorem Mid.lt {w W : World} {D0 D : Nat → Prop} (h : Mid w D0 D W) : ∀ q, D q → q < W.heap.size := fun q hq => (h.dom q hq).1
theorem Mid.old {w W : World} {D0 D : Nat → Prop} (h : Mid w D0 D W) {b : Nat} (hb : b < w.heap.size) (h0 : ¬ D0 b) : W.heap[b]? = w.heap[b]? := h.fr.block b hb h0
theorem Mid.start {w W : World} {D0 : Nat → Prop} (h : Ext w W) (hd : ∀ q, D0 q → q < w.heap.size) : Mid w D0 D0 W := ⟨Fr.of_ext h, fun q hq => ⟨Nat.lt_of_lt_of_le (hd q hq) h.size, .inl hq⟩⟩
theorem Mid.own {w W W1 : World} {D0 D : Nat → Prop} {S : Nat → Prop} (h : Mid w D0 D W) (hf : Fr S W W1) (hS : ∀ q, S q → w.heap.size ≤ q) : Mid w D0 D W1 :=
  ⟨h.fr.trans hf (fun x hx hs => by have := hS x hs; omega), fun q hq => ⟨Nat.lt_of_lt_of_le (h.dom q hq).1 hf.size, (h.dom q hq).2⟩⟩
theorem Nexted.fr {w w1 : World} {r i : Nat} {s : ByteArray} (h : Nexted w r s i w1) : Fr (fun q => q = r) w w1 := by
  subst h; exact Fr.putObj w r _
theorem Mid.ext {w0 w W : World} {D0 D : Nat → Prop} (h : Mid w D0 D W) (hx : Ext w0 w) (h0 : ∀ q, D0 q → w0.heap.size ≤ q) : Ext w0 W :=
  Below.trans hx (h.fr.below hx.size (fun q hq hd => by have := h0 q hd; omega))
theorem Ext.turn {w0 w w2 : World} (h : Ext w0 w) (ht : Turn w0.heap.size w w2) : Ext w0 w2 := Below.trans h ht.ext
theorem Ext.stored {w0 w w1 : World} {p : Addr} {v : Value} (h : Ext w0 w) (hs : Stored w p v w1) (hp : w0.heap.size ≤ p.block) : Ext w0 w1 := hs.below h hp
theorem CellsAt.mid {w0 w W : World} {S : Nat → Prop} {ad : Option Addr} {vs : List Value} (h : CellsAt w0 ad vs) (hx : Ext w0 w) (hf : Fr S w W) (hS : ∀ q, q < w0.heap.size → ¬ S q) : CellsAt W ad vs := by
  rcases h with h | ⟨b, o, h1, h2⟩
  · exact .inl h
  · refine .inr ⟨b, o, h1, fun j v hv => ?_⟩
    have hc := h2 j v hv
    have hb : b < w0.heap.size := World.block_lt_of_cell? w0 _ hc
    exact (World.cell?_of_block (w := w) (hf.block b (Nat.lt_of_lt_of_le hb hx.size) (hS b hb))).trans (hx.cell hc)
end Go.Proofs.YtjdohhididpomaaDoor.Vc
end

section
namespace Go.Proofs.YtjdohhididpomaaDoor
open Go Go.RowKit Vc Ut Tb Cl
theorem DB.ext {w w' : World} (h : DB w) (e : Ext w w') : DB w' := e.cell h
theorem inr_u64 {n : Int} (h1 : 0 ≤ n) (h2 : n ≤ 18446744073709551615) : InR .u64 n := ⟨h1, h2⟩
theorem tz64_ok : (sTz .u64).Ok Tryd.prog 97 := by
  refine tz64_vc trivial ?_
  rintro _ w hD
  exact ⟨⟨by decide +kernel, by decide +kernel⟩, 15, rfl, by decide, 4, hD, inr_i64 (by decide) (by decide), (), rfl, rfl⟩
theorem tz_ok : (sTz .u64).Ok Tryd.prog 93 := by
  refine tz_vc ⟨tz64_ok, trivial⟩ ?_
  rintro _ w hD
  exact ⟨(), rfl, hD, fun _ w' h => ⟨(), rfl, h⟩⟩
theorem pow_ok : sPow.Ok Tryd.prog 92 := by
  refine pow_vc trivial ?_
  rintro _ w _
  exact ⟨inr_i64 (by decide) (by decide), (), rfl, rfl⟩
theorem digs16 : ∀ k, k < 16 → [(48 : UInt8), 49, 50, 51, 52, 53, 54, 55, 56, 57, 97, 98, 99, 100, 101, 102].getD k 0 = hexB k := by decide
theorem digs36 : ∀ k, k < 16 → [(48 : UInt8), 49, 50, 51, 52, 53, 54, 55, 56, 57, 97, 98, 99, 100, 101, 102, 103, 104, 105, 106, 107, 108, 109, 110, 111, 112, 113, 114, 115, 116, 117, 118, 119, 120, 121, 122].getD k 0 = hexB k := by decide
theorem and15 {m : Nat} (h : m < 18446744073709551616) : IntKind.u64.wrap (((BitVec.ofInt IntKind.u64.bits (m : Int) &&& BitVec.ofInt IntKind.u64.bits ((16 : Int) - 1)).toNat : Nat) : Int) = ((m % 16 : Nat) : Int) := by
  have h1 : (BitVec.ofInt IntKind.u64.bits (m : Int) &&& BitVec.ofInt IntKind.u64.bits ((16 : Int) - 1)).toNat = m % 16 := by
    rw [BitVec.toNat_and, BitVec.toNat_ofInt, BitVec.toNat_ofInt]
    show ((m : Int) % (2 ^ 64 : Nat)).toNat &&& 15 = m % 16
    rw [show ((m : Int) % ((2 ^ 64 : Nat) : Int)).toNat = m from by omega]
    exact Nat.and_two_pow_sub_one_eq_mod m 4
  rw [h1]
  exact (inr_u64 (by omega) (by omega)).wrap
theorem shr4 (m : Nat) : ((m : Nat) : Int).fdiv ((2 : Int) ^ min (Int.toNat (4 : Int)) IntKind.u64.bits) = ((m / 16 : Nat) : Int) := by
  show (m : Int).fdiv 16 = _
  rw [Int.fdiv_eq_ediv_of_nonneg _ (by decide)]
  rfl
theorem div_pow (u j : Nat) : u / 16 ^ j / 16 = u / 16 ^ (j + 1) := by rw [Nat.div_div_eq_div_mul, Nat.pow_succ]
theorem step_dig {u j d : Nat} (h2 : u < 16 ^ d) (hj : j + 1 ≤ d) (h : 16 ≤ u / 16 ^ j) : j + 2 ≤ d := by
  rcases Nat.lt_or_ge (j + 1) d with h1 | h1
  · exact h1
  · have e : d = j + 1 := by omega
    subst e
    rw [Nat.pow_succ] at h2
    have := Nat.div_lt_of_lt_mul h2
    omega
theorem last_dig {u j d : Nat} (h1 : 16 ^ (d - 1) ≤ u) (hj : j + 1 ≤ d) (h : u / 16 ^ j < 16) : j + 1 = d := by
  rcases Nat.lt_or_ge (j + 1) d with h2 | h2
  · exfalso
    have h3 : 16 ^ (j + 1) ≤ 16 ^ (d - 1) := Nat.pow_le_pow_right (by decide) (by omega)
    have h4 : 16 ≤ u / 16 ^ j := (Nat.le_div_iff_mul_le (Nat.pow_pos (by decide))).2 (by rw [Nat.mul_comm, ← Nat.pow_succ]; exact Nat.le_trans h3 h1)
    omega
  · omega
theorem num_len (x : Nat) : ∀ j, (numS x j).length = j
  | 0 => rfl
  | j + 1 => by simp only [numS, List.length_cons, num_len x j]
theorem strL_size (l : List UInt8) : (strL l).size = l.length := by simp [strL, ByteArray.size]
theorem u8L_len (l : List UInt8) : (u8L l).length = l.length := by simp [u8L]
theorem arr_len {u j : Nat} (h : j ≤ 65) : (arrC u j).length = 65 := by
  unfold arrC
  rw [List.length_append, List.length_replicate, u8L_len, num_len]; omega
theorem arr_set {u j : Nat} (h : j < 65) : (arrC u j).toArray.setIfInBounds (64 - j) (.int .u8 ((hexB (u / 16 ^ j % 16)).toNat : Nat)) = (arrC u (j + 1)).toArray := by
  have e : arrC u j = List.replicate (64 - j) (.int .u8 0) ++ ([.int .u8 0] ++ u8L (numS u j)) := by
    unfold arrC
    rw [show 65 - j = (64 - j) + 1 from by omega, List.replicate_succ', List.append_assoc]
  rw [e, List.setIfInBounds_toArray, List.set_append_right _ _ (by rw [List.length_replicate]; exact Nat.le_refl _), List.length_replicate, Nat.sub_self]
  unfold arrC
  rw [show 65 - (j + 1) = 64 - j from by omega]
  rfl
theorem arr_bytes {w : World} {b u d : Nat} (hd : d ≤ 65) (h : w.heap[b]? = some (.cells (arrC u d).toArray 145)) : BytesIn w (some ⟨b, 65 - d, none⟩) d (strL (numS u d)) := by
  refine bytesIn_of (by rw [strL_size, num_len]) (.inr ⟨b, 65 - d, rfl, fun t v hv => ?_⟩)
  have hv : (u8L (numS u d))[t]? = some v := hv
  rw [cell_of_heap h, List.getElem?_toArray]
  unfold arrC
  rw [List.getElem?_append_right (by rw [List.length_replicate]; omega), List.length_replicate, Nat.add_sub_cancel_left]
  exact hv
theorem bit2_ok : (sBitD 2).Ok Tryd.prog 82 := by
  refine bit2_vc ⟨pow_ok, tz_ok, trivial⟩ ?_
  rintro (u : Nat) w ⟨hD, h1, h2⟩ b w1 hn1
  have z1 := hn1.size
  have h16 : u < 16777216 := Nat.lt_of_lt_of_le h2 (by decide)
  refine ⟨(), rfl, trivial, ?_⟩
  rintro _ w2 hw2
  replace hw2 := hw2.symm
  subst hw2
  refine ⟨inr_u64 (by decide) (by decide), (), rfl, hD.ext hn1.ext, ?_⟩
  rintro _ w3 hw3
  replace hw3 := hw3.symm
  subst hw3
  refine ⟨inr_u64 (by decide) (by decide), inr_u64 (by decide) (by decide), inr_u64 (by decide) (by decide), inr_u64 (by decide) (by decide), ⟨⟨0, rfl, by simp, by omega, ⟨b, rfl, by omega, hn1.heap⟩, hn1.ext⟩, ?_⟩, ?_⟩
  · rintro _ j w4 ⟨hj, ⟨b', hb', hge, hh⟩, e4⟩
    cases hb'
    have hle : u / 16 ^ j ≤ u := Nat.div_le_self _ _
    refine bcase_mk (fun h => ?_) (fun h => ?_)
    · have h := of_decide_eq_true h
      have hj2 := step_dig h2 hj (by omega)
      have hm : u / 16 ^ j % 16 < 16 := Nat.mod_lt _ (by decide)
      have ho : ((64 - j : Nat) : Int) = (65 : Int) - (j : Int) - 1 := by omega
      refine ⟨inr_i64 (by omega) (by omega), u / 16 ^ j % 16, and15 (by omega), by show _ < 36; omega, 64 - j, ho.symm, by omega, rfl, ⟨_, by rw [cell_of_heap hh, Array.getElem?_eq_getElem (by rw [List.size_toArray, arr_len (by omega)]; omega)]⟩, frozen_of_heap hh _, fun w5 hs5 => ?_⟩
      have hh5 := hs5.heap hh
      rw [digs36 _ hm, Nat.zero_add, arr_set (by omega)] at hh5
      exact ⟨j + 1, by congr 1; omega, by rw [shr4, div_pow], ⟨by omega, ⟨b, rfl, hge, hh5⟩, e4.stored hs5 (by show _ ≤ b; omega)⟩, by omega⟩
    · have h := of_decide_eq_false h
      have hjd := last_dig h1 hj (by omega)
      have hj : j = 2 - 1 := by omega
      subst hj
      exact ⟨(), rfl, rfl, ⟨b, _, rfl, hge, rfl, hh⟩, e4⟩
  · rintro _ _ w4 ⟨⟨b', j, hb', hge, hjd, hh⟩, e4⟩
    cases hb'
    have hj : j = 2 - 1 := by omega
    subst hj
    have hm : u / 16 ^ (2 - 1) < 16 := Nat.div_lt_of_lt_mul h2
    refine ⟨inr_i64 (by decide) (by decide), _, rfl, by show _ < 36; omega, 64 - 1, rfl, by decide, rfl, ⟨_, by rw [cell_of_heap hh, Array.getElem?_eq_getElem (by rw [List.size_toArray, arr_len (by decide)]; decide)]⟩, frozen_of_heap hh _, fun w5 hs5 => ?_⟩
    have hh5 := hs5.heap hh
    rw [digs36 _ hm] at hh5
    have hs := arr_set (u := u) (j := 2 - 1) (by decide)
    rw [Nat.mod_eq_of_lt hm] at hs
    have hh6 : w5.heap[b]? = some (.cells (arrC u 2).toArray 145) := hh5.trans (congrArg (fun c => some (Obj.cells c 145)) hs)
    exact ⟨strL (numS u 2), arr_bytes (by decide) hh6, ((), strL (numS u 2)), rfl, rfl, e4.stored hs5 (by show _ ≤ b; omega)⟩
theorem bit3_ok : (sBitD 3).Ok Tryd.prog 82 := by
  refine bit3_vc ⟨pow_ok, tz_ok, trivial⟩ ?_
  rintro (u : Nat) w ⟨hD, h1, h2⟩ b w1 hn1
  have z1 := hn1.size
  have h16 : u < 16777216 := Nat.lt_of_lt_of_le h2 (by decide)
  refine ⟨(), rfl, trivial, ?_⟩
  rintro _ w2 hw2
  replace hw2 := hw2.symm
  subst hw2
  refine ⟨inr_u64 (by decide) (by decide), (), rfl, hD.ext hn1.ext, ?_⟩
  rintro _ w3 hw3
  replace hw3 := hw3.symm
  subst hw3
  refine ⟨inr_u64 (by decide) (by decide), inr_u64 (by decide) (by decide), inr_u64 (by decide) (by decide), inr_u64 (by decide) (by decide), ⟨⟨0, rfl, by simp, by omega, ⟨b, rfl, by omega, hn1.heap⟩, hn1.ext⟩, ?_⟩, ?_⟩
  · rintro _ j w4 ⟨hj, ⟨b', hb', hge, hh⟩, e4⟩
    cases hb'
    have hle : u / 16 ^ j ≤ u := Nat.div_le_self _ _
    refine bcase_mk (fun h => ?_) (fun h => ?_)
    · have h := of_decide_eq_true h
      have hj2 := step_dig h2 hj (by omega)
      have hm : u / 16 ^ j % 16 < 16 := Nat.mod_lt _ (by decide)
      have ho : ((64 - j : Nat) : Int) = (65 : Int) - (j : Int) - 1 := by omega
      refine ⟨inr_i64 (by omega) (by omega), u / 16 ^ j % 16, and15 (by omega), by show _ < 36; omega, 64 - j, ho.symm, by omega, rfl, ⟨_, by rw [cell_of_heap hh, Array.getElem?_eq_getElem (by rw [List.size_toArray, arr_len (by omega)]; omega)]⟩, frozen_of_heap hh _, fun w5 hs5 => ?_⟩
      have hh5 := hs5.heap hh
      rw [digs36 _ hm, Nat.zero_add, arr_set (by omega)] at hh5
      exact ⟨j + 1, by congr 1; omega, by rw [shr4, div_pow], ⟨by omega, ⟨b, rfl, hge, hh5⟩, e4.stored hs5 (by show _ ≤ b; omega)⟩, by omega⟩
    · have h := of_decide_eq_false h
      have hjd := last_dig h1 hj (by omega)
      have hj : j = 3 - 1 := by omega
      subst hj
      exact ⟨(), rfl, rfl, ⟨b, _, rfl, hge, rfl, hh⟩, e4⟩
  · rintro _ _ w4 ⟨⟨b', j, hb', hge, hjd, hh⟩, e4⟩
    cases hb'
    have hj : j = 3 - 1 := by omega
    subst hj
    have hm : u / 16 ^ (3 - 1) < 16 := Nat.div_lt_of_lt_mul h2
    refine ⟨inr_i64 (by decide) (by decide), _, rfl, by show _ < 36; omega, 63 - 1, rfl, by decide, rfl, ⟨_, by rw [cell_of_heap hh, Array.getElem?_eq_getElem (by rw [List.size_toArray, arr_len (by decide)]; decide)]⟩, frozen_of_heap hh _, fun w5 hs5 => ?_⟩
    have hh5 := hs5.heap hh
    rw [digs36 _ hm] at hh5
    have hs := arr_set (u := u) (j := 3 - 1) (by decide)
    rw [Nat.mod_eq_of_lt hm] at hs
    have hh6 : w5.heap[b]? = some (.cells (arrC u 3).toArray 145) := hh5.trans (congrArg (fun c => some (Obj.cells c 145)) hs)
    exact ⟨strL (numS u 3), arr_bytes (by decide) hh6, ((), strL (numS u 3)), rfl, rfl, e4.stored hs5 (by show _ ≤ b; omega)⟩
theorem bit4_ok : (sBitD 4).Ok Tryd.prog 82 := by
  refine bit4_vc ⟨pow_ok, tz_ok, trivial⟩ ?_
  rintro (u : Nat) w ⟨hD, h1, h2⟩ b w1 hn1
  have z1 := hn1.size
  have h16 : u < 16777216 := Nat.lt_of_lt_of_le h2 (by decide)
  refine ⟨(), rfl, trivial, ?_⟩
  rintro _ w2 hw2
  replace hw2 := hw2.symm
  subst hw2
  refine ⟨inr_u64 (by decide) (by decide), (), rfl, hD.ext hn1.ext, ?_⟩
  rintro _ w3 hw3
  replace hw3 := hw3.symm
  subst hw3
  refine ⟨inr_u64 (by decide) (by decide), inr_u64 (by decide) (by decide), inr_u64 (by decide) (by decide), inr_u64 (by decide) (by decide), ⟨⟨0, rfl, by simp, by omega, ⟨b, rfl, by omega, hn1.heap⟩, hn1.ext⟩, ?_⟩, ?_⟩
  · rintro _ j w4 ⟨hj, ⟨b', hb', hge, hh⟩, e4⟩
    cases hb'
    have hle : u / 16 ^ j ≤ u := Nat.div_le_self _ _
    refine bcase_mk (fun h => ?_) (fun h => ?_)
    · have h := of_decide_eq_true h
      have hj2 := step_dig h2 hj (by omega)
      have hm : u / 16 ^ j % 16 < 16 := Nat.mod_lt _ (by decide)
      have ho : ((64 - j : Nat) : Int) = (65 : Int) - (j : Int) - 1 := by omega
      refine ⟨inr_i64 (by omega) (by omega), u / 16 ^ j % 16, and15 (by omega), by show _ < 36; omega, 64 - j, ho.symm, by omega, rfl, ⟨_, by rw [cell_of_heap hh, Array.getElem?_eq_getElem (by rw [List.size_toArray, arr_len (by omega)]; omega)]⟩, frozen_of_heap hh _, fun w5 hs5 => ?_⟩
      have hh5 := hs5.heap hh
      rw [digs36 _ hm, Nat.zero_add, arr_set (by omega)] at hh5
      exact ⟨j + 1, by congr 1; omega, by rw [shr4, div_pow], ⟨by omega, ⟨b, rfl, hge, hh5⟩, e4.stored hs5 (by show _ ≤ b; omega)⟩, by omega⟩
    · have h := of_decide_eq_false h
      have hjd := last_dig h1 hj (by omega)
      have hj : j = 4 - 1 := by omega
      subst hj
      exact ⟨(), rfl, rfl, ⟨b, _, rfl, hge, rfl, hh⟩, e4⟩
  · rintro _ _ w4 ⟨⟨b', j, hb', hge, hjd, hh⟩, e4⟩
    cases hb'
    have hj : j = 4 - 1 := by omega
    subst hj
    have hm : u / 16 ^ (4 - 1) < 16 := Nat.div_lt_of_lt_mul h2
    refine ⟨inr_i64 (by decide) (by decide), _, rfl, by show _ < 36; omega, 62 - 1, rfl, by decide, rfl, ⟨_, by rw [cell_of_heap hh, Array.getElem?_eq_getElem (by rw [List.size_toArray, arr_len (by decide)]; decide)]⟩, frozen_of_heap hh _, fun w5 hs5 => ?_⟩
    have hh5 := hs5.heap hh
    rw [digs36 _ hm] at hh5
    have hs := arr_set (u := u) (j := 4 - 1) (by decide)
    rw [Nat.mod_eq_of_lt hm] at hs
    have hh6 : w5.heap[b]? = some (.cells (arrC u 4).toArray 145) := hh5.trans (congrArg (fun c => some (Obj.cells c 145)) hs)
    exact ⟨strL (numS u 4), arr_bytes (by decide) hh6, ((), strL (numS u 4)), rfl, rfl, e4.stored hs5 (by show _ ≤ b; omega)⟩
theorem bit5_ok : (sBitD 5).Ok Tryd.prog 82 := by
  refine bit5_vc ⟨pow_ok, tz_ok, trivial⟩ ?_
  rintro (u : Nat) w ⟨hD, h1, h2⟩ b w1 hn1
  have z1 := hn1.size
  have h16 : u < 16777216 := Nat.lt_of_lt_of_le h2 (by decide)
  refine ⟨(), rfl, trivial, ?_⟩
  rintro _ w2 hw2
  replace hw2 := hw2.symm
  subst hw2
  refine ⟨inr_u64 (by decide) (by decide), (), rfl, hD.ext hn1.ext, ?_⟩
  rintro _ w3 hw3
  replace hw3 := hw3.symm
  subst hw3
  refine ⟨inr_u64 (by decide) (by decide), inr_u64 (by decide) (by decide), inr_u64 (by decide) (by decide), inr_u64 (by decide) (by decide), ⟨⟨0, rfl, by simp, by omega, ⟨b, rfl, by omega, hn1.heap⟩, hn1.ext⟩, ?_⟩, ?_⟩
  · rintro _ j w4 ⟨hj, ⟨b', hb', hge, hh⟩, e4⟩
    cases hb'
    have hle : u / 16 ^ j ≤ u := Nat.div_le_self _ _
    refine bcase_mk (fun h => ?_) (fun h => ?_)
    · have h := of_decide_eq_true h
      have hj2 := step_dig h2 hj (by omega)
      have hm : u / 16 ^ j % 16 < 16 := Nat.mod_lt _ (by decide)
      have ho : ((64 - j : Nat) : Int) = (65 : Int) - (j : Int) - 1 := by omega
      refine ⟨inr_i64 (by omega) (by omega), u / 16 ^ j % 16, and15 (by omega), by show _ < 36; omega, 64 - j, ho.symm, by omega, rfl, ⟨_, by rw [cell_of_heap hh, Array.getElem?_eq_getElem (by rw [List.size_toArray, arr_len (by omega)]; omega)]⟩, frozen_of_heap hh _, fun w5 hs5 => ?_⟩
      have hh5 := hs5.heap hh
      rw [digs36 _ hm, Nat.zero_add, arr_set (by omega)] at hh5
      exact ⟨j + 1, by congr 1; omega, by rw [shr4, div_pow], ⟨by omega, ⟨b, rfl, hge, hh5⟩, e4.stored hs5 (by show _ ≤ b; omega)⟩, by omega⟩
    · have h := of_decide_eq_false h
      have hjd := last_dig h1 hj (by omega)
      have hj : j = 5 - 1 := by omega
      subst hj
      exact ⟨(), rfl, rfl, ⟨b, _, rfl, hge, rfl, hh⟩, e4⟩
  · rintro _ _ w4 ⟨⟨b', j, hb', hge, hjd, hh⟩, e4⟩
    cases hb'
    have hj : j = 5 - 1 := by omega
    subst hj
    have hm : u / 16 ^ (5 - 1) < 16 := Nat.div_lt_of_lt_mul h2
    refine ⟨inr_i64 (by decide) (by decide), _, rfl, by show _ < 36; omega, 61 - 1, rfl, by decide, rfl, ⟨_, by rw [cell_of_heap hh, Array.getElem?_eq_getElem (by rw [List.size_toArray, arr_len (by decide)]; decide)]⟩, frozen_of_heap hh _, fun w5 hs5 => ?_⟩
    have hh5 := hs5.heap hh
    rw [digs36 _ hm] at hh5
    have hs := arr_set (u := u) (j := 5 - 1) (by decide)
    rw [Nat.mod_eq_of_lt hm] at hs
    have hh6 : w5.heap[b]? = some (.cells (arrC u 5).toArray 145) := hh5.trans (congrArg (fun c => some (Obj.cells c 145)) hs)
    exact ⟨strL (numS u 5), arr_bytes (by decide) hh6, ((), strL (numS u 5)), rfl, rfl, e4.stored hs5 (by show _ ≤ b; omega)⟩
theorem bit6_ok : (sBitD 6).Ok Tryd.prog 82 := by
  refine bit6_vc ⟨pow_ok, tz_ok, trivial⟩ ?_
  rintro (u : Nat) w ⟨hD, h1, h2⟩ b w1 hn1
  have z1 := hn1.size
  have h16 : u < 16777216 := Nat.lt_of_lt_of_le h2 (by decide)
  refine ⟨(), rfl, trivial, ?_⟩
  rintro _ w2 hw2
  replace hw2 := hw2.symm
  subst hw2
  refine ⟨inr_u64 (by decide) (by decide), (), rfl, hD.ext hn1.ext, ?_⟩
  rintro _ w3 hw3
  replace hw3 := hw3.symm
  subst hw3
  refine ⟨inr_u64 (by decide) (by decide), inr_u64 (by decide) (by decide), inr_u64 (by decide) (by decide), inr_u64 (by decide) (by decide), ⟨⟨0, rfl, by simp, by omega, ⟨b, rfl, by omega, hn1.heap⟩, hn1.ext⟩, ?_⟩, ?_⟩
  · rintro _ j w4 ⟨hj, ⟨b', hb', hge, hh⟩, e4⟩
    cases hb'
    have hle : u / 16 ^ j ≤ u := Nat.div_le_self _ _
    refine bcase_mk (fun h => ?_) (fun h => ?_)
    · have h := of_decide_eq_true h
      have hj2 := step_dig h2 hj (by omega)
      have hm : u / 16 ^ j % 16 < 16 := Nat.mod_lt _ (by decide)
      have ho : ((64 - j : Nat) : Int) = (65 : Int) - (j : Int) - 1 := by omega
      refine ⟨inr_i64 (by omega) (by omega), u / 16 ^ j % 16, and15 (by omega), by show _ < 36; omega, 64 - j, ho.symm, by omega, rfl, ⟨_, by rw [cell_of_heap hh, Array.getElem?_eq_getElem (by rw [List.size_toArray, arr_len (by omega)]; omega)]⟩, frozen_of_heap hh _, fun w5 hs5 => ?_⟩
      have hh5 := hs5.heap hh
      rw [digs36 _ hm, Nat.zero_add, arr_set (by omega)] at hh5
      exact ⟨j + 1, by congr 1; omega, by rw [shr4, div_pow], ⟨by omega, ⟨b, rfl, hge, hh5⟩, e4.stored hs5 (by show _ ≤ b; omega)⟩, by omega⟩
    · have h := of_decide_eq_false h
      have hjd := last_dig h1 hj (by omega)
      have hj : j = 6 - 1 := by omega
      subst hj
      exact ⟨(), rfl, rfl, ⟨b, _, rfl, hge, rfl, hh⟩, e4⟩
  · rintro _ _ w4 ⟨⟨b', j, hb', hge, hjd, hh⟩, e4⟩
    cases hb'
    have hj : j = 6 - 1 := by omega
    subst hj
    have hm : u / 16 ^ (6 - 1) < 16 := Nat.div_lt_of_lt_mul h2
    refine ⟨inr_i64 (by decide) (by decide), _, rfl, by show _ < 36; omega, 60 - 1, rfl, by decide, rfl, ⟨_, by rw [cell_of_heap hh, Array.getElem?_eq_getElem (by rw [List.size_toArray, arr_len (by decide)]; decide)]⟩, frozen_of_heap hh _, fun w5 hs5 => ?_⟩
    have hh5 := hs5.heap hh
    rw [digs36 _ hm] at hh5
    have hs := arr_set (u := u) (j := 6 - 1) (by decide)
    rw [Nat.mod_eq_of_lt hm] at hs
    have hh6 : w5.heap[b]? = some (.cells (arrC u 6).toArray 145) := hh5.trans (congrArg (fun c => some (Obj.cells c 145)) hs)
    exact ⟨strL (numS u 6), arr_bytes (by decide) hh6, ((), strL (numS u 6)), rfl, rfl, e4.stored hs5 (by show _ ≤ b; omega)⟩
theorem dig_cases (u : Nat) : digN u = 2 ∧ u < 256 ∨ digN u = 3 ∧ 256 ≤ u ∧ u < 4096 ∨ digN u = 4 ∧ 4096 ≤ u ∧ u < 65536 ∨ digN u = 5 ∧ 65536 ≤ u ∧ u < 1048576 ∨ digN u = 6 ∧ 1048576 ≤ u := by
  unfold digN
  split
  · omega
  · split
    · omega
    · split
      · omega
      · split <;> omega
theorem bits_ok : sBits.Ok Tryd.prog 82 := by
  rintro (u : Nat) w ⟨hD, h1, h2⟩
  rcases dig_cases u with ⟨e, h3⟩ | ⟨e, h3, h4⟩ | ⟨e, h3, h4⟩ | ⟨e, h3, h4⟩ | ⟨e, h3⟩
  · exact (bit2_ok u w ⟨hD, h1, h3⟩).mono fun e' w' ⟨x, he, ⟨hx, hxt⟩, hko⟩ => ⟨x, he, ⟨by rw [hx, e], hxt⟩, hko⟩
  · exact (bit3_ok u w ⟨hD, h3, h4⟩).mono fun e' w' ⟨x, he, ⟨hx, hxt⟩, hko⟩ => ⟨x, he, ⟨by rw [hx, e], hxt⟩, hko⟩
  · exact (bit4_ok u w ⟨hD, h3, h4⟩).mono fun e' w' ⟨x, he, ⟨hx, hxt⟩, hko⟩ => ⟨x, he, ⟨by rw [hx, e], hxt⟩, hko⟩
  · exact (bit5_ok u w ⟨hD, h3, h4⟩).mono fun e' w' ⟨x, he, ⟨hx, hxt⟩, hko⟩ => ⟨x, he, ⟨by rw [hx, e], hxt⟩, hko⟩
  · exact (bit6_ok u w ⟨hD, h3, h2⟩).mono fun e' w' ⟨x, he, ⟨hx, hxt⟩, hko⟩ => ⟨x, he, ⟨by rw [hx, e], hxt⟩, hko⟩
theorem fmtI_ok : sFmtI.Ok Tryd.prog 88 := by
  refine fmtI_vc ⟨bits_ok, trivial⟩ ?_
  rintro (u : Nat) w ⟨hD, h1, h2⟩
  refine ⟨inr_u64 (by omega) (by omega), u, rfl, ⟨hD, h1, h2⟩, ?_⟩
  rintro ⟨_, x⟩ w1 ⟨hx, e1⟩
  exact ⟨x, rfl, hx, e1⟩
theorem fmt_ok : sFmtI.Ok Tryd.prog 77 := by
  refine fmt_vc ⟨fmtI_ok, trivial⟩ ?_
  rintro (u : Nat) w h
  refine ⟨u, rfl, h, ?_⟩
  rintro x w1 ⟨hx, e1⟩
  exact ⟨x, rfl, hx, e1⟩
theorem num_j (u : Nat) : digN u ≤ numJ u ∧ 4 ≤ numJ u ∧ numJ u ≤ 6 ∧ (numJ u = 4 ∨ numJ u = digN u) := by
  unfold numJ
  rcases dig_cases u with ⟨e, h3⟩ | ⟨e, h3, h4⟩ | ⟨e, h3, h4⟩ | ⟨e, h3, h4⟩ | ⟨e, h3⟩ <;> rw [e] <;> decide
theorem dig_zero {u j : Nat} (h : u < 16777216) (hj : digN u ≤ j) : u / 16 ^ j = 0 := by
  refine Nat.div_eq_of_lt (Nat.lt_of_lt_of_le ?_ (Nat.pow_le_pow_right (by decide) hj))
  rcases dig_cases u with ⟨e, h3⟩ | ⟨e, h3, h4⟩ | ⟨e, h3, h4⟩ | ⟨e, h3, h4⟩ | ⟨e, h3⟩ <;> rw [e]
  · exact h3
  · exact h4
  · exact h4
  · exact h4
  · exact h
theorem dig_pos {u j : Nat} (h : 16 ≤ u) (hj : j < digN u) : 0 < u / 16 ^ j := by
  refine Nat.div_pos (Nat.le_trans (Nat.pow_le_pow_right (by decide) (show j ≤ digN u - 1 by omega)) ?_) (Nat.pow_pos (by decide))
  rcases dig_cases u with ⟨e, h3⟩ | ⟨e, h3, h4⟩ | ⟨e, h3, h4⟩ | ⟨e, h3, h4⟩ | ⟨e, h3⟩ <;> rw [e]
  · exact h
  · exact h3
  · exact h3
  · exact h3
  · exact h3
theorem strL_app (l m : List UInt8) : strL l ++ strL m = strL (l ++ m) := by
  apply ByteArray.ext
  simp [strL, ByteArray.data_append]
theorem named_ok : sNamed.Ok Tryd.prog 63 := by
  refine named_vc ⟨fmt_ok, trivial⟩ ?_
  rintro (u : Nat) w ⟨hD, h1, h2⟩
  have hj := num_j u
  refine ⟨inr_i64 (by omega) (by omega), u, rfl, ⟨hD, h1, by omega⟩, ?_⟩
  rintro x w1 ⟨rfl, e1⟩
  refine ⟨⟨digN u, rfl, Nat.le_refl _, hj.1, rfl⟩, ?_⟩
  rintro _ j w2 ⟨hj1, hj2, hw⟩
  replace hw := hw.symm
  subst hw
  have hz : (strL (numS u j)).size = j := by rw [strL_size, num_len]
  have s48 : (ByteArray.mk #[48]).size = 1 := rfl
  have s60 : (ByteArray.mk #[60]).size = 1 := rfl
  have s62 : (ByteArray.mk #[62]).size = 1 := rfl
  refine bcase_mk (fun h => ?_) (fun h => ?_)
  · have h := of_decide_eq_true h
    rw [hz] at h
    refine ⟨by rw [hz, s48]; omega, j + 1, ?_, ⟨by omega, by omega, rfl⟩, by omega⟩
    congr 1
    show strL [48] ++ strL (numS u j) = _
    rw [strL_app]
    simp only [numS]
    rw [dig_zero (by omega) hj1]
    rfl
  · have h := of_decide_eq_false h
    rw [hz] at h
    have e : j = numJ u := by omega
    subst e
    refine ⟨by rw [hz, s60]; omega, by rw [ByteArray.size_append, hz, s60, s62]; omega, _, rfl, rfl, e1⟩
end Go.Proofs.YtjdohhididpomaaDoor
end

section
set_option linter.unusedVariables false
namespace Go.Proofs.YtjdohhididpomaaDoor
open Go Go.RowKit Vc Tb Cl
set_option maxRecDepth 1000000 in
theorem find_vc (hsp : SpecsOk Tryd.prog []) (h : ∀ (g : GFind) (w : World), CellsT w g.b g.T ∧ (0 : Nat) < g.T.length ∧ g.T.length ≤ 1000 ∧ boundsOk g.T = true ∧ (g.T.getD (0 : Nat) ((0 : Int), (0 : Int))).fst = (0 : Int) → bcase (decide (g.r < (0 : Int)) || (decide (g.r > (1114111 : Int)) || decide (g.r ≥ (55296 : Int)) && decide (g.r ≤ (57343 : Int)))) (∃ (c : Unit), Value.int .i32 65533 = Value.int .i32 (knownF g.r) ∧ w = w) (∃ (c : Unit), Value.int .i32 g.r = Value.int .i32 (knownF g.r) ∧ w = w) ∧ ∀ (u : Nat → Value) (c : Unit) (w' : World), w' = w → (∃ (x : Nat × Nat), Value.int .i64 0 = Value.int .i64 (↑x.fst : Int) ∧ Value.int .i64 (↑g.T.length : Int) = Value.int .i64 (↑x.snd : Int) ∧ x.fst < x.snd ∧ x.snd ≤ g.T.length ∧ (g.T.getD x.fst ((0 : Int), (0 : Int))).fst ≤ knownF g.r ∧ (x.snd = g.T.length ∨ knownF g.r < (g.T.getD x.snd ((0 : Int), (0 : Int))).fst) ∧ w' = w') ∧ ∀ (u1 : Nat → Value) (x : Nat × Nat) (w'1 : World), x.fst < x.snd ∧ x.snd ≤ g.T.length ∧ (g.T.getD x.fst ((0 : Int), (0 : Int))).fst ≤ knownF g.r ∧ (x.snd = g.T.length ∨ knownF g.r < (g.T.getD x.snd ((0 : Int), (0 : Int))).fst) ∧ w'1 = w' → InR .i64 ((↑x.snd : Int) - (↑x.fst : Int)) ∧ bcase (decide ((↑x.snd : Int) - (↑x.fst : Int) > (1 : Int))) (InR .i64 ((↑x.fst : Int) + (↑x.snd : Int)) ∧ (0 : Int) ≤ (↑x.fst : Int) + (↑x.snd : Int) ∧ (0 : Int) < (2 : Int) ∧ InR .i64 (((↑x.fst : Int) + (↑x.snd : Int)) / (2 : Int)) ∧ ∃ (k : Nat), ((↑x.fst : Int) + (↑x.snd : Int)) / (2 : Int) = (↑k : Int) ∧ k < g.T.length ∧ ∃ (n : Int), w'1.cell? ⟨g.b, (0 : Nat) + k * 2, none⟩ = some (Value.int .i32 n) ∧ bcase (decide (n > knownF g.r)) (∃ (y : Nat × Nat), Value.int .i64 (↑x.fst : Int) = Value.int .i64 (↑y.fst : Int) ∧ Value.int .i64 (((↑x.fst : Int) + (↑x.snd : Int)) / (2 : Int)) = Value.int .i64 (↑y.snd : Int) ∧ (y.fst < y.snd ∧ y.snd ≤ g.T.length ∧ (g.T.getD y.fst ((0 : Int), (0 : Int))).fst ≤ knownF g.r ∧ (y.snd = g.T.length ∨ knownF g.r < (g.T.getD y.snd ((0 : Int), (0 : Int))).fst) ∧ w'1 = w') ∧ y.snd - y.fst < x.snd - x.fst) (∃ (y : Nat × Nat), Value.int .i64 (((↑x.fst : Int) + (↑x.snd : Int)) / (2 : Int)) = Value.int .i64 (↑y.fst : Int) ∧ Value.int .i64 (↑x.snd : Int) = Value.int .i64 (↑y.snd : Int) ∧ (y.fst < y.snd ∧ y.snd ≤ g.T.length ∧ (g.T.getD y.fst ((0 : Int), (0 : Int))).fst ≤ knownF g.r ∧ (y.snd = g.T.length ∨ knownF g.r < (g.T.getD y.snd ((0 : Int), (0 : Int))).fst) ∧ w'1 = w') ∧ y.snd - y.fst < x.snd - x.fst)) (bcase (decide ((↑x.snd : Int) < (↑g.T.length : Int))) (∀ (w1 : World), Drew w'1 w1 → ∃ (k : Nat), (↑x.fst : Int) = (↑k : Int) ∧ k < g.T.length ∧ ∃ (n : Int), w'1.cell? ⟨g.b, (0 : Nat) + k * 2 + 1, none⟩ = some (Value.int .u8 n) ∧ ∃ (k1 : Nat), (↑x.snd : Int) = (↑k1 : Int) ∧ k1 < g.T.length ∧ ∃ (n1 : Int), w'1.cell? ⟨g.b, (0 : Nat) + k1 * 2, none⟩ = some (Value.int .i32 n1) ∧ InR .i32 (n1 - (1 : Int)) ∧ ∃ (x1 : Int × Int), Value.tuple #[Value.int .u8 n, Value.int .i32 (n1 - (1 : Int))] = Value.tuple #[Value.int .u8 x1.fst, Value.int .i32 x1.snd] ∧
 FindOk g.T (knownF g.r) x1.fst x1.snd ∧ Ext w w1) (∃ (k : Nat), (↑x.fst : Int) = (↑k : Int) ∧ k < g.T.length ∧ ∃ (n : Int), w'1.cell? ⟨g.b, (0 : Nat) + k * 2 + 1, none⟩ = some (Value.int .u8 n) ∧ ∃ (x1 : Int × Int), Value.tuple #[Value.int .u8 n, Value.int .i32 1114111] = Value.tuple #[Value.int .u8 x1.fst, Value.int .i32 x1.snd] ∧ FindOk g.T (knownF g.r) x1.fst x1.snd ∧ Ext w w'1))) :
    (sFind).Ok Tryd.prog 68 :=
  ok_of_vc sFind (fun g _ => annFind g) [] (fun _ _ => rfl) (fun _ _ => rfl) hsp Tryd.func68 rfl (n := 2) (fun _ => rfl) (by kernel_rfl) (vcast (by kernel_rfl) h)
set_option maxRecDepth 1000000 in
theorem kinds_vc (hsp : SpecsOk Tryd.prog spFind) (h : ∀ (g : Int) (w : World), True → ∀ (b : Nat) (w1 : World), New w (Obj.cells #[Value.int .i32 0, Value.int .u8 0, Value.int .i32 32, Value.int .u8 5, Value.int .i32 33, Value.int .u8 6, Value.int .i32 36, Value.int .u8 7, Value.int .i32 37, Value.int .u8 6, Value.int .i32 43, Value.int .u8 7, Value.int .i32 44, Value.int .u8 6, Value.int .i32 48, Value.int .u8 4, Value.int .i32 58, Value.int .u8 6, Value.int .i32 60, Value.int .u8 7, Value.int .i32 63, Value.int .u8 6, Value.int .i32 65, Value.int .u8 3, Value.int .i32 91, Value.int .u8 6, Value.int .i32 94, Value.int .u8 7, Value.int .i32 95, Value.int .u8 6, Value.int .i32 96, Value.int .u8 7, Value.int .i32 97, Value.int .u8 3, Value.int .i32 123, Value.int .u8 6, Value.int .i32 124, Value.int .u8 7, Value.int .i32 125, Value.int .u8 6, Value.int .i32 126, Value.int .u8 7, Value.int .i32 127, Value.int .u8 0, Value.int .i32 160, Value.int .u8 5, Value.int .i32 161, Value.int .u8 6, Value.int .i32 162, Value.int .u8 7, Value.int .i32 167, Value.int .u8 6, Value.int .i32 168, Value.int .u8 7, Value.int .i32 170, Value.int .u8 3, Value.int .i32 171, Value.int .u8 6, Value.int .i32 172, Value.int .u8 7, Value.int .i32 173, Value.int .u8 1, Value.int .i32 174, Value.int .u8 7, Value.int .i32 178, Value.int .u8 6, Value.int .i32 180, Value.int .u8 7, Value.int .i32 181, Value.int .u8 3, Value.int .i32 182, Value.int .u8 6, Value.int .i32 184, Value.int .u8 7, Value.int .i32 185, Value.int .u8 6, Value.int .i32 186, Value.int .u8 3, Value.int .i32 187, Value.int .u8 6, Value.int .i32 192, Value.int .u8 3, Value.int .i32 215, Value.int .u8 7, Value.int .i32 216, Value.int .u8 3, Value.int .i32 247, Value.int .u8 7, Value.int .i32 248, Value.int .u8 3, Value.int .i32 768, Value.int .u8 2, Value.int .i32 880, Value.int .u8 3, Value.int .i32 884, Value.int .u8 8, Value.int .i32 886, Value.int .u8 3, Value.int .i32 894, Value.int .u8 6, Value.int .i32 895, Value.int .u8 3, Value.int .i32 896, Value.int .u8 8, Value.int .i32 902, Value.int .u8 3, Value.int .i32 903, Value.int .u8 6, Value.int .i32 904, Value.int .u8 3, Value.int .i32 1154, Value.int .u8 8, Value.int .i32 1155, Value.int .u8 2, Value.int .i32 1162, Value.int .u8 3, Value.int .i32 1367, Value.int .u8 8, Value.int .i32 1377, Value.int .u8 3, Value.int .i32 1416, Value.int .u8 8, Value.int .i32 1417, Value.int .u8 6, Value.int .i32 1419, Value.int .u8 8, Value.int .i32 1425, Value.int .u8 2, Value.int .i32 1470, Value.int .u8 6, Value.int .i32 1471, Value.int .u8 2, Value.int .i32 1472, Value.int .u8 6, Value.int .i32 1473, Value.int .u8 2, Value.int .i32 1475, Value.int .u8 6, Value.int .i32 1476, Value.int .u8 2, Value.int .i32 1478, Value.int .u8 6, Value.int .i32 1479, Value.int .u8 2, Value.int .i32 1480, Value.int .u8 8, Value.int .i32 1488, Value.int .u8 3, Value.int .i32 1523, Value.int .u8 6, Value.int .i32 1525, Value.int .u8 8, Value.int .i32 1548,
 Value.int .u8 6, Value.int .i32 1550, Value.int .u8 8, Value.int .i32 1552, Value.int .u8 2, Value.int .i32 1563, Value.int .u8 6, Value.int .i32 1564, Value.int .u8 1, Value.int .i32 1565, Value.int .u8 6, Value.int .i32 1568, Value.int .u8 3, Value.int .i32 1611, Value.int .u8 2, Value.int .i32 1632, Value.int .u8 4, Value.int .i32 1642, Value.int .u8 6, Value.int .i32 1646, Value.int .u8 3, Value.int .i32 1648, Value.int .u8 2, Value.int .i32 1649, Value.int .u8 3, Value.int .i32 1748, Value.int .u8 6, Value.int .i32 1749, Value.int .u8 3, Value.int .i32 1750, Value.int .u8 2, Value.int .i32 1757, Value.int .u8 3, Value.int .i32 1759, Value.int .u8 2, Value.int .i32 1765, Value.int .u8 3, Value.int .i32 1767, Value.int .u8 2, Value.int .i32 1769, Value.int .u8 3, Value.int .i32 1770, Value.int .u8 2, Value.int .i32 1774, Value.int .u8 3, Value.int .i32 1776, Value.int .u8 4, Value.int .i32 1786, Value.int .u8 3, Value.int .i32 1789, Value.int .u8 8, Value.int .i32 3585, Value.int .u8 3, Value.int .i32 3633, Value.int .u8 2, Value.int .i32 3634, Value.int .u8 3, Value.int .i32 3636, Value.int .u8 2, Value.int .i32 3643, Value.int .u8 3, Value.int .i32 3655, Value.int .u8 2, Value.int .i32 3663, Value.int .u8 8, Value.int .i32 4256, Value.int .u8 3, Value.int .i32 4608, Value.int .u8 8, Value.int .i32 5760, Value.int .u8 5, Value.int .i32 5761, Value.int .u8 8, Value.int .i32 6832, Value.int .u8 2, Value.int .i32 6912, Value.int .u8 8, Value.int .i32 7616, Value.int .u8 2, Value.int .i32 7680, Value.int .u8 3, Value.int .i32 8192, Value.int .u8 5, Value.int .i32 8203, Value.int .u8 1, Value.int .i32 8208, Value.int .u8 6, Value.int .i32 8232, Value.int .u8 5, Value.int .i32 8234, Value.int .u8 1, Value.int .i32 8239, Value.int .u8 5, Value.int .i32 8240, Value.int .u8 6, Value.int .i32 8287, Value.int .u8 5, Value.int .i32 8288, Value.int .u8 1, Value.int .i32 8298, Value.int .u8 8, Value.int .i32 8352, Value.int .u8 7, Value.int .i32 8400, Value.int .u8 2, Value.int .i32 8448, Value.int .u8 7, Value.int .i32 9676, Value.int .u8 6, Value.int .i32 9677, Value.int .u8 7, Value.int .i32 11264, Value.int .u8 3, Value.int .i32 11744, Value.int .u8 8, Value.int .i32 12288, Value.int .u8 5, Value.int .i32 12289, Value.int .u8 6, Value.int .i32 12292, Value.int .u8 8, Value.int .i32 12293, Value.int .u8 3, Value.int .i32 12296, Value.int .u8 6, Value.int .i32 12320, Value.int .u8 8, Value.int .i32 12330, Value.int .u8 2, Value.int .i32 12334, Value.int .u8 8, Value.int .i32 12353, Value.int .u8 3, Value.int .i32 12441, Value.int .u8 2, Value.int .i32 12443, Value.int .u8 3, Value.int .i32 12544, Value.int .u8 8, Value.int .i32 12549, Value.int .u8 3, Value.int .i32 12687, Value.int .u8 8, Value.int .i32 13312, Value.int .u8 3, Value.int .i32 19904, Value.int .u8 8, Value.int .i32 19968, Value.int .u8 3, Value.int .i32 40960, Value.int .u8 8, Value.int .i32 44032, Value.int .u8 3, Value.int .i32 55204, Value.int .u8 8, Value.int .i32 63744,
 Value.int .u8 3, Value.int .i32 64256, Value.int .u8 8, Value.int .i32 64285, Value.int .u8 3, Value.int .i32 65020, Value.int .u8 8, Value.int .i32 65024, Value.int .u8 2, Value.int .i32 65040, Value.int .u8 8, Value.int .i32 65056, Value.int .u8 2, Value.int .i32 65072, Value.int .u8 8, Value.int .i32 65136, Value.int .u8 3, Value.int .i32 65277, Value.int .u8 8, Value.int .i32 65279, Value.int .u8 1, Value.int .i32 65280, Value.int .u8 8, Value.int .i32 65281, Value.int .u8 6, Value.int .i32 65296, Value.int .u8 4, Value.int .i32 65306, Value.int .u8 6, Value.int .i32 65313, Value.int .u8 3, Value.int .i32 65339, Value.int .u8 6, Value.int .i32 65345, Value.int .u8 3, Value.int .i32 65371, Value.int .u8 6, Value.int .i32 65382, Value.int .u8 3, Value.int .i32 65501, Value.int .u8 8, Value.int .i32 65532, Value.int .u8 7, Value.int .i32 65534, Value.int .u8 8, Value.int .i32 126976, Value.int .u8 7, Value.int .i32 129792, Value.int .u8 8, Value.int .i32 131072, Value.int .u8 3, Value.int .i32 262142, Value.int .u8 8] (112 : Nat)) b w1 → ∃ (g1 : GFind), #[Value.slice (some ⟨b, 0, none⟩) (181 : Nat) (181 : Nat), Value.int .i32 g] = #[Value.slice (some ⟨g1.b, 0, none⟩) g1.T.length g1.T.length, Value.int .i32 g1.r] ∧ (CellsT w1 g1.b g1.T ∧ (0 : Nat) < g1.T.length ∧ g1.T.length ≤ 1000 ∧ boundsOk g1.T = true ∧ (g1.T.getD (0 : Nat) ((0 : Int), (0 : Int))).fst = (0 : Int)) ∧ ∀ (x : Int × Int) (w' : World), FindOk g1.T (knownF g1.r) x.fst x.snd ∧ Ext w1 w' → ∃ (x1 : Int × Int), Value.tuple #[Value.int .u8 x.fst, Value.int .i32 x.snd] = Value.tuple #[Value.int .u8 x1.fst, Value.int .i32 x1.snd] ∧ FindOk kindT (knownF g) x1.fst x1.snd ∧ Ext w w') :
    ((sTab kindT)).Ok Tryd.prog 51 :=
  ok_of_vc (sTab kindT) (annOf spFind) spFind (fun _ _ => rfl) (fun _ _ => rfl) hsp Tryd.func51 rfl (n := 1) (fun _ => rfl) (by kernel_rfl) (vcast (by kernel_rfl) h)
set_option maxRecDepth 1000000 in
theorem ckind_vc (hsp : SpecsOk Tryd.prog spKind) (h : ∀ (g : Int) (w : World), True → ∃ (g1 : Int), #[Value.int .i32 g] = #[Value.int .i32 g1] ∧ True ∧ ∀ (x : Int × Int) (w' : World), FindOk kindT (knownF g1) x.fst x.snd ∧ Ext w w' → InR .i8 x.fst ∧ ∃ (x1 : Int), Value.int .i8 x.fst = Value.int .i8 x1 ∧ x1 = kindR g ∧ Ext w w') :
    ((sRuneX .i8 kindR)).Ok Tryd.prog 38 :=
  ok_of_vc (sRuneX .i8 kindR) (annOf spKind) spKind (fun _ _ => rfl) (fun _ _ => rfl) hsp Tryd.func38 rfl (n := 1) (fun _ => rfl) (by kernel_rfl) (vcast (by kernel_rfl) h)
set_option maxRecDepth 1000000 in
theorem wids_vc (hsp : SpecsOk Tryd.prog spFind) (h : ∀ (g : Int) (w : World), True → ∀ (b : Nat) (w1 : World), New w (Obj.cells #[Value.int .i32 0, Value.int .u8 0, Value.int .i32 32, Value.int .u8 1, Value.int .i32 127, Value.int .u8 0, Value.int .i32 160, Value.int .u8 1, Value.int .i32 161, Value.int .u8 3, Value.int .i32 162, Value.int .u8 1, Value.int .i32 164, Value.int .u8 3, Value.int .i32 165, Value.int .u8 1, Value.int .i32 167, Value.int .u8 3, Value.int .i32 169, Value.int .u8 1, Value.int .i32 173, Value.int .u8 0, Value.int .i32 174, Value.int .u8 3, Value.int .i32 175, Value.int .u8 1, Value.int .i32 176, Value.int .u8 3, Value.int .i32 181, Value.int .u8 1, Value.int .i32 182, Value.int .u8 3, Value.int .i32 187, Value.int .u8 1, Value.int .i32 188, Value.int .u8 3, Value.int .i32 192, Value.int .u8 1, Value.int .i32 215, Value.int .u8 3, Value.int .i32 216, Value.int .u8 1, Value.int .i32 247, Value.int .u8 3, Value.int .i32 248, Value.int .u8 1, Value.int .i32 768, Value.int .u8 0, Value.int .i32 880, Value.int .u8 1, Value.int .i32 913, Value.int .u8 3, Value.int .i32 938, Value.int .u8 1, Value.int .i32 945, Value.int .u8 3, Value.int .i32 970, Value.int .u8 1, Value.int .i32 1040, Value.int .u8 3, Value.int .i32 1104, Value.int .u8 1, Value.int .i32 1155, Value.int .u8 0, Value.int .i32 1162, Value.int .u8 1, Value.int .i32 1425, Value.int .u8 0, Value.int .i32 1470, Value.int .u8 1, Value.int .i32 1471, Value.int .u8 0, Value.int .i32 1472, Value.int .u8 1, Value.int .i32 1473, Value.int .u8 0, Value.int .i32 1475, Value.int .u8 1, Value.int .i32 1476, Value.int .u8 0, Value.int .i32 1478, Value.int .u8 1, Value.int .i32 1479, Value.int .u8 0, Value.int .i32 1480, Value.int .u8 1, Value.int .i32 1552, Value.int .u8 0, Value.int .i32 1563, Value.int .u8 1, Value.int .i32 1564, Value.int .u8 0, Value.int .i32 1565, Value.int .u8 1, Value.int .i32 1611, Value.int .u8 0, Value.int .i32 1632, Value.int .u8 1, Value.int .i32 1648, Value.int .u8 0, Value.int .i32 1649, Value.int .u8 1, Value.int .i32 1750, Value.int .u8 0, Value.int .i32 1757, Value.int .u8 1, Value.int .i32 1759, Value.int .u8 0, Value.int .i32 1765, Value.int .u8 1, Value.int .i32 1767, Value.int .u8 0, Value.int .i32 1769, Value.int .u8 1, Value.int .i32 1770, Value.int .u8 0, Value.int .i32 1774, Value.int .u8 1, Value.int .i32 3633, Value.int .u8 0, Value.int .i32 3634, Value.int .u8 1, Value.int .i32 3636, Value.int .u8 0, Value.int .i32 3643, Value.int .u8 1, Value.int .i32 3655, Value.int .u8 0, Value.int .i32 3663, Value.int .u8 1, Value.int .i32 4352, Value.int .u8 2, Value.int .i32 4448, Value.int .u8 0, Value.int .i32 4608, Value.int .u8 1, Value.int .i32 6832, Value.int .u8 0, Value.int .i32 6912, Value.int .u8 1, Value.int .i32 7616, Value.int .u8 0, Value.int .i32 7680, Value.int .u8 1, Value.int .i32 8203, Value.int .u8 0, Value.int .i32 8208, Value.int .u8 3, Value.int .i32 8215, Value.int .u8 1,
 Value.int .i32 8216, Value.int .u8 3, Value.int .i32 8222, Value.int .u8 1, Value.int .i32 8224, Value.int .u8 3, Value.int .i32 8232, Value.int .u8 1, Value.int .i32 8234, Value.int .u8 0, Value.int .i32 8239, Value.int .u8 1, Value.int .i32 8240, Value.int .u8 3, Value.int .i32 8252, Value.int .u8 1, Value.int .i32 8288, Value.int .u8 0, Value.int .i32 8298, Value.int .u8 1, Value.int .i32 8400, Value.int .u8 0, Value.int .i32 8448, Value.int .u8 1, Value.int .i32 8592, Value.int .u8 3, Value.int .i32 8602, Value.int .u8 1, Value.int .i32 8704, Value.int .u8 3, Value.int .i32 8960, Value.int .u8 1, Value.int .i32 8986, Value.int .u8 2, Value.int .i32 8988, Value.int .u8 1, Value.int .i32 9001, Value.int .u8 2, Value.int .i32 9003, Value.int .u8 1, Value.int .i32 9193, Value.int .u8 2, Value.int .i32 9204, Value.int .u8 1, Value.int .i32 9312, Value.int .u8 3, Value.int .i32 9451, Value.int .u8 1, Value.int .i32 9472, Value.int .u8 3, Value.int .i32 9676, Value.int .u8 1, Value.int .i32 9677, Value.int .u8 3, Value.int .i32 9682, Value.int .u8 1, Value.int .i32 9733, Value.int .u8 3, Value.int .i32 9735, Value.int .u8 1, Value.int .i32 9748, Value.int .u8 2, Value.int .i32 9750, Value.int .u8 1, Value.int .i32 9800, Value.int .u8 2, Value.int .i32 9812, Value.int .u8 1, Value.int .i32 9824, Value.int .u8 3, Value.int .i32 9832, Value.int .u8 1, Value.int .i32 9917, Value.int .u8 2, Value.int .i32 9919, Value.int .u8 1, Value.int .i32 9989, Value.int .u8 2, Value.int .i32 9990, Value.int .u8 1, Value.int .i32 10060, Value.int .u8 2, Value.int .i32 10061, Value.int .u8 1, Value.int .i32 10067, Value.int .u8 2, Value.int .i32 10072, Value.int .u8 1, Value.int .i32 10133, Value.int .u8 2, Value.int .i32 10136, Value.int .u8 1, Value.int .i32 11088, Value.int .u8 2, Value.int .i32 11089, Value.int .u8 1, Value.int .i32 11904, Value.int .u8 2, Value.int .i32 12330, Value.int .u8 0, Value.int .i32 12334, Value.int .u8 2, Value.int .i32 12351, Value.int .u8 1, Value.int .i32 12353, Value.int .u8 2, Value.int .i32 12441, Value.int .u8 0, Value.int .i32 12443, Value.int .u8 2, Value.int .i32 19904, Value.int .u8 1, Value.int .i32 19968, Value.int .u8 2, Value.int .i32 42192, Value.int .u8 1, Value.int .i32 44032, Value.int .u8 2, Value.int .i32 55204, Value.int .u8 1, Value.int .i32 57344, Value.int .u8 3, Value.int .i32 63744, Value.int .u8 2, Value.int .i32 64256, Value.int .u8 1, Value.int .i32 65024, Value.int .u8 0, Value.int .i32 65040, Value.int .u8 1, Value.int .i32 65056, Value.int .u8 0, Value.int .i32 65072, Value.int .u8 2, Value.int .i32 65136, Value.int .u8 1, Value.int .i32 65279, Value.int .u8 0, Value.int .i32 65280, Value.int .u8 1, Value.int .i32 65281, Value.int .u8 2, Value.int .i32 65377, Value.int .u8 1, Value.int .i32 65504, Value.int .u8 2, Value.int .i32 65511, Value.int .u8 1, Value.int .i32 127744, Value.int .u8 2, Value.int .i32 128592, Value.int .u8 1, Value.int .i32 128640,
 Value.int .u8 2, Value.int .i32 128768, Value.int .u8 1, Value.int .i32 129280, Value.int .u8 2, Value.int .i32 129792, Value.int .u8 1, Value.int .i32 131072, Value.int .u8 2, Value.int .i32 262142, Value.int .u8 1] (142 : Nat)) b w1 → ∃ (g1 : GFind), #[Value.slice (some ⟨b, 0, none⟩) (157 : Nat) (157 : Nat), Value.int .i32 g] = #[Value.slice (some ⟨g1.b, 0, none⟩) g1.T.length g1.T.length, Value.int .i32 g1.r] ∧ (CellsT w1 g1.b g1.T ∧ (0 : Nat) < g1.T.length ∧ g1.T.length ≤ 1000 ∧ boundsOk g1.T = true ∧ (g1.T.getD (0 : Nat) ((0 : Int), (0 : Int))).fst = (0 : Int)) ∧ ∀ (x : Int × Int) (w' : World), FindOk g1.T (knownF g1.r) x.fst x.snd ∧ Ext w1 w' → ∃ (x1 : Int × Int), Value.tuple #[Value.int .u8 x.fst, Value.int .i32 x.snd] = Value.tuple #[Value.int .u8 x1.fst, Value.int .i32 x1.snd] ∧ FindOk widT (knownF g) x1.fst x1.snd ∧ Ext w w') :
    ((sTab widT)).Ok Tryd.prog 78 :=
  ok_of_vc (sTab widT) (annOf spFind) spFind (fun _ _ => rfl) (fun _ _ => rfl) hsp Tryd.func78 rfl (n := 1) (fun _ => rfl) (by kernel_rfl) (vcast (by kernel_rfl) h)
set_option maxRecDepth 1000000 in
theorem cwide_vc (hsp : SpecsOk Tryd.prog spWid) (h : ∀ (g : Int × Bool) (w : World), True → ∃ (g1 : Int), #[Value.int .i32 g.fst] = #[Value.int .i32 g1] ∧ True ∧ ∀ (x : Int × Int) (w' : World), FindOk widT (knownF g1) x.fst x.snd ∧ Ext w w' → bcase (decide (x.fst < (3 : Int))) (InR .i64 x.fst ∧ ∃ (x1 : Int), Value.int .i64 x.fst = Value.int .i64 x1 ∧ x1 = wideR g.fst g.snd ∧ Ext w w') (bcase g.snd (∃ (x1 : Int), Value.int .i64 2 = Value.int .i64 x1 ∧ x1 = wideR g.fst g.snd ∧ Ext w w') (∃ (x1 : Int), Value.int .i64 1 = Value.int .i64 x1 ∧ x1 = wideR g.fst g.snd ∧ Ext w w'))) :
    ((sWide (fun w w' => Ext w w'))).Ok Tryd.prog 64 :=
  ok_of_vc (sWide (fun w w' => Ext w w')) (annOf spWid) spWid (fun _ _ => rfl) (fun _ _ => rfl) hsp Tryd.func64 rfl (n := 2) (fun _ => rfl) (by kernel_rfl) (vcast (by kernel_rfl) h)
end Go.Proofs.YtjdohhididpomaaDoor
end

section
namespace Go.Proofs.YtjdohhididpomaaDoor
open Go Go.RowKit Vc Tb Cl
def chainC (L : List (List RC × Int)) (K : Int → Prop) (d x : Int) : Prop := match L with
  | [] => K d
  | (c, v) :: l => bcase (anyC c x) (K v) (chainC l K d x)
theorem chainC_mk {L : List (List RC × Int)} {K : Int → Prop} {d x : Int} (h : K (lookC L d x)) : chainC L K d x := by
  induction L with
  | nil => exact h
  | cons p l ih =>
    obtain ⟨c, v⟩ := p
    simp only [lookC] at h
    simp only [chainC]
    cases hb : anyC c x with
    | true => rw [hb] at h; exact h
    | false => rw [hb] at h; exact ih h
theorem bounds_at {T : List (Int × Int)} (h : boundsOk T = true) (j : Nat) : 0 ≤ (T.getD j (0, 0)).1 ∧ (T.getD j (0, 0)).1 ≤ 1114111 ∧ 0 ≤ (T.getD j (0, 0)).2 ∧ (T.getD j (0, 0)).2 ≤ 255 := by
  by_cases hj : j < T.length
  · have h1 := List.all_eq_true.1 h T[j] (List.getElem_mem hj)
    simp only [Bool.and_eq_true, decide_eq_true_eq] at h1
    rw [List.getD_eq_getElem?_getD, List.getElem?_eq_getElem hj]
    exact ⟨h1.1.1.1, h1.1.1.2, h1.1.2, h1.2⟩
  · rw [List.getD_eq_getElem?_getD, List.getElem?_eq_none (by omega)]
    simp
theorem find_ok : sFind.Ok Tryd.prog 68 := by
  refine find_vc trivial ?_
  rintro ⟨b, T, r⟩ w ⟨hc, hpos, hlen, hbd, h0⟩
  have hk := knownF_bd r
  dsimp only at hc hpos hlen hbd h0 ⊢
  refine ⟨bcase_mk (fun h => ⟨(), ?_, rfl⟩) (fun h => ⟨(), ?_, rfl⟩), ?_⟩
  · unfold knownF; rw [h]
  · unfold knownF; rw [h]
  generalize knownF r = q at hk ⊢
  rintro _ _ w' rfl
  refine ⟨⟨(0, T.length), rfl, rfl, hpos, Nat.le_refl _, by rw [h0]; exact hk.1, .inl rfl, rfl⟩, ?_⟩
  rintro _ ⟨lo, hi⟩ w2 ⟨h1, h2, h3, h4, rfl⟩
  dsimp only at h1 h2 h3 h4 ⊢
  refine ⟨inr_i64 (by omega) (by omega), bcase_mk (fun h => ?_) (fun h => ?_)⟩
  · simp only [gt_iff_lt, decide_eq_true_eq] at h
    refine ⟨inr_i64 (by omega) (by omega), by omega, by omega, inr_i64 (by omega) (by omega), (lo + hi) / 2, by omega, by omega, ?_⟩
    have hm : (lo + hi) / 2 < T.length := by omega
    refine ⟨_, (hc _ hm).1, bcase_mk (fun h => ?_) (fun h => ?_)⟩
    · simp only [gt_iff_lt, decide_eq_true_eq] at h
      exact ⟨(lo, (lo + hi) / 2), rfl, by simp, ⟨by dsimp only; omega, by dsimp only; omega, h3, .inr h, rfl⟩, by dsimp only; omega⟩
    · simp only [gt_iff_lt, decide_eq_false_iff_not] at h
      exact ⟨((lo + hi) / 2, hi), by simp, rfl, ⟨by dsimp only; omega, by dsimp only; omega, Int.not_lt.1 h, h4, rfl⟩, by dsimp only; omega⟩
  · simp only [gt_iff_lt, decide_eq_false_iff_not] at h
    have hlo : lo < T.length := by omega
    have hhi : hi = lo + 1 := by omega
    subst hhi
    refine bcase_mk (fun h => ?_) (fun h => ?_)
    · simp only [decide_eq_true_eq] at h
      have hh : lo + 1 < T.length := by omega
      have hb := bounds_at hbd (lo + 1)
      refine fun w3 hw3 => ⟨lo, rfl, hlo, _, (hc _ hlo).2, lo + 1, rfl, hh, _, (hc _ hh).1, inr_i32 (by omega) (by omega), (_, _), rfl, ⟨lo, hlo, h3, rfl, .inr ⟨hh, ?_, rfl⟩⟩, hw3.ext⟩
      rcases h4 with h4 | h4
      · omega
      · exact h4
    · simp only [decide_eq_false_iff_not] at h
      refine ⟨lo, rfl, hlo, _, (hc _ hlo).2, (_, _), rfl, ⟨lo, hlo, h3, rfl, .inl ⟨by omega, rfl⟩⟩, Ext.refl _⟩
def tblCells (T : List (Int × Int)) : List Value := match T with
  | [] => []
  | (a, v) :: r => .int .i32 a :: .int .u8 v :: tblCells r
theorem tblCells_at {T : List (Int × Int)} {j : Nat} (hj : j < T.length) : (tblCells T)[j * 2]? = some (.int .i32 (T.getD j (0, 0)).1) ∧ (tblCells T)[j * 2 + 1]? = some (.int .u8 (T.getD j (0, 0)).2) := by
  induction T generalizing j with
  | nil => simp at hj
  | cons p r ih =>
    obtain ⟨a, v⟩ := p
    cases j with
    | zero => simp [tblCells]
    | succ j =>
      have := ih (j := j) (by simpa using hj)
      rw [show (j + 1) * 2 = j * 2 + 1 + 1 from by omega]
      simpa [tblCells] using this
theorem tbl_new {w w1 : World} {T : List (Int × Int)} {e : TypeId} {b : Nat} {cs : Array Value} (h : New w (.cells cs e) b w1) (hcs : cs.toList = tblCells T) : CellsT w1 b T := by
  intro j hj
  have := tblCells_at hj
  rw [← hcs] at this
  constructor
  · rw [h.cell, Nat.zero_add, ← Array.getElem?_toList]; exact this.1
  · rw [h.cell, Nat.zero_add, ← Array.getElem?_toList]; exact this.2
theorem small_val {T : List (Int × Int)} {r u t : Int} (hs : smallOk T = true) (h : FindOk T r u t) : 0 ≤ u ∧ u ≤ 127 := by
  obtain ⟨j, h1, _, rfl, _⟩ := h
  have h2 := List.all_eq_true.1 hs T[j] (List.getElem_mem h1)
  simp only [Bool.and_eq_true, decide_eq_true_eq] at h2
  rw [List.getD_eq_getElem?_getD, List.getElem?_eq_getElem h1]
  exact h2
set_option maxRecDepth 20000 in
theorem kinds_ok : (sTab kindT).Ok Tryd.prog 51 := by
  refine kinds_vc ⟨find_ok, trivial⟩ ?_
  intro g w _ b w1 hn
  refine ⟨⟨b, kindT, g⟩, rfl, ⟨tbl_new hn rfl, (by decide +kernel : 0 < kindT.length), (by decide +kernel : kindT.length ≤ 1000), (by decide +kernel : boundsOk kindT = true), rfl⟩, ?_⟩
  rintro ⟨u, t⟩ w2 ⟨h1, h2⟩
  exact ⟨(u, t), rfl, h1, hn.ext.trans h2⟩
set_option maxRecDepth 20000 in
theorem wids_ok : (sTab widT).Ok Tryd.prog 78 := by
  refine wids_vc ⟨find_ok, trivial⟩ ?_
  intro g w _ b w1 hn
  refine ⟨⟨b, widT, g⟩, rfl, ⟨tbl_new hn rfl, (by decide +kernel : 0 < widT.length), (by decide +kernel : widT.length ≤ 1000), (by decide +kernel : boundsOk widT = true), rfl⟩, ?_⟩
  rintro ⟨u, t⟩ w2 ⟨h1, h2⟩
  exact ⟨(u, t), rfl, h1, hn.ext.trans h2⟩
theorem ckind_ok : (sRuneX .i8 kindR).Ok Tryd.prog 38 := by
  refine ckind_vc ⟨kinds_ok, trivial⟩ ?_
  intro g w _
  refine ⟨g, rfl, trivial, ?_⟩
  rintro ⟨u, t⟩ w' ⟨h1, h2⟩
  have hs := small_val (by decide +kernel) h1
  exact ⟨inr_i8 (by dsimp only at hs ⊢; omega) (by dsimp only at hs ⊢; omega), u, rfl, h1.val kind_agree, h2⟩
theorem wid_small {r u t : Int} (h : FindOk widT (knownF r) u t) : 0 ≤ u ∧ u ≤ 3 := by
  obtain ⟨j, h1, _, rfl, _⟩ := h
  have h2 : widT.all (fun p => decide (0 ≤ p.2) && decide (p.2 ≤ 3)) = true := by decide +kernel
  have h3 := List.all_eq_true.1 h2 widT[j] (List.getElem_mem h1)
  simp only [Bool.and_eq_true, decide_eq_true_eq] at h3
  rw [List.getD_eq_getElem?_getD, List.getElem?_eq_getElem h1]
  exact h3
theorem cwide_ok : (sWide (fun w w' => Ext w w')).Ok Tryd.prog 64 := by
  refine cwide_vc ⟨wids_ok, trivial⟩ ?_
  rintro ⟨r, b⟩ w _
  refine ⟨r, rfl, trivial, ?_⟩
  rintro ⟨u, t⟩ w' ⟨h1, h2⟩
  have hs := wid_small h1
  have hv : u = widR r := h1.val wid_agree
  dsimp only at hs ⊢
  refine bcase_mk (fun h => ?_) (fun h => ?_)
  · have h : u < 3 := by simpa using h
    exact ⟨inr_i64 (by omega) (by omega), _, rfl, by show _ = wideR r b; unfold wideR; rw [← hv, if_pos h], h2⟩
  · have h : ¬ u < 3 := by simpa using h
    refine bcase_mk (fun hb => ⟨_, rfl, ?_, h2⟩) (fun hb => ⟨_, rfl, ?_, h2⟩)
    · have hb : b = true := hb
      show _ = wideR r b
      unfold wideR; rw [← hv, if_neg h, hb]; rfl
    · have hb : b = false := hb
      show _ = wideR r b
      unfold wideR; rw [← hv, if_neg h, hb]; rfl
end Go.Proofs.YtjdohhididpomaaDoor
end

section
set_option linter.unusedVariables false
namespace Go.Proofs.YtjdohhididpomaaDoor
open Go Go.RowKit Vc Ut Tb Cl
set_option maxRecDepth 1000000 in
theorem cnext_vc (hsp : SpecsOk Tryd.prog spCNext) (h : ∀ (g : ByteArray) (w : World), U8 w ∧ g.size ≤ 67108864 → (∃ (g1 : ByteArray), #[Value.string g] = #[Value.string g1] ∧ (U8 w ∧ g1.size ≤ 67108864) ∧ ∀ (x : Int × Nat) (w' : World), x.fst = nxR g1 ∧ x.snd = nxN g1 ∧ Ext w w' → bcase (g.toList == (ByteArray.mk #[]).toList) (∃ (x1 : Nat), Value.int .i64 0 = Value.int .i64 (↑x1 : Int) ∧ x1 = nextL g ∧ Ext w w') (bcase (x.fst == (65533 : Int)) (bcase ((↑x.snd : Int) == (1 : Int)) (∃ (y : Unit), Value.int .i32 x.fst = Value.int .i32 (sg g (0 : Nat)) ∧ Value.int .i64 (↑x.snd : Int) = Value.int .i64 (↑(pos g (1 : Nat)) : Int) ∧ (0 : Nat) < g.size ∧ (isBad g (0 : Nat) = true ∨ aloneB (sg g (0 : Nat)) = true) ∧ Ext w w') (∃ (g2 : Int), #[Value.int .i32 x.fst] = #[Value.int .i32 g2] ∧ True ∧ ∀ (x1 : Bool) (w'1 : World), x1 = aloneB g2 ∧ Ext w' w'1 → bcase x1 (∃ (y : Unit), Value.int .i32 x.fst = Value.int .i32 (sg g (0 : Nat)) ∧ Value.int .i64 (↑x.snd : Int) = Value.int .i64 (↑(pos g (1 : Nat)) : Int) ∧ (0 : Nat) < g.size ∧ (isBad g (0 : Nat) = true ∨ aloneB (sg g (0 : Nat)) = true) ∧ Ext w w'1) (∃ (k : Nat), (↑x.snd : Int) = (↑k : Int) ∧ k ≤ g.size ∧ g.size ≤ g.size ∧ ∃ (g3 : ByteArray), #[Value.string (g.extract k g.size)] = #[Value.string g3] ∧ (U8 w'1 ∧ g3.size ≤ 67108864) ∧ ∀ (x2 : Int × Nat) (w'2 : World), x2.fst = nxR g3 ∧ x2.snd = nxN g3 ∧ Ext w'1 w'2 → bcase ((↑x.snd : Int) == (↑g.size : Int) || x2.fst == (65533 : Int) && (↑x2.snd : Int) == (1 : Int)) (∃ (x3 : Nat), Value.int .i64 (↑x.snd : Int) = Value.int .i64 (↑x3 : Int) ∧ x3 = nextL g ∧ Ext w w'2) (∃ (g4 : Int), #[Value.int .i32 x2.fst] = #[Value.int .i32 g4] ∧ True ∧ ∀ (x3 : Int) (w'3 : World), x3 = kindR g4 ∧ Ext w'2 w'3 → bcase (x3 == (2 : Int)) (bcase (x3 == (2 : Int)) (∃ (c : Nat), (1 : Int) = (↑c : Int) ∧ goB g (0 : Nat) c = true ∧ Ext w'2 w'3) (∃ (g5 : Int), #[Value.int .i32 x.fst] = #[Value.int .i32 g5] ∧ True ∧ ∀ (x4 : Bool) (w'4 : World), x4 = regB g5 ∧ Ext w'3 w'4 → bcase x4 (∃ (g6 : Int), #[Value.int .i32 x2.fst] = #[Value.int .i32 g6] ∧ True ∧ ∀ (x5 : Bool) (w'5 : World), x5 = regB g6 ∧ Ext w'4 w'5 → bcase x5 (∃ (c : Nat), (1 : Int) = (↑c : Int) ∧ goB g (0 : Nat) c = true ∧ Ext w'2 w'5) (bcase (x.fst == (8205 : Int)) (∃ (g7 : Int), #[Value.int .i32 x.fst] = #[Value.int .i32 g7] ∧ True ∧ ∀ (x6 : Bool) (w'6 : World), x6 = picB g7 ∧ Ext w'5 w'6 → bcase x6 (∃ (g8 : Int), #[Value.int .i32 x2.fst] = #[Value.int .i32 g8] ∧ True ∧ ∀ (x7 : Bool) (w'7 : World), x7 = picB g8 ∧ Ext w'6 w'7 → bcase x7 (∃ (c : Nat), (1 : Int) = (↑c : Int) ∧ goB g (0 : Nat) c = true ∧ Ext w'2 w'7) (∃ (g9 : Int × Int), #[Value.int .i32 x.fst, Value.int .i32 x2.fst] = #[Value.int .i32 g9.fst, Value.int .i32 g9.snd] ∧ True ∧ ∀ (x8 : Bool) (w'8 : World), x8 = sylB g9.fst g9.snd ∧ Ext w'7 w'8 → bcase x8 (∃ (c : Nat), (1 : Int) = (↑c : Int) ∧ goB g (0 : Nat) c = true ∧ Ext w'2 w'8) (∃ (x9 : Nat), Value.int .i64 (↑x.snd : Int) = Value.int .i64 (↑x9 : Int) ∧ x9 = nextL g ∧ Ext w w'8))) (∃ (g8 : Int × Int),
 #[Value.int .i32 x.fst, Value.int .i32 x2.fst] = #[Value.int .i32 g8.fst, Value.int .i32 g8.snd] ∧ True ∧ ∀ (x7 : Bool) (w'7 : World), x7 = sylB g8.fst g8.snd ∧ Ext w'6 w'7 → bcase x7 (∃ (c : Nat), (1 : Int) = (↑c : Int) ∧ goB g (0 : Nat) c = true ∧ Ext w'2 w'7) (∃ (x8 : Nat), Value.int .i64 (↑x.snd : Int) = Value.int .i64 (↑x8 : Int) ∧ x8 = nextL g ∧ Ext w w'7))) (∃ (g7 : Int × Int), #[Value.int .i32 x.fst, Value.int .i32 x2.fst] = #[Value.int .i32 g7.fst, Value.int .i32 g7.snd] ∧ True ∧ ∀ (x6 : Bool) (w'6 : World), x6 = sylB g7.fst g7.snd ∧ Ext w'5 w'6 → bcase x6 (∃ (c : Nat), (1 : Int) = (↑c : Int) ∧ goB g (0 : Nat) c = true ∧ Ext w'2 w'6) (∃ (x7 : Nat), Value.int .i64 (↑x.snd : Int) = Value.int .i64 (↑x7 : Int) ∧ x7 = nextL g ∧ Ext w w'6)))) (bcase (x.fst == (8205 : Int)) (∃ (g6 : Int), #[Value.int .i32 x.fst] = #[Value.int .i32 g6] ∧ True ∧ ∀ (x5 : Bool) (w'5 : World), x5 = picB g6 ∧ Ext w'4 w'5 → bcase x5 (∃ (g7 : Int), #[Value.int .i32 x2.fst] = #[Value.int .i32 g7] ∧ True ∧ ∀ (x6 : Bool) (w'6 : World), x6 = picB g7 ∧ Ext w'5 w'6 → bcase x6 (∃ (c : Nat), (1 : Int) = (↑c : Int) ∧ goB g (0 : Nat) c = true ∧ Ext w'2 w'6) (∃ (g8 : Int × Int), #[Value.int .i32 x.fst, Value.int .i32 x2.fst] = #[Value.int .i32 g8.fst, Value.int .i32 g8.snd] ∧ True ∧ ∀ (x7 : Bool) (w'7 : World), x7 = sylB g8.fst g8.snd ∧ Ext w'6 w'7 → bcase x7 (∃ (c : Nat), (1 : Int) = (↑c : Int) ∧ goB g (0 : Nat) c = true ∧ Ext w'2 w'7) (∃ (x8 : Nat), Value.int .i64 (↑x.snd : Int) = Value.int .i64 (↑x8 : Int) ∧ x8 = nextL g ∧ Ext w w'7))) (∃ (g7 : Int × Int), #[Value.int .i32 x.fst, Value.int .i32 x2.fst] = #[Value.int .i32 g7.fst, Value.int .i32 g7.snd] ∧ True ∧ ∀ (x6 : Bool) (w'6 : World), x6 = sylB g7.fst g7.snd ∧ Ext w'5 w'6 → bcase x6 (∃ (c : Nat), (1 : Int) = (↑c : Int) ∧ goB g (0 : Nat) c = true ∧ Ext w'2 w'6) (∃ (x7 : Nat), Value.int .i64 (↑x.snd : Int) = Value.int .i64 (↑x7 : Int) ∧ x7 = nextL g ∧ Ext w w'6))) (∃ (g6 : Int × Int), #[Value.int .i32 x.fst, Value.int .i32 x2.fst] = #[Value.int .i32 g6.fst, Value.int .i32 g6.snd] ∧ True ∧ ∀ (x5 : Bool) (w'5 : World), x5 = sylB g6.fst g6.snd ∧ Ext w'4 w'5 → bcase x5 (∃ (c : Nat), (1 : Int) = (↑c : Int) ∧ goB g (0 : Nat) c = true ∧ Ext w'2 w'5) (∃ (x6 : Nat), Value.int .i64 (↑x.snd : Int) = Value.int .i64 (↑x6 : Int) ∧ x6 = nextL g ∧ Ext w w'5))))) (∃ (g5 : Int), #[Value.int .i32 x2.fst] = #[Value.int .i32 g5] ∧ True ∧ ∀ (x4 : Bool) (w'4 : World), x4 = joinB g5 ∧ Ext w'3 w'4 → bcase x4 (∃ (c : Nat), (1 : Int) = (↑c : Int) ∧ goB g (0 : Nat) c = true ∧ Ext w'2 w'4) (∃ (g6 : Int), #[Value.int .i32 x.fst] = #[Value.int .i32 g6] ∧ True ∧ ∀ (x5 : Bool) (w'5 : World), x5 = regB g6 ∧ Ext w'4 w'5 → bcase x5 (∃ (g7 : Int), #[Value.int .i32 x2.fst] = #[Value.int .i32 g7] ∧ True ∧ ∀ (x6 : Bool) (w'6 : World), x6 = regB g7 ∧ Ext w'5 w'6 → bcase x6 (∃ (c : Nat), (1 : Int) = (↑c : Int) ∧ goB g (0 : Nat) c = true ∧ Ext w'2 w'6) (bcase (x.fst == (8205 : Int)) (∃ (g8 : Int), #[Value.int .i32 x.fst] = #[Value.int .i32 g8] ∧ True ∧
 ∀ (x7 : Bool) (w'7 : World), x7 = picB g8 ∧ Ext w'6 w'7 → bcase x7 (∃ (g9 : Int), #[Value.int .i32 x2.fst] = #[Value.int .i32 g9] ∧ True ∧ ∀ (x8 : Bool) (w'8 : World), x8 = picB g9 ∧ Ext w'7 w'8 → bcase x8 (∃ (c : Nat), (1 : Int) = (↑c : Int) ∧ goB g (0 : Nat) c = true ∧ Ext w'2 w'8) (∃ (g10 : Int × Int), #[Value.int .i32 x.fst, Value.int .i32 x2.fst] = #[Value.int .i32 g10.fst, Value.int .i32 g10.snd] ∧ True ∧ ∀ (x9 : Bool) (w'9 : World), x9 = sylB g10.fst g10.snd ∧ Ext w'8 w'9 → bcase x9 (∃ (c : Nat), (1 : Int) = (↑c : Int) ∧ goB g (0 : Nat) c = true ∧ Ext w'2 w'9) (∃ (x10 : Nat), Value.int .i64 (↑x.snd : Int) = Value.int .i64 (↑x10 : Int) ∧ x10 = nextL g ∧ Ext w w'9))) (∃ (g9 : Int × Int), #[Value.int .i32 x.fst, Value.int .i32 x2.fst] = #[Value.int .i32 g9.fst, Value.int .i32 g9.snd] ∧ True ∧ ∀ (x8 : Bool) (w'8 : World), x8 = sylB g9.fst g9.snd ∧ Ext w'7 w'8 → bcase x8 (∃ (c : Nat), (1 : Int) = (↑c : Int) ∧ goB g (0 : Nat) c = true ∧ Ext w'2 w'8) (∃ (x9 : Nat), Value.int .i64 (↑x.snd : Int) = Value.int .i64 (↑x9 : Int) ∧ x9 = nextL g ∧ Ext w w'8))) (∃ (g8 : Int × Int), #[Value.int .i32 x.fst, Value.int .i32 x2.fst] = #[Value.int .i32 g8.fst, Value.int .i32 g8.snd] ∧ True ∧ ∀ (x7 : Bool) (w'7 : World), x7 = sylB g8.fst g8.snd ∧ Ext w'6 w'7 → bcase x7 (∃ (c : Nat), (1 : Int) = (↑c : Int) ∧ goB g (0 : Nat) c = true ∧ Ext w'2 w'7) (∃ (x8 : Nat), Value.int .i64 (↑x.snd : Int) = Value.int .i64 (↑x8 : Int) ∧ x8 = nextL g ∧ Ext w w'7)))) (bcase (x.fst == (8205 : Int)) (∃ (g7 : Int), #[Value.int .i32 x.fst] = #[Value.int .i32 g7] ∧ True ∧ ∀ (x6 : Bool) (w'6 : World), x6 = picB g7 ∧ Ext w'5 w'6 → bcase x6 (∃ (g8 : Int), #[Value.int .i32 x2.fst] = #[Value.int .i32 g8] ∧ True ∧ ∀ (x7 : Bool) (w'7 : World), x7 = picB g8 ∧ Ext w'6 w'7 → bcase x7 (∃ (c : Nat), (1 : Int) = (↑c : Int) ∧ goB g (0 : Nat) c = true ∧ Ext w'2 w'7) (∃ (g9 : Int × Int), #[Value.int .i32 x.fst, Value.int .i32 x2.fst] = #[Value.int .i32 g9.fst, Value.int .i32 g9.snd] ∧ True ∧ ∀ (x8 : Bool) (w'8 : World), x8 = sylB g9.fst g9.snd ∧ Ext w'7 w'8 → bcase x8 (∃ (c : Nat), (1 : Int) = (↑c : Int) ∧ goB g (0 : Nat) c = true ∧ Ext w'2 w'8) (∃ (x9 : Nat), Value.int .i64 (↑x.snd : Int) = Value.int .i64 (↑x9 : Int) ∧ x9 = nextL g ∧ Ext w w'8))) (∃ (g8 : Int × Int), #[Value.int .i32 x.fst, Value.int .i32 x2.fst] = #[Value.int .i32 g8.fst, Value.int .i32 g8.snd] ∧ True ∧ ∀ (x7 : Bool) (w'7 : World), x7 = sylB g8.fst g8.snd ∧ Ext w'6 w'7 → bcase x7 (∃ (c : Nat), (1 : Int) = (↑c : Int) ∧ goB g (0 : Nat) c = true ∧ Ext w'2 w'7) (∃ (x8 : Nat), Value.int .i64 (↑x.snd : Int) = Value.int .i64 (↑x8 : Int) ∧ x8 = nextL g ∧ Ext w w'7))) (∃ (g7 : Int × Int), #[Value.int .i32 x.fst, Value.int .i32 x2.fst] = #[Value.int .i32 g7.fst, Value.int .i32 g7.snd] ∧ True ∧ ∀ (x6 : Bool) (w'6 : World), x6 = sylB g7.fst g7.snd ∧ Ext w'5 w'6 → bcase x6 (∃ (c : Nat), (1 : Int) = (↑c : Int) ∧ goB g (0 : Nat) c = true ∧ Ext w'2 w'6) (∃ (x7 : Nat),
 Value.int .i64 (↑x.snd : Int) = Value.int .i64 (↑x7 : Int) ∧ x7 = nextL g ∧ Ext w w'6)))))) ∧ ∀ (u : Nat → Value) (c : Nat) (w'3 : World), (1 : Int) = (↑c : Int) ∧ goB g (0 : Nat) c = true ∧ Ext w'2 w'3 → InR .i64 ((1 : Int) + (1 : Int)) ∧ InR .i64 ((↑x.snd : Int) + (↑x2.snd : Int)) ∧ ∃ (y : Nat), Value.int .i32 x.fst = Value.int .i32 (sg g (0 : Nat)) ∧ Value.int .i32 x2.fst = Value.int .i32 (sg g (y - (1 : Nat))) ∧ Value.int .i64 2 = Value.int .i64 (↑y : Int) ∧ Value.int .i64 ((↑x.snd : Int) + (↑x2.snd : Int)) = Value.int .i64 (↑(pos g y) : Int) ∧ (1 : Nat) ≤ y ∧ y ≤ cnt g ∧ y ≤ 32 ∧ (0 : Nat) < g.size ∧ goN g (0 : Nat) ((33 : Nat) - y) y = firstN g (0 : Nat) ∧ Ext w w'3))) (∃ (g2 : Int), #[Value.int .i32 x.fst] = #[Value.int .i32 g2] ∧ True ∧ ∀ (x1 : Bool) (w'1 : World), x1 = aloneB g2 ∧ Ext w' w'1 → bcase x1 (∃ (y : Unit), Value.int .i32 x.fst = Value.int .i32 (sg g (0 : Nat)) ∧ Value.int .i64 (↑x.snd : Int) = Value.int .i64 (↑(pos g (1 : Nat)) : Int) ∧ (0 : Nat) < g.size ∧ (isBad g (0 : Nat) = true ∨ aloneB (sg g (0 : Nat)) = true) ∧ Ext w w'1) (∃ (k : Nat), (↑x.snd : Int) = (↑k : Int) ∧ k ≤ g.size ∧ g.size ≤ g.size ∧ ∃ (g3 : ByteArray), #[Value.string (g.extract k g.size)] = #[Value.string g3] ∧ (U8 w'1 ∧ g3.size ≤ 67108864) ∧ ∀ (x2 : Int × Nat) (w'2 : World), x2.fst = nxR g3 ∧ x2.snd = nxN g3 ∧ Ext w'1 w'2 → bcase ((↑x.snd : Int) == (↑g.size : Int) || x2.fst == (65533 : Int) && (↑x2.snd : Int) == (1 : Int)) (∃ (x3 : Nat), Value.int .i64 (↑x.snd : Int) = Value.int .i64 (↑x3 : Int) ∧ x3 = nextL g ∧ Ext w w'2) (∃ (g4 : Int), #[Value.int .i32 x2.fst] = #[Value.int .i32 g4] ∧ True ∧ ∀ (x3 : Int) (w'3 : World), x3 = kindR g4 ∧ Ext w'2 w'3 → bcase (x3 == (2 : Int)) (bcase (x3 == (2 : Int)) (∃ (c : Nat), (1 : Int) = (↑c : Int) ∧ goB g (0 : Nat) c = true ∧ Ext w'2 w'3) (∃ (g5 : Int), #[Value.int .i32 x.fst] = #[Value.int .i32 g5] ∧ True ∧ ∀ (x4 : Bool) (w'4 : World), x4 = regB g5 ∧ Ext w'3 w'4 → bcase x4 (∃ (g6 : Int), #[Value.int .i32 x2.fst] = #[Value.int .i32 g6] ∧ True ∧ ∀ (x5 : Bool) (w'5 : World), x5 = regB g6 ∧ Ext w'4 w'5 → bcase x5 (∃ (c : Nat), (1 : Int) = (↑c : Int) ∧ goB g (0 : Nat) c = true ∧ Ext w'2 w'5) (bcase (x.fst == (8205 : Int)) (∃ (g7 : Int), #[Value.int .i32 x.fst] = #[Value.int .i32 g7] ∧ True ∧ ∀ (x6 : Bool) (w'6 : World), x6 = picB g7 ∧ Ext w'5 w'6 → bcase x6 (∃ (g8 : Int), #[Value.int .i32 x2.fst] = #[Value.int .i32 g8] ∧ True ∧ ∀ (x7 : Bool) (w'7 : World), x7 = picB g8 ∧ Ext w'6 w'7 → bcase x7 (∃ (c : Nat), (1 : Int) = (↑c : Int) ∧ goB g (0 : Nat) c = true ∧ Ext w'2 w'7) (∃ (g9 : Int × Int), #[Value.int .i32 x.fst, Value.int .i32 x2.fst] = #[Value.int .i32 g9.fst, Value.int .i32 g9.snd] ∧ True ∧ ∀ (x8 : Bool) (w'8 : World), x8 = sylB g9.fst g9.snd ∧ Ext w'7 w'8 → bcase x8 (∃ (c : Nat), (1 : Int) = (↑c : Int) ∧ goB g (0 : Nat) c = true ∧ Ext w'2 w'8) (∃ (x9 : Nat), Value.int .i64 (↑x.snd : Int) = Value.int .i64 (↑x9 : Int) ∧ x9 = nextL g ∧ Ext w w'8))) (∃ (g8 : Int × Int), #[Value.int .i32 x.fst, Value.int .i32 x2.fst] =
 #[Value.int .i32 g8.fst, Value.int .i32 g8.snd] ∧ True ∧ ∀ (x7 : Bool) (w'7 : World), x7 = sylB g8.fst g8.snd ∧ Ext w'6 w'7 → bcase x7 (∃ (c : Nat), (1 : Int) = (↑c : Int) ∧ goB g (0 : Nat) c = true ∧ Ext w'2 w'7) (∃ (x8 : Nat), Value.int .i64 (↑x.snd : Int) = Value.int .i64 (↑x8 : Int) ∧ x8 = nextL g ∧ Ext w w'7))) (∃ (g7 : Int × Int), #[Value.int .i32 x.fst, Value.int .i32 x2.fst] = #[Value.int .i32 g7.fst, Value.int .i32 g7.snd] ∧ True ∧ ∀ (x6 : Bool) (w'6 : World), x6 = sylB g7.fst g7.snd ∧ Ext w'5 w'6 → bcase x6 (∃ (c : Nat), (1 : Int) = (↑c : Int) ∧ goB g (0 : Nat) c = true ∧ Ext w'2 w'6) (∃ (x7 : Nat), Value.int .i64 (↑x.snd : Int) = Value.int .i64 (↑x7 : Int) ∧ x7 = nextL g ∧ Ext w w'6)))) (bcase (x.fst == (8205 : Int)) (∃ (g6 : Int), #[Value.int .i32 x.fst] = #[Value.int .i32 g6] ∧ True ∧ ∀ (x5 : Bool) (w'5 : World), x5 = picB g6 ∧ Ext w'4 w'5 → bcase x5 (∃ (g7 : Int), #[Value.int .i32 x2.fst] = #[Value.int .i32 g7] ∧ True ∧ ∀ (x6 : Bool) (w'6 : World), x6 = picB g7 ∧ Ext w'5 w'6 → bcase x6 (∃ (c : Nat), (1 : Int) = (↑c : Int) ∧ goB g (0 : Nat) c = true ∧ Ext w'2 w'6) (∃ (g8 : Int × Int), #[Value.int .i32 x.fst, Value.int .i32 x2.fst] = #[Value.int .i32 g8.fst, Value.int .i32 g8.snd] ∧ True ∧ ∀ (x7 : Bool) (w'7 : World), x7 = sylB g8.fst g8.snd ∧ Ext w'6 w'7 → bcase x7 (∃ (c : Nat), (1 : Int) = (↑c : Int) ∧ goB g (0 : Nat) c = true ∧ Ext w'2 w'7) (∃ (x8 : Nat), Value.int .i64 (↑x.snd : Int) = Value.int .i64 (↑x8 : Int) ∧ x8 = nextL g ∧ Ext w w'7))) (∃ (g7 : Int × Int), #[Value.int .i32 x.fst, Value.int .i32 x2.fst] = #[Value.int .i32 g7.fst, Value.int .i32 g7.snd] ∧ True ∧ ∀ (x6 : Bool) (w'6 : World), x6 = sylB g7.fst g7.snd ∧ Ext w'5 w'6 → bcase x6 (∃ (c : Nat), (1 : Int) = (↑c : Int) ∧ goB g (0 : Nat) c = true ∧ Ext w'2 w'6) (∃ (x7 : Nat), Value.int .i64 (↑x.snd : Int) = Value.int .i64 (↑x7 : Int) ∧ x7 = nextL g ∧ Ext w w'6))) (∃ (g6 : Int × Int), #[Value.int .i32 x.fst, Value.int .i32 x2.fst] = #[Value.int .i32 g6.fst, Value.int .i32 g6.snd] ∧ True ∧ ∀ (x5 : Bool) (w'5 : World), x5 = sylB g6.fst g6.snd ∧ Ext w'4 w'5 → bcase x5 (∃ (c : Nat), (1 : Int) = (↑c : Int) ∧ goB g (0 : Nat) c = true ∧ Ext w'2 w'5) (∃ (x6 : Nat), Value.int .i64 (↑x.snd : Int) = Value.int .i64 (↑x6 : Int) ∧ x6 = nextL g ∧ Ext w w'5))))) (∃ (g5 : Int), #[Value.int .i32 x2.fst] = #[Value.int .i32 g5] ∧ True ∧ ∀ (x4 : Bool) (w'4 : World), x4 = joinB g5 ∧ Ext w'3 w'4 → bcase x4 (∃ (c : Nat), (1 : Int) = (↑c : Int) ∧ goB g (0 : Nat) c = true ∧ Ext w'2 w'4) (∃ (g6 : Int), #[Value.int .i32 x.fst] = #[Value.int .i32 g6] ∧ True ∧ ∀ (x5 : Bool) (w'5 : World), x5 = regB g6 ∧ Ext w'4 w'5 → bcase x5 (∃ (g7 : Int), #[Value.int .i32 x2.fst] = #[Value.int .i32 g7] ∧ True ∧ ∀ (x6 : Bool) (w'6 : World), x6 = regB g7 ∧ Ext w'5 w'6 → bcase x6 (∃ (c : Nat), (1 : Int) = (↑c : Int) ∧ goB g (0 : Nat) c = true ∧ Ext w'2 w'6) (bcase (x.fst == (8205 : Int)) (∃ (g8 : Int), #[Value.int .i32 x.fst] = #[Value.int .i32 g8] ∧ True ∧ ∀ (x7 : Bool) (w'7 : World), x7 = picB g8 ∧ Ext w'6 w'7 →
 bcase x7 (∃ (g9 : Int), #[Value.int .i32 x2.fst] = #[Value.int .i32 g9] ∧ True ∧ ∀ (x8 : Bool) (w'8 : World), x8 = picB g9 ∧ Ext w'7 w'8 → bcase x8 (∃ (c : Nat), (1 : Int) = (↑c : Int) ∧ goB g (0 : Nat) c = true ∧ Ext w'2 w'8) (∃ (g10 : Int × Int), #[Value.int .i32 x.fst, Value.int .i32 x2.fst] = #[Value.int .i32 g10.fst, Value.int .i32 g10.snd] ∧ True ∧ ∀ (x9 : Bool) (w'9 : World), x9 = sylB g10.fst g10.snd ∧ Ext w'8 w'9 → bcase x9 (∃ (c : Nat), (1 : Int) = (↑c : Int) ∧ goB g (0 : Nat) c = true ∧ Ext w'2 w'9) (∃ (x10 : Nat), Value.int .i64 (↑x.snd : Int) = Value.int .i64 (↑x10 : Int) ∧ x10 = nextL g ∧ Ext w w'9))) (∃ (g9 : Int × Int), #[Value.int .i32 x.fst, Value.int .i32 x2.fst] = #[Value.int .i32 g9.fst, Value.int .i32 g9.snd] ∧ True ∧ ∀ (x8 : Bool) (w'8 : World), x8 = sylB g9.fst g9.snd ∧ Ext w'7 w'8 → bcase x8 (∃ (c : Nat), (1 : Int) = (↑c : Int) ∧ goB g (0 : Nat) c = true ∧ Ext w'2 w'8) (∃ (x9 : Nat), Value.int .i64 (↑x.snd : Int) = Value.int .i64 (↑x9 : Int) ∧ x9 = nextL g ∧ Ext w w'8))) (∃ (g8 : Int × Int), #[Value.int .i32 x.fst, Value.int .i32 x2.fst] = #[Value.int .i32 g8.fst, Value.int .i32 g8.snd] ∧ True ∧ ∀ (x7 : Bool) (w'7 : World), x7 = sylB g8.fst g8.snd ∧ Ext w'6 w'7 → bcase x7 (∃ (c : Nat), (1 : Int) = (↑c : Int) ∧ goB g (0 : Nat) c = true ∧ Ext w'2 w'7) (∃ (x8 : Nat), Value.int .i64 (↑x.snd : Int) = Value.int .i64 (↑x8 : Int) ∧ x8 = nextL g ∧ Ext w w'7)))) (bcase (x.fst == (8205 : Int)) (∃ (g7 : Int), #[Value.int .i32 x.fst] = #[Value.int .i32 g7] ∧ True ∧ ∀ (x6 : Bool) (w'6 : World), x6 = picB g7 ∧ Ext w'5 w'6 → bcase x6 (∃ (g8 : Int), #[Value.int .i32 x2.fst] = #[Value.int .i32 g8] ∧ True ∧ ∀ (x7 : Bool) (w'7 : World), x7 = picB g8 ∧ Ext w'6 w'7 → bcase x7 (∃ (c : Nat), (1 : Int) = (↑c : Int) ∧ goB g (0 : Nat) c = true ∧ Ext w'2 w'7) (∃ (g9 : Int × Int), #[Value.int .i32 x.fst, Value.int .i32 x2.fst] = #[Value.int .i32 g9.fst, Value.int .i32 g9.snd] ∧ True ∧ ∀ (x8 : Bool) (w'8 : World), x8 = sylB g9.fst g9.snd ∧ Ext w'7 w'8 → bcase x8 (∃ (c : Nat), (1 : Int) = (↑c : Int) ∧ goB g (0 : Nat) c = true ∧ Ext w'2 w'8) (∃ (x9 : Nat), Value.int .i64 (↑x.snd : Int) = Value.int .i64 (↑x9 : Int) ∧ x9 = nextL g ∧ Ext w w'8))) (∃ (g8 : Int × Int), #[Value.int .i32 x.fst, Value.int .i32 x2.fst] = #[Value.int .i32 g8.fst, Value.int .i32 g8.snd] ∧ True ∧ ∀ (x7 : Bool) (w'7 : World), x7 = sylB g8.fst g8.snd ∧ Ext w'6 w'7 → bcase x7 (∃ (c : Nat), (1 : Int) = (↑c : Int) ∧ goB g (0 : Nat) c = true ∧ Ext w'2 w'7) (∃ (x8 : Nat), Value.int .i64 (↑x.snd : Int) = Value.int .i64 (↑x8 : Int) ∧ x8 = nextL g ∧ Ext w w'7))) (∃ (g7 : Int × Int), #[Value.int .i32 x.fst, Value.int .i32 x2.fst] = #[Value.int .i32 g7.fst, Value.int .i32 g7.snd] ∧ True ∧ ∀ (x6 : Bool) (w'6 : World), x6 = sylB g7.fst g7.snd ∧ Ext w'5 w'6 → bcase x6 (∃ (c : Nat), (1 : Int) = (↑c : Int) ∧ goB g (0 : Nat) c = true ∧ Ext w'2 w'6) (∃ (x7 : Nat), Value.int .i64 (↑x.snd : Int) = Value.int .i64 (↑x7 : Int) ∧ x7 = nextL g ∧ Ext w w'6)))))) ∧
 ∀ (u : Nat → Value) (c : Nat) (w'3 : World), (1 : Int) = (↑c : Int) ∧ goB g (0 : Nat) c = true ∧ Ext w'2 w'3 → InR .i64 ((1 : Int) + (1 : Int)) ∧ InR .i64 ((↑x.snd : Int) + (↑x2.snd : Int)) ∧ ∃ (y : Nat), Value.int .i32 x.fst = Value.int .i32 (sg g (0 : Nat)) ∧ Value.int .i32 x2.fst = Value.int .i32 (sg g (y - (1 : Nat))) ∧ Value.int .i64 2 = Value.int .i64 (↑y : Int) ∧ Value.int .i64 ((↑x.snd : Int) + (↑x2.snd : Int)) = Value.int .i64 (↑(pos g y) : Int) ∧ (1 : Nat) ≤ y ∧ y ≤ cnt g ∧ y ≤ 32 ∧ (0 : Nat) < g.size ∧ goN g (0 : Nat) ((33 : Nat) - y) y = firstN g (0 : Nat) ∧ Ext w w'3)))) ∧ (∀ (u : Nat → Value) (x : Nat) (w' : World), (1 : Nat) ≤ x ∧ x ≤ cnt g ∧ x ≤ 32 ∧ (0 : Nat) < g.size ∧ goN g (0 : Nat) ((33 : Nat) - x) x = firstN g (0 : Nat) ∧ Ext w w' → bcase ((↑x : Int) == (32 : Int)) (∃ (x1 : Nat), Value.int .i64 (↑(pos g x) : Int) = Value.int .i64 (↑x1 : Int) ∧ x1 = nextL g ∧ Ext w w') (∃ (k : Nat), (↑(pos g x) : Int) = (↑k : Int) ∧ k ≤ g.size ∧ g.size ≤ g.size ∧ ∃ (g1 : ByteArray), #[Value.string (g.extract k g.size)] = #[Value.string g1] ∧ (U8 w' ∧ g1.size ≤ 67108864) ∧ ∀ (x1 : Int × Nat) (w'1 : World), x1.fst = nxR g1 ∧ x1.snd = nxN g1 ∧ Ext w' w'1 → bcase ((↑(pos g x) : Int) == (↑g.size : Int) || x1.fst == (65533 : Int) && (↑x1.snd : Int) == (1 : Int)) (∃ (x2 : Nat), Value.int .i64 (↑(pos g x) : Int) = Value.int .i64 (↑x2 : Int) ∧ x2 = nextL g ∧ Ext w w'1) (∃ (g2 : Int), #[Value.int .i32 x1.fst] = #[Value.int .i32 g2] ∧ True ∧ ∀ (x2 : Int) (w'2 : World), x2 = kindR g2 ∧ Ext w'1 w'2 → bcase (x2 == (2 : Int)) (bcase (x2 == (2 : Int)) (∃ (c : Nat), (↑x : Int) = (↑c : Int) ∧ goB g (0 : Nat) c = true ∧ Ext w'1 w'2) (bcase ((↑x : Int) == (1 : Int)) (∃ (g3 : Int), #[Value.int .i32 (sg g (0 : Nat))] = #[Value.int .i32 g3] ∧ True ∧ ∀ (x3 : Bool) (w'3 : World), x3 = regB g3 ∧ Ext w'2 w'3 → bcase x3 (∃ (g4 : Int), #[Value.int .i32 x1.fst] = #[Value.int .i32 g4] ∧ True ∧ ∀ (x4 : Bool) (w'4 : World), x4 = regB g4 ∧ Ext w'3 w'4 → bcase x4 (∃ (c : Nat), (↑x : Int) = (↑c : Int) ∧ goB g (0 : Nat) c = true ∧ Ext w'1 w'4) (bcase (sg g (x - (1 : Nat)) == (8205 : Int)) (∃ (g5 : Int), #[Value.int .i32 (sg g (0 : Nat))] = #[Value.int .i32 g5] ∧ True ∧ ∀ (x5 : Bool) (w'5 : World), x5 = picB g5 ∧ Ext w'4 w'5 → bcase x5 (∃ (g6 : Int), #[Value.int .i32 x1.fst] = #[Value.int .i32 g6] ∧ True ∧ ∀ (x6 : Bool) (w'6 : World), x6 = picB g6 ∧ Ext w'5 w'6 → bcase x6 (∃ (c : Nat), (↑x : Int) = (↑c : Int) ∧ goB g (0 : Nat) c = true ∧ Ext w'1 w'6) (∃ (g7 : Int × Int), #[Value.int .i32 (sg g (x - (1 : Nat))), Value.int .i32 x1.fst] = #[Value.int .i32 g7.fst, Value.int .i32 g7.snd] ∧ True ∧ ∀ (x7 : Bool) (w'7 : World), x7 = sylB g7.fst g7.snd ∧ Ext w'6 w'7 → bcase x7 (∃ (c : Nat), (↑x : Int) = (↑c : Int) ∧ goB g (0 : Nat) c = true ∧ Ext w'1 w'7) (∃ (x8 : Nat), Value.int .i64 (↑(pos g x) : Int) = Value.int .i64 (↑x8 : Int) ∧ x8 = nextL g ∧ Ext w w'7))) (∃ (g6 : Int × Int), #[Value.int .i32 (sg g (x - (1 : Nat))), Value.int .i32 x1.fst] =
 #[Value.int .i32 g6.fst, Value.int .i32 g6.snd] ∧ True ∧ ∀ (x6 : Bool) (w'6 : World), x6 = sylB g6.fst g6.snd ∧ Ext w'5 w'6 → bcase x6 (∃ (c : Nat), (↑x : Int) = (↑c : Int) ∧ goB g (0 : Nat) c = true ∧ Ext w'1 w'6) (∃ (x7 : Nat), Value.int .i64 (↑(pos g x) : Int) = Value.int .i64 (↑x7 : Int) ∧ x7 = nextL g ∧ Ext w w'6))) (∃ (g5 : Int × Int), #[Value.int .i32 (sg g (x - (1 : Nat))), Value.int .i32 x1.fst] = #[Value.int .i32 g5.fst, Value.int .i32 g5.snd] ∧ True ∧ ∀ (x5 : Bool) (w'5 : World), x5 = sylB g5.fst g5.snd ∧ Ext w'4 w'5 → bcase x5 (∃ (c : Nat), (↑x : Int) = (↑c : Int) ∧ goB g (0 : Nat) c = true ∧ Ext w'1 w'5) (∃ (x6 : Nat), Value.int .i64 (↑(pos g x) : Int) = Value.int .i64 (↑x6 : Int) ∧ x6 = nextL g ∧ Ext w w'5)))) (bcase (sg g (x - (1 : Nat)) == (8205 : Int)) (∃ (g4 : Int), #[Value.int .i32 (sg g (0 : Nat))] = #[Value.int .i32 g4] ∧ True ∧ ∀ (x4 : Bool) (w'4 : World), x4 = picB g4 ∧ Ext w'3 w'4 → bcase x4 (∃ (g5 : Int), #[Value.int .i32 x1.fst] = #[Value.int .i32 g5] ∧ True ∧ ∀ (x5 : Bool) (w'5 : World), x5 = picB g5 ∧ Ext w'4 w'5 → bcase x5 (∃ (c : Nat), (↑x : Int) = (↑c : Int) ∧ goB g (0 : Nat) c = true ∧ Ext w'1 w'5) (∃ (g6 : Int × Int), #[Value.int .i32 (sg g (x - (1 : Nat))), Value.int .i32 x1.fst] = #[Value.int .i32 g6.fst, Value.int .i32 g6.snd] ∧ True ∧ ∀ (x6 : Bool) (w'6 : World), x6 = sylB g6.fst g6.snd ∧ Ext w'5 w'6 → bcase x6 (∃ (c : Nat), (↑x : Int) = (↑c : Int) ∧ goB g (0 : Nat) c = true ∧ Ext w'1 w'6) (∃ (x7 : Nat), Value.int .i64 (↑(pos g x) : Int) = Value.int .i64 (↑x7 : Int) ∧ x7 = nextL g ∧ Ext w w'6))) (∃ (g5 : Int × Int), #[Value.int .i32 (sg g (x - (1 : Nat))), Value.int .i32 x1.fst] = #[Value.int .i32 g5.fst, Value.int .i32 g5.snd] ∧ True ∧ ∀ (x5 : Bool) (w'5 : World), x5 = sylB g5.fst g5.snd ∧ Ext w'4 w'5 → bcase x5 (∃ (c : Nat), (↑x : Int) = (↑c : Int) ∧ goB g (0 : Nat) c = true ∧ Ext w'1 w'5) (∃ (x6 : Nat), Value.int .i64 (↑(pos g x) : Int) = Value.int .i64 (↑x6 : Int) ∧ x6 = nextL g ∧ Ext w w'5))) (∃ (g4 : Int × Int), #[Value.int .i32 (sg g (x - (1 : Nat))), Value.int .i32 x1.fst] = #[Value.int .i32 g4.fst, Value.int .i32 g4.snd] ∧ True ∧ ∀ (x4 : Bool) (w'4 : World), x4 = sylB g4.fst g4.snd ∧ Ext w'3 w'4 → bcase x4 (∃ (c : Nat), (↑x : Int) = (↑c : Int) ∧ goB g (0 : Nat) c = true ∧ Ext w'1 w'4) (∃ (x5 : Nat), Value.int .i64 (↑(pos g x) : Int) = Value.int .i64 (↑x5 : Int) ∧ x5 = nextL g ∧ Ext w w'4)))) (bcase (sg g (x - (1 : Nat)) == (8205 : Int)) (∃ (g3 : Int), #[Value.int .i32 (sg g (0 : Nat))] = #[Value.int .i32 g3] ∧ True ∧ ∀ (x3 : Bool) (w'3 : World), x3 = picB g3 ∧ Ext w'2 w'3 → bcase x3 (∃ (g4 : Int), #[Value.int .i32 x1.fst] = #[Value.int .i32 g4] ∧ True ∧ ∀ (x4 : Bool) (w'4 : World), x4 = picB g4 ∧ Ext w'3 w'4 → bcase x4 (∃ (c : Nat), (↑x : Int) = (↑c : Int) ∧ goB g (0 : Nat) c = true ∧ Ext w'1 w'4) (∃ (g5 : Int × Int), #[Value.int .i32 (sg g (x - (1 : Nat))), Value.int .i32 x1.fst] = #[Value.int .i32 g5.fst, Value.int .i32 g5.snd] ∧ True ∧ ∀ (x5 : Bool) (w'5 : World),
 x5 = sylB g5.fst g5.snd ∧ Ext w'4 w'5 → bcase x5 (∃ (c : Nat), (↑x : Int) = (↑c : Int) ∧ goB g (0 : Nat) c = true ∧ Ext w'1 w'5) (∃ (x6 : Nat), Value.int .i64 (↑(pos g x) : Int) = Value.int .i64 (↑x6 : Int) ∧ x6 = nextL g ∧ Ext w w'5))) (∃ (g4 : Int × Int), #[Value.int .i32 (sg g (x - (1 : Nat))), Value.int .i32 x1.fst] = #[Value.int .i32 g4.fst, Value.int .i32 g4.snd] ∧ True ∧ ∀ (x4 : Bool) (w'4 : World), x4 = sylB g4.fst g4.snd ∧ Ext w'3 w'4 → bcase x4 (∃ (c : Nat), (↑x : Int) = (↑c : Int) ∧ goB g (0 : Nat) c = true ∧ Ext w'1 w'4) (∃ (x5 : Nat), Value.int .i64 (↑(pos g x) : Int) = Value.int .i64 (↑x5 : Int) ∧ x5 = nextL g ∧ Ext w w'4))) (∃ (g3 : Int × Int), #[Value.int .i32 (sg g (x - (1 : Nat))), Value.int .i32 x1.fst] = #[Value.int .i32 g3.fst, Value.int .i32 g3.snd] ∧ True ∧ ∀ (x3 : Bool) (w'3 : World), x3 = sylB g3.fst g3.snd ∧ Ext w'2 w'3 → bcase x3 (∃ (c : Nat), (↑x : Int) = (↑c : Int) ∧ goB g (0 : Nat) c = true ∧ Ext w'1 w'3) (∃ (x4 : Nat), Value.int .i64 (↑(pos g x) : Int) = Value.int .i64 (↑x4 : Int) ∧ x4 = nextL g ∧ Ext w w'3))))) (∃ (g3 : Int), #[Value.int .i32 x1.fst] = #[Value.int .i32 g3] ∧ True ∧ ∀ (x3 : Bool) (w'3 : World), x3 = joinB g3 ∧ Ext w'2 w'3 → bcase x3 (∃ (c : Nat), (↑x : Int) = (↑c : Int) ∧ goB g (0 : Nat) c = true ∧ Ext w'1 w'3) (bcase ((↑x : Int) == (1 : Int)) (∃ (g4 : Int), #[Value.int .i32 (sg g (0 : Nat))] = #[Value.int .i32 g4] ∧ True ∧ ∀ (x4 : Bool) (w'4 : World), x4 = regB g4 ∧ Ext w'3 w'4 → bcase x4 (∃ (g5 : Int), #[Value.int .i32 x1.fst] = #[Value.int .i32 g5] ∧ True ∧ ∀ (x5 : Bool) (w'5 : World), x5 = regB g5 ∧ Ext w'4 w'5 → bcase x5 (∃ (c : Nat), (↑x : Int) = (↑c : Int) ∧ goB g (0 : Nat) c = true ∧ Ext w'1 w'5) (bcase (sg g (x - (1 : Nat)) == (8205 : Int)) (∃ (g6 : Int), #[Value.int .i32 (sg g (0 : Nat))] = #[Value.int .i32 g6] ∧ True ∧ ∀ (x6 : Bool) (w'6 : World), x6 = picB g6 ∧ Ext w'5 w'6 → bcase x6 (∃ (g7 : Int), #[Value.int .i32 x1.fst] = #[Value.int .i32 g7] ∧ True ∧ ∀ (x7 : Bool) (w'7 : World), x7 = picB g7 ∧ Ext w'6 w'7 → bcase x7 (∃ (c : Nat), (↑x : Int) = (↑c : Int) ∧ goB g (0 : Nat) c = true ∧ Ext w'1 w'7) (∃ (g8 : Int × Int), #[Value.int .i32 (sg g (x - (1 : Nat))), Value.int .i32 x1.fst] = #[Value.int .i32 g8.fst, Value.int .i32 g8.snd] ∧ True ∧ ∀ (x8 : Bool) (w'8 : World), x8 = sylB g8.fst g8.snd ∧ Ext w'7 w'8 → bcase x8 (∃ (c : Nat), (↑x : Int) = (↑c : Int) ∧ goB g (0 : Nat) c = true ∧ Ext w'1 w'8) (∃ (x9 : Nat), Value.int .i64 (↑(pos g x) : Int) = Value.int .i64 (↑x9 : Int) ∧ x9 = nextL g ∧ Ext w w'8))) (∃ (g7 : Int × Int), #[Value.int .i32 (sg g (x - (1 : Nat))), Value.int .i32 x1.fst] = #[Value.int .i32 g7.fst, Value.int .i32 g7.snd] ∧ True ∧ ∀ (x7 : Bool) (w'7 : World), x7 = sylB g7.fst g7.snd ∧ Ext w'6 w'7 → bcase x7 (∃ (c : Nat), (↑x : Int) = (↑c : Int) ∧ goB g (0 : Nat) c = true ∧ Ext w'1 w'7) (∃ (x8 : Nat), Value.int .i64 (↑(pos g x) : Int) = Value.int .i64 (↑x8 : Int) ∧ x8 = nextL g ∧ Ext w w'7))) (∃ (g6 : Int × Int),
 #[Value.int .i32 (sg g (x - (1 : Nat))), Value.int .i32 x1.fst] = #[Value.int .i32 g6.fst, Value.int .i32 g6.snd] ∧ True ∧ ∀ (x6 : Bool) (w'6 : World), x6 = sylB g6.fst g6.snd ∧ Ext w'5 w'6 → bcase x6 (∃ (c : Nat), (↑x : Int) = (↑c : Int) ∧ goB g (0 : Nat) c = true ∧ Ext w'1 w'6) (∃ (x7 : Nat), Value.int .i64 (↑(pos g x) : Int) = Value.int .i64 (↑x7 : Int) ∧ x7 = nextL g ∧ Ext w w'6)))) (bcase (sg g (x - (1 : Nat)) == (8205 : Int)) (∃ (g5 : Int), #[Value.int .i32 (sg g (0 : Nat))] = #[Value.int .i32 g5] ∧ True ∧ ∀ (x5 : Bool) (w'5 : World), x5 = picB g5 ∧ Ext w'4 w'5 → bcase x5 (∃ (g6 : Int), #[Value.int .i32 x1.fst] = #[Value.int .i32 g6] ∧ True ∧ ∀ (x6 : Bool) (w'6 : World), x6 = picB g6 ∧ Ext w'5 w'6 → bcase x6 (∃ (c : Nat), (↑x : Int) = (↑c : Int) ∧ goB g (0 : Nat) c = true ∧ Ext w'1 w'6) (∃ (g7 : Int × Int), #[Value.int .i32 (sg g (x - (1 : Nat))), Value.int .i32 x1.fst] = #[Value.int .i32 g7.fst, Value.int .i32 g7.snd] ∧ True ∧ ∀ (x7 : Bool) (w'7 : World), x7 = sylB g7.fst g7.snd ∧ Ext w'6 w'7 → bcase x7 (∃ (c : Nat), (↑x : Int) = (↑c : Int) ∧ goB g (0 : Nat) c = true ∧ Ext w'1 w'7) (∃ (x8 : Nat), Value.int .i64 (↑(pos g x) : Int) = Value.int .i64 (↑x8 : Int) ∧ x8 = nextL g ∧ Ext w w'7))) (∃ (g6 : Int × Int), #[Value.int .i32 (sg g (x - (1 : Nat))), Value.int .i32 x1.fst] = #[Value.int .i32 g6.fst, Value.int .i32 g6.snd] ∧ True ∧ ∀ (x6 : Bool) (w'6 : World), x6 = sylB g6.fst g6.snd ∧ Ext w'5 w'6 → bcase x6 (∃ (c : Nat), (↑x : Int) = (↑c : Int) ∧ goB g (0 : Nat) c = true ∧ Ext w'1 w'6) (∃ (x7 : Nat), Value.int .i64 (↑(pos g x) : Int) = Value.int .i64 (↑x7 : Int) ∧ x7 = nextL g ∧ Ext w w'6))) (∃ (g5 : Int × Int), #[Value.int .i32 (sg g (x - (1 : Nat))), Value.int .i32 x1.fst] = #[Value.int .i32 g5.fst, Value.int .i32 g5.snd] ∧ True ∧ ∀ (x5 : Bool) (w'5 : World), x5 = sylB g5.fst g5.snd ∧ Ext w'4 w'5 → bcase x5 (∃ (c : Nat), (↑x : Int) = (↑c : Int) ∧ goB g (0 : Nat) c = true ∧ Ext w'1 w'5) (∃ (x6 : Nat), Value.int .i64 (↑(pos g x) : Int) = Value.int .i64 (↑x6 : Int) ∧ x6 = nextL g ∧ Ext w w'5)))) (bcase (sg g (x - (1 : Nat)) == (8205 : Int)) (∃ (g4 : Int), #[Value.int .i32 (sg g (0 : Nat))] = #[Value.int .i32 g4] ∧ True ∧ ∀ (x4 : Bool) (w'4 : World), x4 = picB g4 ∧ Ext w'3 w'4 → bcase x4 (∃ (g5 : Int), #[Value.int .i32 x1.fst] = #[Value.int .i32 g5] ∧ True ∧ ∀ (x5 : Bool) (w'5 : World), x5 = picB g5 ∧ Ext w'4 w'5 → bcase x5 (∃ (c : Nat), (↑x : Int) = (↑c : Int) ∧ goB g (0 : Nat) c = true ∧ Ext w'1 w'5) (∃ (g6 : Int × Int), #[Value.int .i32 (sg g (x - (1 : Nat))), Value.int .i32 x1.fst] = #[Value.int .i32 g6.fst, Value.int .i32 g6.snd] ∧ True ∧ ∀ (x6 : Bool) (w'6 : World), x6 = sylB g6.fst g6.snd ∧ Ext w'5 w'6 → bcase x6 (∃ (c : Nat), (↑x : Int) = (↑c : Int) ∧ goB g (0 : Nat) c = true ∧ Ext w'1 w'6) (∃ (x7 : Nat), Value.int .i64 (↑(pos g x) : Int) = Value.int .i64 (↑x7 : Int) ∧ x7 = nextL g ∧ Ext w w'6))) (∃ (g5 : Int × Int), #[Value.int .i32 (sg g (x - (1 : Nat))), Value.int .i32 x1.fst] = #[Value.int .i32 g5.fst, Value.int .i32 g5.snd] ∧
 True ∧ ∀ (x5 : Bool) (w'5 : World), x5 = sylB g5.fst g5.snd ∧ Ext w'4 w'5 → bcase x5 (∃ (c : Nat), (↑x : Int) = (↑c : Int) ∧ goB g (0 : Nat) c = true ∧ Ext w'1 w'5) (∃ (x6 : Nat), Value.int .i64 (↑(pos g x) : Int) = Value.int .i64 (↑x6 : Int) ∧ x6 = nextL g ∧ Ext w w'5))) (∃ (g4 : Int × Int), #[Value.int .i32 (sg g (x - (1 : Nat))), Value.int .i32 x1.fst] = #[Value.int .i32 g4.fst, Value.int .i32 g4.snd] ∧ True ∧ ∀ (x4 : Bool) (w'4 : World), x4 = sylB g4.fst g4.snd ∧ Ext w'3 w'4 → bcase x4 (∃ (c : Nat), (↑x : Int) = (↑c : Int) ∧ goB g (0 : Nat) c = true ∧ Ext w'1 w'4) (∃ (x5 : Nat), Value.int .i64 (↑(pos g x) : Int) = Value.int .i64 (↑x5 : Int) ∧ x5 = nextL g ∧ Ext w w'4)))))) ∧ ∀ (u1 : Nat → Value) (c : Nat) (w'2 : World), (↑x : Int) = (↑c : Int) ∧ goB g (0 : Nat) c = true ∧ Ext w'1 w'2 → InR .i64 ((↑x : Int) + (1 : Int)) ∧ InR .i64 ((↑(pos g x) : Int) + (↑x1.snd : Int)) ∧ ∃ (y : Nat), Value.int .i32 (sg g (0 : Nat)) = Value.int .i32 (sg g (0 : Nat)) ∧ Value.int .i32 x1.fst = Value.int .i32 (sg g (y - (1 : Nat))) ∧ Value.int .i64 ((↑x : Int) + (1 : Int)) = Value.int .i64 (↑y : Int) ∧ Value.int .i64 ((↑(pos g x) : Int) + (↑x1.snd : Int)) = Value.int .i64 (↑(pos g y) : Int) ∧ ((1 : Nat) ≤ y ∧ y ≤ cnt g ∧ y ≤ 32 ∧ (0 : Nat) < g.size ∧ goN g (0 : Nat) ((33 : Nat) - y) y = firstN g (0 : Nat) ∧ Ext w w'2) ∧ (40 : Nat) - y < 40 - x)) ∧ (∀ (u : Nat → Value) (x : Unit) (w' : World), (0 : Nat) < g.size ∧ (isBad g (0 : Nat) = true ∨ aloneB (sg g (0 : Nat)) = true) ∧ Ext w w' → bcase (sg g (0 : Nat) == (13 : Int)) (bcase (decide ((↑g.size : Int) > (1 : Int))) (∃ (k : Nat), (1 : Int) = (↑k : Int) ∧ k < g.size ∧ bcase ((↑(g.data.toList.getD k (0 : UInt8)).toNat : Int) == (10 : Int)) (∃ (x1 : Nat), Value.int .i64 2 = Value.int .i64 (↑x1 : Int) ∧ x1 = nextL g ∧ Ext w w') (∃ (x1 : Nat), Value.int .i64 (↑(pos g (1 : Nat)) : Int) = Value.int .i64 (↑x1 : Int) ∧ x1 = nextL g ∧ Ext w w')) (∃ (x1 : Nat), Value.int .i64 (↑(pos g (1 : Nat)) : Int) = Value.int .i64 (↑x1 : Int) ∧ x1 = nextL g ∧ Ext w w')) (∃ (x1 : Nat), Value.int .i64 (↑(pos g (1 : Nat)) : Int) = Value.int .i64 (↑x1 : Int) ∧ x1 = nextL g ∧ Ext w w')) ∧ True) :
    ((sSN nextL)).Ok Tryd.prog 44 :=
  ok_of_vc (sSN nextL) annCNext spCNext (fun _ _ => rfl) (fun _ _ => rfl) hsp Tryd.func44 rfl (n := 1) (fun _ => rfl) (by kernel_rfl) (vcast (by kernel_rfl) h)
end Go.Proofs.YtjdohhididpomaaDoor
end
