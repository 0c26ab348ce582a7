/-
  Texts joined by program: WkB, Gi, WkSf, VgK, WkK.
-/
import Derived.Test.YthpjkgoahneldaaDoorSg09
import Derived.Test.YthpjkgoahneldaaDoorSg05
import Derived.Test.YthpjkgoahneldaaDoorProg
import Derived.KernelRfl
set_option linter.unusedVariables false
set_option linter.unusedSimpArgs false

section
/-
  Chapter 1: whole texts: the document's lists and the program's say the same.
-/
namespace Go.Proofs.YthpjkgoahneldaaDoor
open Go Go.RowKit Vc Ut

theorem oneV_len (s : ByteArray) (n : Nat) : (oneV s n).length = 4 := rfl
theorem oneV_one (s : ByteArray) (n : Nat) : ∀ u ∈ oneV s n, u.oneCell' = true := by
  intro u hu
  simp only [oneV, List.mem_cons, List.not_mem_nil, or_false] at hu
  rcases hu with rfl | rfl | rfl | rfl <;> rfl
theorem ones_len (s : ByteArray) (l : List Nat) : (l.flatMap (oneV s)).length = l.length * 4 := flat_len' (oneV_len s) l


theorem one_cell {s : ByteArray} {l : List Nat} {k j n : Nat} {v : Value} (hk : l[k]? = some n) (hj : (oneV s n)[j]? = some v) : (l.flatMap (oneV s))[k * 4 + j]? = some v := by
  rw [flat_at (oneV_len s) hk (by have := (List.getElem?_eq_some_iff.1 hj).1; simpa [oneV] using this)]; exact hj
theorem all_at {s : ByteArray} {k : Nat} (h : k < cnt s) : (allN s)[k]? = some k := by simp [allN, List.getElem?_range, h]

theorem back_at {s : ByteArray} {k : Nat} (h : k < cnt s) : (backN s)[k]? = some (cnt s - 1 - k) := by
  simp [backN, List.getElem?_map, List.getElem?_range, h]
theorem back_len (s : ByteArray) : (backN s).length = cnt s := by simp [backN]

theorem badT_succ (s : ByteArray) (n : Nat) : badT s (n + 1) = badT s n ++ (if isBad s n then [(pos s n : Int)] else []) := by
  unfold badT
  rw [List.range_succ, List.filter_append, List.map_append]
  congr 1
  by_cases h : isBad s n = true <;> simp [h]
theorem badT_len (s : ByteArray) (n : Nat) : (badT s n).length ≤ n := by
  unfold badT; rw [List.length_map]; have := List.length_filter_le (isBad s) (List.range n); simpa using this

theorem grown_heap {w w1 : World} {a : Option Addr} {b : Nat} {o : Obj} (h : w.grownBy w1 (blk a)) (hb : w.heap[b]? = some o) (hne : blk a ≠ some b) : w1.heap[b]? = some o :=
  (h.block b (Array.getElem?_eq_some_iff.1 hb).1 (fun e => hne e.symm)).trans hb
theorem row_apart {w : World} {e : TypeId} {s n c b : Nat} {ad : Option Addr} {vs : List Value} {t : ByteArray} {i : Nat} (h : Row w e s ad n vs c) (hb : w.heap[b]? = some (.stringIter t i)) : blk ad ≠ some b := by
  rcases h.2 with ⟨rfl, _⟩ | ⟨g, cur, rfl, h1, _⟩
  · simp [blk]
  · intro hh
    simp only [blk, Option.map_some, Option.some.injEq] at hh
    subst hh; rw [hb] at h1; cases h1


theorem newRunes_made {w w1 : World} {s : ByteArray} {e c b : Nat} (h : NewRunes w s e c b w1) : Made w w1 e 1 (some ⟨b, 0, none⟩) (runesV s).length ((runes s).map (Value.int .i32)) c := by
  obtain ⟨h1, h2, rfl, rfl⟩ := h
  have hext : Ext w (w.drew.alloc (.cells (runesV s ++ List.replicate (c - (runesV s).length) (Value.int .i32 0)).toArray e)) := ((Below.refl w.heap.size w).drew).alloc (Nat.le_refl _) _
  refine ⟨⟨by rw [runesV_eq, Nat.mul_one], .inr ⟨w.heap.size, (runesV s ++ List.replicate (c - (runesV s).length) (Value.int .i32 0)).toArray, rfl, ?_, h1, h2, ?_, ?_⟩⟩, ?_, hext⟩
  · show (w.heap.push _)[w.heap.size]? = _
    simp
  · simp; omega
  · rw [Nat.mul_one, List.take_left' rfl, runesV_eq]
  · intro g hg; simp [blk] at hg; omega

theorem runesV_len (s : ByteArray) : (runesV s).length = cnt s := by rw [runesV_eq, List.length_map, runes_len]


theorem runesIn_of {w : World} {ad : Option Addr} {xs : List Int} (h : CellsAt w ad (xs.map (Value.int .i32))) : RunesIn w ad xs.length xs := by
  refine ⟨rfl, ?_⟩
  rcases h with h | ⟨b, o, rfl, h⟩
  · left; simpa using h
  · right
    refine ⟨b, o, rfl, fun j hj => h j _ ?_⟩
    simp [List.getD, hj]
theorem bytesIn_of {w : World} {ad : Option Addr} {n : Nat} {s : ByteArray} (hn : n = s.size) (h : CellsAt w ad (s.data.toList.map fun b => Value.int .u8 (b.toNat : Int))) : BytesIn w ad n s := by
  refine ⟨hn.symm, ?_⟩
  rcases h with h | ⟨b, o, rfl, h⟩
  · left; have := size_list s; rw [List.map_eq_nil_iff] at h; rw [h] at this; simp at this; omega
  · right
    refine ⟨b, o, rfl, fun j hj => h j _ ?_⟩
    have hl := size_list s
    rw [List.getElem?_map, List.getD_eq_getElem?_getD, List.getElem?_eq_getElem (by omega)]; rfl

theorem bytes_list (xs : List Int) : (runesBytes xs).data.toList.map (fun b => Value.int .u8 (b.toNat : Int)) = (xs.flatMap encL).map (Value.int .u8) := by
  apply List.ext_getElem?
  intro j
  have hsz := runesBytes_size xs
  have hl := size_list (runesBytes xs)
  rw [List.getElem?_map, List.getElem?_map]
  by_cases h : j < (xs.flatMap encL).length
  · have e := runesBytes_bt xs j h
    have hnn := flat_encL_nonneg xs _ (List.getElem_mem h)
    rw [List.getD_eq_getElem?_getD, List.getD_eq_getElem?_getD, List.getElem?_eq_getElem h, List.getElem?_eq_getElem (by omega)] at e
    rw [List.getElem?_eq_getElem h, List.getElem?_eq_getElem (by omega)]
    simp only [Option.map_some, Option.getD_some] at e ⊢
    congr 2; omega
  · rw [List.getElem?_eq_none (by omega), List.getElem?_eq_none (by omega)]; rfl

end Go.Proofs.YthpjkgoahneldaaDoor
end

section
/-
  Facts on a function's own variables and on rounds of ranges over functions.
-/
namespace Go.Proofs.YthpjkgoahneldaaDoor.Vc
open Go Go.RowKit

theorem Stored.box {w w1 : World} {b : Nat} {u v : Value} {t : TypeId} (hs : Stored w ⟨b, 0, none⟩ v w1) (h : w.heap[b]? = some (.cells #[u] t)) : w1.heap[b]? = some (.cells #[v] t) := by
  have := hs.heap h
  simpa using this
theorem box_cell {w : World} {b : Nat} {v : Value} {t : TypeId} (h : w.heap[b]? = some (.cells #[v] t)) : w.cell? ⟨b, 0, none⟩ = some v := by
  rw [cell_of_heap h]; rfl
theorem box_old {w : World} {b : Nat} {v : Value} {t : TypeId} (h : w.heap[b]? = some (.cells #[v] t)) : ∃ old, w.cell? ⟨b, 0, none⟩ = some old := ⟨v, box_cell h⟩
theorem box_free {w : World} {b : Nat} {v : Value} {t : TypeId} (h : w.heap[b]? = some (.cells #[v] t)) : w.frozen? ⟨b, 0, none⟩ = false := frozen_of_heap h _
theorem heap_lt {w : World} {b : Nat} {o : Obj} (h : w.heap[b]? = some o) : b < w.heap.size := (Array.getElem?_eq_some_iff.1 h).1

theorem Step.stored {D : Nat → Prop} {W W1 : World} {p : Addr} {v : Value} (hs : Stored W p v W1) (hD : D p.block) (hdom : ∀ q, D q → q < W.heap.size) : Step D W W1 D :=
  ⟨(Fr.stored hs).mono (fun x _ hx => by subst hx; exact hD), fun q hq => ⟨by rw [hs.size]; exact hdom q hq, .inl hq⟩⟩
theorem Step.refl {D : Nat → Prop} {W : World} (hdom : ∀ q, D q → q < W.heap.size) : Step D W W D := ⟨Fr.refl _ _, fun q hq => ⟨hdom q hq, .inl hq⟩⟩
theorem Step.trans {D D1 D2 : Nat → Prop} {a b c : World} (h : Step D a b D1) (k : Step D1 b c D2) : Step D a c D2 :=
  ⟨h.fr.trans k.fr (fun x hx hd => ((h.dom x hd).2).elim id (fun h2 => by omega)), fun q hq => ⟨(k.dom q hq).1, (k.dom q hq).2.elim (fun h1 => ((h.dom q h1).2)) (fun h2 => .inr (Nat.le_trans h.fr.size h2))⟩⟩
theorem Step.ext {D : Nat → Prop} {W W1 : World} (hx : Ext W W1) (hdom : ∀ q, D q → q < W.heap.size) : Step D W W1 D := ⟨Fr.of_ext hx, fun q hq => ⟨Nat.lt_of_lt_of_le (hdom q hq) hx.size, .inl hq⟩⟩
theorem Mid.step {w W W1 : World} {D0 D D' : Nat → Prop} (h : Mid w D0 D W) (k : Step D W W1 D') : Mid w D0 D' W1 :=
  ⟨h.fr.trans k.fr (fun x hx hd => ((h.dom x hd).2).elim id (fun h2 => by omega)), fun q hq => ⟨(k.dom q hq).1, (k.dom q hq).2.elim (fun h1 => (h.dom q h1).2) (fun h2 => .inr (Nat.le_trans h.fr.size h2))⟩⟩
theorem Mid.lt {w W : World} {D0 D : Nat → Prop} (h : Mid w D0 D W) : ∀ q, D q → q < W.heap.size := fun q hq => (h.dom q hq).1
theorem Mid.old {w W : World} {D0 D : Nat → Prop} (h : Mid w D0 D W) {b : Nat} (hb : b < w.heap.size) (h0 : ¬ D0 b) : W.heap[b]? = w.heap[b]? := h.fr.block b hb h0
theorem Mid.start {w W : World} {D0 : Nat → Prop} (h : Ext w W) (hd : ∀ q, D0 q → q < w.heap.size) : Mid w D0 D0 W := ⟨Fr.of_ext h, fun q hq => ⟨Nat.lt_of_lt_of_le (hd q hq) h.size, .inl hq⟩⟩
/-- The iterator's own step. -/
theorem Mid.own {w W W1 : World} {D0 D : Nat → Prop} {S : Nat → Prop} (h : Mid w D0 D W) (hf : Fr S W W1) (hS : ∀ q, S q → w.heap.size ≤ q) : Mid w D0 D W1 :=
  ⟨h.fr.trans hf (fun x hx hs => by have := hS x hs; omega), fun q hq => ⟨Nat.lt_of_lt_of_le (h.dom q hq).1 hf.size, (h.dom q hq).2⟩⟩
theorem Nexted.fr {w w1 : World} {r i : Nat} {s : ByteArray} (h : Nexted w r s i w1) : Fr (fun q => q = r) w w1 := by
  subst h; exact Fr.putObj w r _
/-- What only new blocks and these have turned. -/
theorem Mid.ext {w0 w W : World} {D0 D : Nat → Prop} (h : Mid w D0 D W) (hx : Ext w0 w) (h0 : ∀ q, D0 q → w0.heap.size ≤ q) : Ext w0 W :=
  Below.trans hx (h.fr.below hx.size (fun q hq hd => by have := h0 q hd; omega))
theorem Ext.turn {w0 w w2 : World} (h : Ext w0 w) (ht : Turn w0.heap.size w w2) : Ext w0 w2 := Below.trans h ht.ext
theorem Ext.stored {w0 w w1 : World} {p : Addr} {v : Value} (h : Ext w0 w) (hs : Stored w p v w1) (hp : w0.heap.size ≤ p.block) : Ext w0 w1 := hs.below h hp
/-- A slice that was there, behind changes of blocks of one's own. -/
theorem CellsAt.mid {w0 w W : World} {S : Nat → Prop} {ad : Option Addr} {vs : List Value} (h : CellsAt w0 ad vs) (hx : Ext w0 w) (hf : Fr S w W) (hS : ∀ q, q < w0.heap.size → ¬ S q) : CellsAt W ad vs := by
  rcases h with h | ⟨b, o, h1, h2⟩
  · exact .inl h
  · refine .inr ⟨b, o, h1, fun j v hv => ?_⟩
    have hc := h2 j v hv
    have hb : b < w0.heap.size := World.block_lt_of_cell? w0 _ hc
    exact (World.cell?_of_block (w := w) (hf.block b (Nat.lt_of_lt_of_le hb hx.size) (hS b hb))).trans (hx.cell hc)

end Go.Proofs.YthpjkgoahneldaaDoor.Vc
end

section
/-
  Chapter 6: a number's hexadecimal digits.
-/
namespace Go.Proofs.YthpjkgoahneldaaDoor
open Go Go.RowKit Vc Ut Tb Cl

theorem DB.ext {w w' : World} (h : DB w) (e : Ext w w') : DB w' := e.cell h
theorem inr_u64 {n : Int} (h1 : 0 ≤ n) (h2 : n ≤ 18446744073709551615) : InR .u64 n := ⟨h1, h2⟩
theorem tz64_ok : (sTz .u64).Ok Tryd.prog 162 := by
  refine tz64_vc trivial ?_
  rintro _ w hD
  exact ⟨⟨by decide +kernel, by decide +kernel⟩, 15, rfl, by decide, 4, hD, inr_i64 (by decide) (by decide), (), rfl, rfl⟩
theorem tz_ok : (sTz .u64).Ok Tryd.prog 160 := by
  refine tz_vc ⟨tz64_ok, trivial⟩ ?_
  rintro _ w hD
  exact ⟨(), rfl, hD, fun _ w' h => ⟨(), rfl, h⟩⟩
theorem pow_ok : sPow.Ok Tryd.prog 159 := by
  refine pow_vc trivial ?_
  rintro _ w _
  exact ⟨inr_i64 (by decide) (by decide), (), rfl, rfl⟩

theorem digs16 : ∀ k, k < 16 → [(48 : UInt8), 49, 50, 51, 52, 53, 54, 55, 56, 57, 97, 98, 99, 100, 101, 102].getD k 0 = hexB k := by decide
theorem digs36 : ∀ k, k < 16 → [(48 : UInt8), 49, 50, 51, 52, 53, 54, 55, 56, 57, 97, 98, 99, 100, 101, 102, 103, 104, 105, 106, 107, 108, 109, 110, 111, 112, 113, 114, 115, 116, 117, 118, 119, 120, 121, 122].getD k 0 = hexB k := by decide
theorem and15 {m : Nat} (h : m < 18446744073709551616) : IntKind.u64.wrap (((BitVec.ofInt IntKind.u64.bits (m : Int) &&& BitVec.ofInt IntKind.u64.bits ((16 : Int) - 1)).toNat : Nat) : Int) = ((m % 16 : Nat) : Int) := by
  have h1 : (BitVec.ofInt IntKind.u64.bits (m : Int) &&& BitVec.ofInt IntKind.u64.bits ((16 : Int) - 1)).toNat = m % 16 := by
    rw [BitVec.toNat_and, BitVec.toNat_ofInt, BitVec.toNat_ofInt]
    show ((m : Int) % (2 ^ 64 : Nat)).toNat &&& 15 = m % 16
    rw [show ((m : Int) % ((2 ^ 64 : Nat) : Int)).toNat = m from by omega]
    exact Nat.and_two_pow_sub_one_eq_mod m 4
  rw [h1]
  exact (inr_u64 (by omega) (by omega)).wrap
theorem shr4 (m : Nat) : ((m : Nat) : Int).fdiv ((2 : Int) ^ min (Int.toNat (4 : Int)) IntKind.u64.bits) = ((m / 16 : Nat) : Int) := by
  show (m : Int).fdiv 16 = _
  rw [Int.fdiv_eq_ediv_of_nonneg _ (by decide)]
  rfl
theorem div_pow (u j : Nat) : u / 16 ^ j / 16 = u / 16 ^ (j + 1) := by rw [Nat.div_div_eq_div_mul, Nat.pow_succ]
theorem step_dig {u j d : Nat} (h2 : u < 16 ^ d) (hj : j + 1 ≤ d) (h : 16 ≤ u / 16 ^ j) : j + 2 ≤ d := by
  rcases Nat.lt_or_ge (j + 1) d with h1 | h1
  · exact h1
  · have e : d = j + 1 := by omega
    subst e
    rw [Nat.pow_succ] at h2
    have := Nat.div_lt_of_lt_mul h2
    omega
theorem last_dig {u j d : Nat} (h1 : 16 ^ (d - 1) ≤ u) (hj : j + 1 ≤ d) (h : u / 16 ^ j < 16) : j + 1 = d := by
  rcases Nat.lt_or_ge (j + 1) d with h2 | h2
  · exfalso
    have h3 : 16 ^ (j + 1) ≤ 16 ^ (d - 1) := Nat.pow_le_pow_right (by decide) (by omega)
    have h4 : 16 ≤ u / 16 ^ j := (Nat.le_div_iff_mul_le (Nat.pow_pos (by decide))).2 (by rw [Nat.mul_comm, ← Nat.pow_succ]; exact Nat.le_trans h3 h1)
    omega
  · omega
theorem num_len (x : Nat) : ∀ j, (numS x j).length = j
  | 0 => rfl
  | j + 1 => by simp only [numS, List.length_cons, num_len x j]
theorem strL_size (l : List UInt8) : (strL l).size = l.length := by simp [strL, ByteArray.size]
theorem u8L_len (l : List UInt8) : (u8L l).length = l.length := by simp [u8L]
theorem arr_len {u j : Nat} (h : j ≤ 65) : (arrC u j).length = 65 := by
  unfold arrC
  rw [List.length_append, List.length_replicate, u8L_len, num_len]; omega
theorem arr_set {u j : Nat} (h : j < 65) : (arrC u j).toArray.setIfInBounds (64 - j) (.int .u8 ((hexB (u / 16 ^ j % 16)).toNat : Nat)) = (arrC u (j + 1)).toArray := by
  have e : arrC u j = List.replicate (64 - j) (.int .u8 0) ++ ([.int .u8 0] ++ u8L (numS u j)) := by
    unfold arrC
    rw [show 65 - j = (64 - j) + 1 from by omega, List.replicate_succ', List.append_assoc]
  rw [e, List.setIfInBounds_toArray, List.set_append_right _ _ (by rw [List.length_replicate]; exact Nat.le_refl _), List.length_replicate, Nat.sub_self]
  unfold arrC
  rw [show 65 - (j + 1) = 64 - j from by omega]
  rfl
theorem arr_bytes {w : World} {b u d : Nat} (hd : d ≤ 65) (h : w.heap[b]? = some (.cells (arrC u d).toArray 157)) : BytesIn w (some ⟨b, 65 - d, none⟩) d (strL (numS u d)) := by
  refine bytesIn_of (by rw [strL_size, num_len]) (.inr ⟨b, 65 - d, rfl, fun t v hv => ?_⟩)
  have hv : (u8L (numS u d))[t]? = some v := hv
  rw [cell_of_heap h, List.getElem?_toArray]
  unfold arrC
  rw [List.getElem?_append_right (by rw [List.length_replicate]; omega), List.length_replicate, Nat.add_sub_cancel_left]
  exact hv

theorem bit2_ok : (sBitD 2).Ok Tryd.prog 155 := by
  refine bit2_vc ⟨pow_ok, tz_ok, trivial⟩ ?_
  rintro (u : Nat) w ⟨hD, h1, h2⟩ b w1 hn1
  have z1 := hn1.size
  have h16 : u < 16777216 := Nat.lt_of_lt_of_le h2 (by decide)
  refine ⟨(), rfl, trivial, ?_⟩
  rintro _ w2 hw2
  replace hw2 := hw2.symm
  subst hw2
  refine ⟨inr_u64 (by decide) (by decide), (), rfl, hD.ext hn1.ext, ?_⟩
  rintro _ w3 hw3
  replace hw3 := hw3.symm
  subst hw3
  refine ⟨inr_u64 (by decide) (by decide), inr_u64 (by decide) (by decide), inr_u64 (by decide) (by decide), inr_u64 (by decide) (by decide), ⟨⟨0, rfl, by simp, by omega, ⟨b, rfl, by omega, hn1.heap⟩, hn1.ext⟩, ?_⟩, ?_⟩
  · rintro _ j w4 ⟨hj, ⟨b', hb', hge, hh⟩, e4⟩
    cases hb'
    have hle : u / 16 ^ j ≤ u := Nat.div_le_self _ _
    refine bcase_mk (fun h => ?_) (fun h => ?_)
    · have h := of_decide_eq_true h
      have hj2 := step_dig h2 hj (by omega)
      have hm : u / 16 ^ j % 16 < 16 := Nat.mod_lt _ (by decide)
      have ho : ((64 - j : Nat) : Int) = (65 : Int) - (j : Int) - 1 := by omega
      refine ⟨inr_i64 (by omega) (by omega), u / 16 ^ j % 16, and15 (by omega), by show _ < 36; omega, 64 - j, ho.symm, by omega, rfl, ⟨_, by rw [cell_of_heap hh, Array.getElem?_eq_getElem (by rw [List.size_toArray, arr_len (by omega)]; omega)]⟩, frozen_of_heap hh _, fun w5 hs5 => ?_⟩
      have hh5 := hs5.heap hh
      rw [digs36 _ hm, Nat.zero_add, arr_set (by omega)] at hh5
      exact ⟨j + 1, by congr 1; omega, by rw [shr4, div_pow], ⟨by omega, ⟨b, rfl, hge, hh5⟩, e4.stored hs5 (by show _ ≤ b; omega)⟩, by omega⟩
    · have h := of_decide_eq_false h
      have hjd := last_dig h1 hj (by omega)
      have hj : j = 2 - 1 := by omega
      subst hj
      exact ⟨(), rfl, rfl, ⟨b, _, rfl, hge, rfl, hh⟩, e4⟩
  · rintro _ _ w4 ⟨⟨b', j, hb', hge, hjd, hh⟩, e4⟩
    cases hb'
    have hj : j = 2 - 1 := by omega
    subst hj
    have hm : u / 16 ^ (2 - 1) < 16 := Nat.div_lt_of_lt_mul h2
    refine ⟨inr_i64 (by decide) (by decide), _, rfl, by show _ < 36; omega, 64 - 1, rfl, by decide, rfl, ⟨_, by rw [cell_of_heap hh, Array.getElem?_eq_getElem (by rw [List.size_toArray, arr_len (by decide)]; decide)]⟩, frozen_of_heap hh _, fun w5 hs5 => ?_⟩
    have hh5 := hs5.heap hh
    rw [digs36 _ hm] at hh5
    have hs := arr_set (u := u) (j := 2 - 1) (by decide)
    rw [Nat.mod_eq_of_lt hm] at hs
    have hh6 : w5.heap[b]? = some (.cells (arrC u 2).toArray 157) := hh5.trans (congrArg (fun c => some (Obj.cells c 157)) hs)
    exact ⟨strL (numS u 2), arr_bytes (by decide) hh6, ((), strL (numS u 2)), rfl, rfl, e4.stored hs5 (by show _ ≤ b; omega)⟩

theorem bit3_ok : (sBitD 3).Ok Tryd.prog 155 := by
  refine bit3_vc ⟨pow_ok, tz_ok, trivial⟩ ?_
  rintro (u : Nat) w ⟨hD, h1, h2⟩ b w1 hn1
  have z1 := hn1.size
  have h16 : u < 16777216 := Nat.lt_of_lt_of_le h2 (by decide)
  refine ⟨(), rfl, trivial, ?_⟩
  rintro _ w2 hw2
  replace hw2 := hw2.symm
  subst hw2
  refine ⟨inr_u64 (by decide) (by decide), (), rfl, hD.ext hn1.ext, ?_⟩
  rintro _ w3 hw3
  replace hw3 := hw3.symm
  subst hw3
  refine ⟨inr_u64 (by decide) (by decide), inr_u64 (by decide) (by decide), inr_u64 (by decide) (by decide), inr_u64 (by decide) (by decide), ⟨⟨0, rfl, by simp, by omega, ⟨b, rfl, by omega, hn1.heap⟩, hn1.ext⟩, ?_⟩, ?_⟩
  · rintro _ j w4 ⟨hj, ⟨b', hb', hge, hh⟩, e4⟩
    cases hb'
    have hle : u / 16 ^ j ≤ u := Nat.div_le_self _ _
    refine bcase_mk (fun h => ?_) (fun h => ?_)
    · have h := of_decide_eq_true h
      have hj2 := step_dig h2 hj (by omega)
      have hm : u / 16 ^ j % 16 < 16 := Nat.mod_lt _ (by decide)
      have ho : ((64 - j : Nat) : Int) = (65 : Int) - (j : Int) - 1 := by omega
      refine ⟨inr_i64 (by omega) (by omega), u / 16 ^ j % 16, and15 (by omega), by show _ < 36; omega, 64 - j, ho.symm, by omega, rfl, ⟨_, by rw [cell_of_heap hh, Array.getElem?_eq_getElem (by rw [List.size_toArray, arr_len (by omega)]; omega)]⟩, frozen_of_heap hh _, fun w5 hs5 => ?_⟩
      have hh5 := hs5.heap hh
      rw [digs36 _ hm, Nat.zero_add, arr_set (by omega)] at hh5
      exact ⟨j + 1, by congr 1; omega, by rw [shr4, div_pow], ⟨by omega, ⟨b, rfl, hge, hh5⟩, e4.stored hs5 (by show _ ≤ b; omega)⟩, by omega⟩
    · have h := of_decide_eq_false h
      have hjd := last_dig h1 hj (by omega)
      have hj : j = 3 - 1 := by omega
      subst hj
      exact ⟨(), rfl, rfl, ⟨b, _, rfl, hge, rfl, hh⟩, e4⟩
  · rintro _ _ w4 ⟨⟨b', j, hb', hge, hjd, hh⟩, e4⟩
    cases hb'
    have hj : j = 3 - 1 := by omega
    subst hj
    have hm : u / 16 ^ (3 - 1) < 16 := Nat.div_lt_of_lt_mul h2
    refine ⟨inr_i64 (by decide) (by decide), _, rfl, by show _ < 36; omega, 63 - 1, rfl, by decide, rfl, ⟨_, by rw [cell_of_heap hh, Array.getElem?_eq_getElem (by rw [List.size_toArray, arr_len (by decide)]; decide)]⟩, frozen_of_heap hh _, fun w5 hs5 => ?_⟩
    have hh5 := hs5.heap hh
    rw [digs36 _ hm] at hh5
    have hs := arr_set (u := u) (j := 3 - 1) (by decide)
    rw [Nat.mod_eq_of_lt hm] at hs
    have hh6 : w5.heap[b]? = some (.cells (arrC u 3).toArray 157) := hh5.trans (congrArg (fun c => some (Obj.cells c 157)) hs)
    exact ⟨strL (numS u 3), arr_bytes (by decide) hh6, ((), strL (numS u 3)), rfl, rfl, e4.stored hs5 (by show _ ≤ b; omega)⟩

theorem bit4_ok : (sBitD 4).Ok Tryd.prog 155 := by
  refine bit4_vc ⟨pow_ok, tz_ok, trivial⟩ ?_
  rintro (u : Nat) w ⟨hD, h1, h2⟩ b w1 hn1
  have z1 := hn1.size
  have h16 : u < 16777216 := Nat.lt_of_lt_of_le h2 (by decide)
  refine ⟨(), rfl, trivial, ?_⟩
  rintro _ w2 hw2
  replace hw2 := hw2.symm
  subst hw2
  refine ⟨inr_u64 (by decide) (by decide), (), rfl, hD.ext hn1.ext, ?_⟩
  rintro _ w3 hw3
  replace hw3 := hw3.symm
  subst hw3
  refine ⟨inr_u64 (by decide) (by decide), inr_u64 (by decide) (by decide), inr_u64 (by decide) (by decide), inr_u64 (by decide) (by decide), ⟨⟨0, rfl, by simp, by omega, ⟨b, rfl, by omega, hn1.heap⟩, hn1.ext⟩, ?_⟩, ?_⟩
  · rintro _ j w4 ⟨hj, ⟨b', hb', hge, hh⟩, e4⟩
    cases hb'
    have hle : u / 16 ^ j ≤ u := Nat.div_le_self _ _
    refine bcase_mk (fun h => ?_) (fun h => ?_)
    · have h := of_decide_eq_true h
      have hj2 := step_dig h2 hj (by omega)
      have hm : u / 16 ^ j % 16 < 16 := Nat.mod_lt _ (by decide)
      have ho : ((64 - j : Nat) : Int) = (65 : Int) - (j : Int) - 1 := by omega
      refine ⟨inr_i64 (by omega) (by omega), u / 16 ^ j % 16, and15 (by omega), by show _ < 36; omega, 64 - j, ho.symm, by omega, rfl, ⟨_, by rw [cell_of_heap hh, Array.getElem?_eq_getElem (by rw [List.size_toArray, arr_len (by omega)]; omega)]⟩, frozen_of_heap hh _, fun w5 hs5 => ?_⟩
      have hh5 := hs5.heap hh
      rw [digs36 _ hm, Nat.zero_add, arr_set (by omega)] at hh5
      exact ⟨j + 1, by congr 1; omega, by rw [shr4, div_pow], ⟨by omega, ⟨b, rfl, hge, hh5⟩, e4.stored hs5 (by show _ ≤ b; omega)⟩, by omega⟩
    · have h := of_decide_eq_false h
      have hjd := last_dig h1 hj (by omega)
      have hj : j = 4 - 1 := by omega
      subst hj
      exact ⟨(), rfl, rfl, ⟨b, _, rfl, hge, rfl, hh⟩, e4⟩
  · rintro _ _ w4 ⟨⟨b', j, hb', hge, hjd, hh⟩, e4⟩
    cases hb'
    have hj : j = 4 - 1 := by omega
    subst hj
    have hm : u / 16 ^ (4 - 1) < 16 := Nat.div_lt_of_lt_mul h2
    refine ⟨inr_i64 (by decide) (by decide), _, rfl, by show _ < 36; omega, 62 - 1, rfl, by decide, rfl, ⟨_, by rw [cell_of_heap hh, Array.getElem?_eq_getElem (by rw [List.size_toArray, arr_len (by decide)]; decide)]⟩, frozen_of_heap hh _, fun w5 hs5 => ?_⟩
    have hh5 := hs5.heap hh
    rw [digs36 _ hm] at hh5
    have hs := arr_set (u := u) (j := 4 - 1) (by decide)
    rw [Nat.mod_eq_of_lt hm] at hs
    have hh6 : w5.heap[b]? = some (.cells (arrC u 4).toArray 157) := hh5.trans (congrArg (fun c => some (Obj.cells c 157)) hs)
    exact ⟨strL (numS u 4), arr_bytes (by decide) hh6, ((), strL (numS u 4)), rfl, rfl, e4.stored hs5 (by show _ ≤ b; omega)⟩

theorem bit5_ok : (sBitD 5).Ok Tryd.prog 155 := by
  refine bit5_vc ⟨pow_ok, tz_ok, trivial⟩ ?_
  rintro (u : Nat) w ⟨hD, h1, h2⟩ b w1 hn1
  have z1 := hn1.size
  have h16 : u < 16777216 := Nat.lt_of_lt_of_le h2 (by decide)
  refine ⟨(), rfl, trivial, ?_⟩
  rintro _ w2 hw2
  replace hw2 := hw2.symm
  subst hw2
  refine ⟨inr_u64 (by decide) (by decide), (), rfl, hD.ext hn1.ext, ?_⟩
  rintro _ w3 hw3
  replace hw3 := hw3.symm
  subst hw3
  refine ⟨inr_u64 (by decide) (by decide), inr_u64 (by decide) (by decide), inr_u64 (by decide) (by decide), inr_u64 (by decide) (by decide), ⟨⟨0, rfl, by simp, by omega, ⟨b, rfl, by omega, hn1.heap⟩, hn1.ext⟩, ?_⟩, ?_⟩
  · rintro _ j w4 ⟨hj, ⟨b', hb', hge, hh⟩, e4⟩
    cases hb'
    have hle : u / 16 ^ j ≤ u := Nat.div_le_self _ _
    refine bcase_mk (fun h => ?_) (fun h => ?_)
    · have h := of_decide_eq_true h
      have hj2 := step_dig h2 hj (by omega)
      have hm : u / 16 ^ j % 16 < 16 := Nat.mod_lt _ (by decide)
      have ho : ((64 - j : Nat) : Int) = (65 : Int) - (j : Int) - 1 := by omega
      refine ⟨inr_i64 (by omega) (by omega), u / 16 ^ j % 16, and15 (by omega), by show _ < 36; omega, 64 - j, ho.symm, by omega, rfl, ⟨_, by rw [cell_of_heap hh, Array.getElem?_eq_getElem (by rw [List.size_toArray, arr_len (by omega)]; omega)]⟩, frozen_of_heap hh _, fun w5 hs5 => ?_⟩
      have hh5 := hs5.heap hh
      rw [digs36 _ hm, Nat.zero_add, arr_set (by omega)] at hh5
      exact ⟨j + 1, by congr 1; omega, by rw [shr4, div_pow], ⟨by omega, ⟨b, rfl, hge, hh5⟩, e4.stored hs5 (by show _ ≤ b; omega)⟩, by omega⟩
    · have h := of_decide_eq_false h
      have hjd := last_dig h1 hj (by omega)
      have hj : j = 5 - 1 := by omega
      subst hj
      exact ⟨(), rfl, rfl, ⟨b, _, rfl, hge, rfl, hh⟩, e4⟩
  · rintro _ _ w4 ⟨⟨b', j, hb', hge, hjd, hh⟩, e4⟩
    cases hb'
    have hj : j = 5 - 1 := by omega
    subst hj
    have hm : u / 16 ^ (5 - 1) < 16 := Nat.div_lt_of_lt_mul h2
    refine ⟨inr_i64 (by decide) (by decide), _, rfl, by show _ < 36; omega, 61 - 1, rfl, by decide, rfl, ⟨_, by rw [cell_of_heap hh, Array.getElem?_eq_getElem (by rw [List.size_toArray, arr_len (by decide)]; decide)]⟩, frozen_of_heap hh _, fun w5 hs5 => ?_⟩
    have hh5 := hs5.heap hh
    rw [digs36 _ hm] at hh5
    have hs := arr_set (u := u) (j := 5 - 1) (by decide)
    rw [Nat.mod_eq_of_lt hm] at hs
    have hh6 : w5.heap[b]? = some (.cells (arrC u 5).toArray 157) := hh5.trans (congrArg (fun c => some (Obj.cells c 157)) hs)
    exact ⟨strL (numS u 5), arr_bytes (by decide) hh6, ((), strL (numS u 5)), rfl, rfl, e4.stored hs5 (by show _ ≤ b; omega)⟩

theorem bit6_ok : (sBitD 6).Ok Tryd.prog 155 := by
  refine bit6_vc ⟨pow_ok, tz_ok, trivial⟩ ?_
  rintro (u : Nat) w ⟨hD, h1, h2⟩ b w1 hn1
  have z1 := hn1.size
  have h16 : u < 16777216 := Nat.lt_of_lt_of_le h2 (by decide)
  refine ⟨(), rfl, trivial, ?_⟩
  rintro _ w2 hw2
  replace hw2 := hw2.symm
  subst hw2
  refine ⟨inr_u64 (by decide) (by decide), (), rfl, hD.ext hn1.ext, ?_⟩
  rintro _ w3 hw3
  replace hw3 := hw3.symm
  subst hw3
  refine ⟨inr_u64 (by decide) (by decide), inr_u64 (by decide) (by decide), inr_u64 (by decide) (by decide), inr_u64 (by decide) (by decide), ⟨⟨0, rfl, by simp, by omega, ⟨b, rfl, by omega, hn1.heap⟩, hn1.ext⟩, ?_⟩, ?_⟩
  · rintro _ j w4 ⟨hj, ⟨b', hb', hge, hh⟩, e4⟩
    cases hb'
    have hle : u / 16 ^ j ≤ u := Nat.div_le_self _ _
    refine bcase_mk (fun h => ?_) (fun h => ?_)
    · have h := of_decide_eq_true h
      have hj2 := step_dig h2 hj (by omega)
      have hm : u / 16 ^ j % 16 < 16 := Nat.mod_lt _ (by decide)
      have ho : ((64 - j : Nat) : Int) = (65 : Int) - (j : Int) - 1 := by omega
      refine ⟨inr_i64 (by omega) (by omega), u / 16 ^ j % 16, and15 (by omega), by show _ < 36; omega, 64 - j, ho.symm, by omega, rfl, ⟨_, by rw [cell_of_heap hh, Array.getElem?_eq_getElem (by rw [List.size_toArray, arr_len (by omega)]; omega)]⟩, frozen_of_heap hh _, fun w5 hs5 => ?_⟩
      have hh5 := hs5.heap hh
      rw [digs36 _ hm, Nat.zero_add, arr_set (by omega)] at hh5
      exact ⟨j + 1, by congr 1; omega, by rw [shr4, div_pow], ⟨by omega, ⟨b, rfl, hge, hh5⟩, e4.stored hs5 (by show _ ≤ b; omega)⟩, by omega⟩
    · have h := of_decide_eq_false h
      have hjd := last_dig h1 hj (by omega)
      have hj : j = 6 - 1 := by omega
      subst hj
      exact ⟨(), rfl, rfl, ⟨b, _, rfl, hge, rfl, hh⟩, e4⟩
  · rintro _ _ w4 ⟨⟨b', j, hb', hge, hjd, hh⟩, e4⟩
    cases hb'
    have hj : j = 6 - 1 := by omega
    subst hj
    have hm : u / 16 ^ (6 - 1) < 16 := Nat.div_lt_of_lt_mul h2
    refine ⟨inr_i64 (by decide) (by decide), _, rfl, by show _ < 36; omega, 60 - 1, rfl, by decide, rfl, ⟨_, by rw [cell_of_heap hh, Array.getElem?_eq_getElem (by rw [List.size_toArray, arr_len (by decide)]; decide)]⟩, frozen_of_heap hh _, fun w5 hs5 => ?_⟩
    have hh5 := hs5.heap hh
    rw [digs36 _ hm] at hh5
    have hs := arr_set (u := u) (j := 6 - 1) (by decide)
    rw [Nat.mod_eq_of_lt hm] at hs
    have hh6 : w5.heap[b]? = some (.cells (arrC u 6).toArray 157) := hh5.trans (congrArg (fun c => some (Obj.cells c 157)) hs)
    exact ⟨strL (numS u 6), arr_bytes (by decide) hh6, ((), strL (numS u 6)), rfl, rfl, e4.stored hs5 (by show _ ≤ b; omega)⟩

theorem dig_cases (u : Nat) : digN u = 2 ∧ u < 256 ∨ digN u = 3 ∧ 256 ≤ u ∧ u < 4096 ∨ digN u = 4 ∧ 4096 ≤ u ∧ u < 65536 ∨ digN u = 5 ∧ 65536 ≤ u ∧ u < 1048576 ∨ digN u = 6 ∧ 1048576 ≤ u := by
  unfold digN
  split
  · omega
  · split
    · omega
    · split
      · omega
      · split <;> omega
theorem bits_ok : sBits.Ok Tryd.prog 155 := by
  rintro (u : Nat) w ⟨hD, h1, h2⟩
  rcases dig_cases u with ⟨e, h3⟩ | ⟨e, h3, h4⟩ | ⟨e, h3, h4⟩ | ⟨e, h3, h4⟩ | ⟨e, h3⟩
  · exact (bit2_ok u w ⟨hD, h1, h3⟩).mono fun e' w' ⟨x, he, ⟨hx, hxt⟩, hko⟩ => ⟨x, he, ⟨by rw [hx, e], hxt⟩, hko⟩
  · exact (bit3_ok u w ⟨hD, h3, h4⟩).mono fun e' w' ⟨x, he, ⟨hx, hxt⟩, hko⟩ => ⟨x, he, ⟨by rw [hx, e], hxt⟩, hko⟩
  · exact (bit4_ok u w ⟨hD, h3, h4⟩).mono fun e' w' ⟨x, he, ⟨hx, hxt⟩, hko⟩ => ⟨x, he, ⟨by rw [hx, e], hxt⟩, hko⟩
  · exact (bit5_ok u w ⟨hD, h3, h4⟩).mono fun e' w' ⟨x, he, ⟨hx, hxt⟩, hko⟩ => ⟨x, he, ⟨by rw [hx, e], hxt⟩, hko⟩
  · exact (bit6_ok u w ⟨hD, h3, h2⟩).mono fun e' w' ⟨x, he, ⟨hx, hxt⟩, hko⟩ => ⟨x, he, ⟨by rw [hx, e], hxt⟩, hko⟩
theorem fmtI_ok : sFmtI.Ok Tryd.prog 149 := by
  refine fmtI_vc ⟨bits_ok, trivial⟩ ?_
  rintro (u : Nat) w ⟨hD, h1, h2⟩
  refine ⟨inr_u64 (by omega) (by omega), u, rfl, ⟨hD, h1, h2⟩, ?_⟩
  rintro ⟨_, x⟩ w1 ⟨hx, e1⟩
  exact ⟨x, rfl, hx, e1⟩
theorem fmt_ok : sFmtI.Ok Tryd.prog 136 := by
  refine fmt_vc ⟨fmtI_ok, trivial⟩ ?_
  rintro (u : Nat) w h
  refine ⟨u, rfl, h, ?_⟩
  rintro x w1 ⟨hx, e1⟩
  exact ⟨x, rfl, hx, e1⟩

theorem num_j (u : Nat) : digN u ≤ numJ u ∧ 4 ≤ numJ u ∧ numJ u ≤ 6 ∧ (numJ u = 4 ∨ numJ u = digN u) := by
  unfold numJ
  rcases dig_cases u with ⟨e, h3⟩ | ⟨e, h3, h4⟩ | ⟨e, h3, h4⟩ | ⟨e, h3, h4⟩ | ⟨e, h3⟩ <;> rw [e] <;> decide
theorem dig_zero {u j : Nat} (h : u < 16777216) (hj : digN u ≤ j) : u / 16 ^ j = 0 := by
  refine Nat.div_eq_of_lt (Nat.lt_of_lt_of_le ?_ (Nat.pow_le_pow_right (by decide) hj))
  rcases dig_cases u with ⟨e, h3⟩ | ⟨e, h3, h4⟩ | ⟨e, h3, h4⟩ | ⟨e, h3, h4⟩ | ⟨e, h3⟩ <;> rw [e]
  · exact h3
  · exact h4
  · exact h4
  · exact h4
  · exact h
theorem dig_pos {u j : Nat} (h : 16 ≤ u) (hj : j < digN u) : 0 < u / 16 ^ j := by
  refine Nat.div_pos (Nat.le_trans (Nat.pow_le_pow_right (by decide) (show j ≤ digN u - 1 by omega)) ?_) (Nat.pow_pos (by decide))
  rcases dig_cases u with ⟨e, h3⟩ | ⟨e, h3, h4⟩ | ⟨e, h3, h4⟩ | ⟨e, h3, h4⟩ | ⟨e, h3⟩ <;> rw [e]
  · exact h
  · exact h3
  · exact h3
  · exact h3
  · exact h3
theorem strL_app (l m : List UInt8) : strL l ++ strL m = strL (l ++ m) := by
  apply ByteArray.ext
  simp [strL, ByteArray.data_append]
theorem named_ok : sNamed.Ok Tryd.prog 113 := by
  refine named_vc ⟨fmt_ok, trivial⟩ ?_
  rintro (u : Nat) w ⟨hD, h1, h2⟩
  have hj := num_j u
  refine ⟨inr_i64 (by omega) (by omega), u, rfl, ⟨hD, h1, by omega⟩, ?_⟩
  rintro x w1 ⟨rfl, e1⟩
  refine ⟨⟨digN u, rfl, Nat.le_refl _, hj.1, rfl⟩, ?_⟩
  rintro _ j w2 ⟨hj1, hj2, hw⟩
  replace hw := hw.symm
  subst hw
  have hz : (strL (numS u j)).size = j := by rw [strL_size, num_len]
  have s48 : (ByteArray.mk #[48]).size = 1 := rfl
  have s60 : (ByteArray.mk #[60]).size = 1 := rfl
  have s62 : (ByteArray.mk #[62]).size = 1 := rfl
  refine bcase_mk (fun h => ?_) (fun h => ?_)
  · have h := of_decide_eq_true h
    rw [hz] at h
    refine ⟨by rw [hz, s48]; omega, j + 1, ?_, ⟨by omega, by omega, rfl⟩, by omega⟩
    congr 1
    show strL [48] ++ strL (numS u j) = _
    rw [strL_app]
    simp only [numS]
    rw [dig_zero (by omega) hj1]
    rfl
  · have h := of_decide_eq_false h
    rw [hz] at h
    have e : j = numJ u := by omega
    subst e
    refine ⟨by rw [hz, s60]; omega, by rw [ByteArray.size_append, hz, s60, s62]; omega, _, rfl, rfl, e1⟩

theorem numX_ok : sNumX.Ok Tryd.prog 119 := by
  refine numX_vc trivial ?_
  rintro (u : Nat) w ⟨h1, h2⟩
  have hj := num_j u
  refine ⟨inr_i64 (by omega) (by omega), ⟨⟨0, none, 0⟩, by simp, rfl, Nat.zero_le _, Made.nil _ _ _⟩, ?_⟩
  rintro _ ⟨j, a, c⟩ w1 ⟨hj2, hm⟩
  dsimp only at hj2 hm ⊢
  have hle : u / 16 ^ j ≤ u := Nat.div_le_self _ _
  refine bcase_mk (fun h => ?_) (fun h => ?_)
  · have hjl : j < numJ u := by
      simp only [Bool.or_eq_true, decide_eq_true_eq] at h
      rcases h with h | h
      · rcases Nat.lt_or_ge j (digN u) with h3 | h3
        · omega
        · have := dig_zero (u := u) (j := j) (by omega) h3; omega
      · omega
    have hmod : u / 16 ^ j % 16 < 16 := Nat.mod_lt _ (by decide)
    have hq0 : (0 : Int) ≤ ((u / 16 ^ j : Nat) : Int) := Int.natCast_nonneg _
    have hqi : InR .i64 (((u / 16 ^ j : Nat) : Int) / 16) := by
      generalize u / 16 ^ j = q at hle
      exact inr_i64 (by omega) (by omega)
    refine ⟨hq0, by decide, u / 16 ^ j % 16, rfl, by show _ < 16; omega, fun b w2 hn2 => ?_⟩
    rw [digs16 _ hmod] at hn2
    have hb := Made.box (w0 := w) (s := 1) (n := 1) hn2 hm.ext rfl (by decide)
    obtain ⟨a', c', w3, hrun, hko, hm3, _⟩ := hb.pushS (P := Tryd.prog) (ty := 64) (sa := a) (cx := c) elem8 (by decide) (m := j) (news := u8L (numS u j)) (by rw [u8L_len, num_len, Nat.mul_one]) (hm.row.cells.ext hn2.ext) (by
      intro v hv
      obtain ⟨x, _, rfl⟩ := List.mem_map.1 hv
      rfl) (by unfold maxLen; omega) (.inr (by omega))
    refine ⟨a', c', w3, hrun, hko, hq0, by decide, hqi, ⟨j + 1, a', c'⟩, ?_, by dsimp only; rw [Nat.add_comm], ⟨hjl, ?_⟩, by dsimp only; omega⟩
    · dsimp only; rw [← div_pow]; rfl
    · rw [Nat.add_comm 1 j] at hm3
      exact hm3
  · simp only [Bool.or_eq_false_iff, decide_eq_false_iff_not] at h
    have hjd : digN u ≤ j := by
      rcases Nat.lt_or_ge j (digN u) with h3 | h3
      · have := dig_pos h1 h3; omega
      · exact h3
    have e : j = numJ u := by omega
    subst e
    exact ⟨_, bytesIn_of (s := strL (numS u (numJ u))) (by rw [strL_size, num_len]) hm.row.cells, _, rfl, rfl, hm.ext⟩

theorem blanks_ok : sBlanks.Ok Tryd.prog 117 := by
  refine blanks_vc trivial ?_
  rintro (n : Nat) w hn
  refine ⟨⟨⟨0, none, 0⟩, rfl, rfl, Nat.zero_le _, Made.nil _ _ _⟩, ?_⟩
  rintro _ ⟨j, a, c⟩ w1 ⟨hj, hm⟩
  dsimp only at hj hm ⊢
  refine bcase_mk (fun h => ?_) (fun h => ?_)
  · have hl : j < n := by have := of_decide_eq_true h; omega
    intro b w2 hn2
    obtain ⟨a', c', w3, hrun, hko, hm3, _⟩ := hm.pushN (P := Tryd.prog) (ty := 64) elem8 (by decide) (m := 1) (news := [.int .u8 32]) hn2 rfl (by simp [Value.oneCell']) (by unfold maxLen; omega) (.inr (by omega))
    refine ⟨a', c', w3, hrun, hko, inr_i64 (by omega) (by omega), ⟨j + 1, a', c'⟩, by simp, rfl, ⟨hl, ?_⟩, by dsimp only; omega⟩
    dsimp only
    have e : u8L (List.replicate (j + 1) 32) = u8L (List.replicate j 32) ++ [.int .u8 32] := by
      unfold u8L; rw [List.replicate_succ', List.map_append]; rfl
    rw [e]; exact hm3
  · have e : j = n := by have := of_decide_eq_false h; omega
    subst e
    exact ⟨blankS j, bytesIn_of (by show j = (strL (List.replicate j 32)).size; rw [strL_size, List.length_replicate]) hm.row.cells, _, rfl, rfl, hm.ext⟩

end Go.Proofs.YthpjkgoahneldaaDoor
end

section
/-
  Verification conditions, printed by a program out of the specifications beside this text: each theorem says that the condition suffices. (Lean's kernel compares the printed condition with what 'wpE' computes.)
-/
set_option linter.unusedVariables false
namespace Go.Proofs.YthpjkgoahneldaaDoor
open Go Go.RowKit Vc Tb Cl

set_option maxRecDepth 1000000 in
theorem known_vc (hsp : SpecsOk Tryd.prog []) (h : ∀ (g : Int) (w : World), True → bcase (decide (g < (0 : Int)) || (decide (g > (1114111 : Int)) || decide (g ≥ (55296 : Int)) && decide (g ≤ (57343 : Int)))) (∃ (x : Int), Value.int IntKind.i32 (65533 : Int) = Value.int IntKind.i32 x ∧ x = knownF g ∧ w = w) (∃ (x : Int), Value.int IntKind.i32 g = Value.int IntKind.i32 x ∧ x = knownF g ∧ w = w)) :
    ((sRune .i32 knownF)).Ok Tryd.prog 128 :=
  ok_of_vc (sRune .i32 knownF) (annOf []) [] (fun _ _ => rfl) (fun _ _ => rfl) hsp Tryd.func128 rfl (n := 1) (fun _ => rfl) (by kernel_rfl) (vcast (by kernel_rfl) h)

set_option maxRecDepth 1000000 in
theorem find_vc (hsp : SpecsOk Tryd.prog []) (h : ∀ (g : GFind) (w : World), CellsT w g.b g.T ∧ (0 : Nat) < g.T.length ∧ g.T.length ≤ (1000 : Nat) ∧ boundsOk g.T = true ∧ (g.T.getD (0 : Nat) ((0 : Int), (0 : Int))).fst = (0 : Int) → bcase (decide (g.r < (0 : Int)) || (decide (g.r > (1114111 : Int)) || decide (g.r ≥ (55296 : Int)) && decide (g.r ≤ (57343 : Int)))) (∃ (c : Unit), Value.int IntKind.i32 (65533 : Int) = Value.int IntKind.i32 (knownF g.r) ∧ w = w) (∃ (c : Unit), Value.int IntKind.i32 g.r = Value.int IntKind.i32 (knownF g.r) ∧ w = w) ∧ ∀ (u : Nat → Value) (c : Unit) (w' : World), w' = w → (∃ (x : Nat × Nat), Value.int IntKind.i64 (0 : Int) = Value.int IntKind.i64 (↑x.fst : Int) ∧ Value.int IntKind.i64 (↑g.T.length : Int) = Value.int IntKind.i64 (↑x.snd : Int) ∧ x.fst < x.snd ∧ x.snd ≤ g.T.length ∧ (g.T.getD x.fst ((0 : Int), (0 : Int))).fst ≤ knownF g.r ∧ (x.snd = g.T.length ∨ knownF g.r < (g.T.getD x.snd ((0 : Int), (0 : Int))).fst) ∧ w' = w') ∧ ∀ (u1 : Nat → Value) (x : Nat × Nat) (w'1 : World), x.fst < x.snd ∧ x.snd ≤ g.T.length ∧ (g.T.getD x.fst ((0 : Int), (0 : Int))).fst ≤ knownF g.r ∧ (x.snd = g.T.length ∨ knownF g.r < (g.T.getD x.snd ((0 : Int), (0 : Int))).fst) ∧ w'1 = w' → InR IntKind.i64 ((↑x.snd : Int) - (↑x.fst : Int)) ∧ bcase (decide ((↑x.snd : Int) - (↑x.fst : Int) > (1 : Int))) (InR IntKind.i64 ((↑x.fst : Int) + (↑x.snd : Int)) ∧ (0 : Int) ≤ (↑x.fst : Int) + (↑x.snd : Int) ∧ (0 : Int) < (2 : Int) ∧ InR IntKind.i64 (((↑x.fst : Int) + (↑x.snd : Int)) / (2 : Int)) ∧ ∃ (k : Nat), ((↑x.fst : Int) + (↑x.snd : Int)) / (2 : Int) = (↑k : Int) ∧ k < g.T.length ∧ ∃ (n : Int), w'1.cell? { block := g.b, off := (0 : Nat) + k * (2 : Nat) } = some (Value.int IntKind.i32 n) ∧ bcase (decide (n > knownF g.r)) (∃ (y : Nat × Nat), Value.int IntKind.i64 (↑x.fst : Int) = Value.int IntKind.i64 (↑y.fst : Int) ∧ Value.int IntKind.i64 (((↑x.fst : Int) + (↑x.snd : Int)) / (2 : Int)) = Value.int IntKind.i64 (↑y.snd : Int) ∧ (y.fst < y.snd ∧ y.snd ≤ g.T.length ∧ (g.T.getD y.fst ((0 : Int), (0 : Int))).fst ≤ knownF g.r ∧ (y.snd = g.T.length ∨ knownF g.r < (g.T.getD y.snd ((0 : Int), (0 : Int))).fst) ∧ w'1 = w') ∧ y.snd - y.fst < x.snd - x.fst) (∃ (y : Nat × Nat), Value.int IntKind.i64 (((↑x.fst : Int) + (↑x.snd : Int)) / (2 : Int)) = Value.int IntKind.i64 (↑y.fst : Int) ∧ Value.int IntKind.i64 (↑x.snd : Int) = Value.int IntKind.i64 (↑y.snd : Int) ∧ (y.fst < y.snd ∧ y.snd ≤ g.T.length ∧ (g.T.getD y.fst ((0 : Int), (0 : Int))).fst ≤ knownF g.r ∧ (y.snd = g.T.length ∨ knownF g.r < (g.T.getD y.snd ((0 : Int), (0 : Int))).fst) ∧ w'1 = w') ∧ y.snd - y.fst < x.snd - x.fst)) (bcase (decide ((↑x.snd : Int) < (↑g.T.length : Int))) (∀ (w1 : World), Drew w'1 w1 → ∃ (k : Nat), (↑x.fst : Int) = (↑k : Int) ∧ k < g.T.length ∧ ∃ (n : Int), w'1.cell? { block := g.b, off := (0 : Nat) + k * (2 : Nat) + (1 : Nat) } = some (Value.int IntKind.u8 n) ∧ ∃ (k1 : Nat), (↑x.snd : Int) = (↑k1 : Int) ∧ k1 < g.T.length ∧ ∃ (n1 : Int),
 w'1.cell? { block := g.b, off := (0 : Nat) + k1 * (2 : Nat) } = some (Value.int IntKind.i32 n1) ∧ InR IntKind.i32 (n1 - (1 : Int)) ∧ ∃ (x1 : Int × Int), Value.tuple #[Value.int IntKind.u8 n, Value.int IntKind.i32 (n1 - (1 : Int))] = Value.tuple #[Value.int IntKind.u8 x1.fst, Value.int IntKind.i32 x1.snd] ∧ FindOk g.T (knownF g.r) x1.fst x1.snd ∧ Ext w w1) (∃ (k : Nat), (↑x.fst : Int) = (↑k : Int) ∧ k < g.T.length ∧ ∃ (n : Int), w'1.cell? { block := g.b, off := (0 : Nat) + k * (2 : Nat) + (1 : Nat) } = some (Value.int IntKind.u8 n) ∧ ∃ (x1 : Int × Int), Value.tuple #[Value.int IntKind.u8 n, Value.int IntKind.i32 (1114111 : Int)] = Value.tuple #[Value.int IntKind.u8 x1.fst, Value.int IntKind.i32 x1.snd] ∧ FindOk g.T (knownF g.r) x1.fst x1.snd ∧ Ext w w'1))) :
    (sFind).Ok Tryd.prog 130 :=
  ok_of_vc sFind (fun g _ => annFind g) [] (fun _ _ => rfl) (fun _ _ => rfl) hsp Tryd.func130 rfl (n := 2) (fun _ => rfl) (by kernel_rfl) (vcast (by kernel_rfl) h)

set_option maxRecDepth 1000000 in
theorem rkind_vc (hsp : SpecsOk Tryd.prog spKnown) (h : ∀ (g : Int) (w : World), True → ∃ (g1 : Int), #[Value.int IntKind.i32 g] = #[Value.int IntKind.i32 g1] ∧ True ∧ ∀ (x : Int) (w' : World), x = knownF g1 ∧ w' = w → bcase (decide (x ≤ (31 : Int)) || decide (x ≥ (127 : Int)) && decide (x ≤ (159 : Int))) (∃ (x1 : Int), Value.int IntKind.i8 (0 : Int) = Value.int IntKind.i8 x1 ∧ x1 = kindR g ∧ w' = w) (bcase (x == (173 : Int) || (x == (1564 : Int) || (decide (x ≥ (8203 : Int)) && decide (x ≤ (8207 : Int)) || (decide (x ≥ (8234 : Int)) && decide (x ≤ (8238 : Int)) || (decide (x ≥ (8288 : Int)) && decide (x ≤ (8297 : Int)) || x == (65279 : Int)))))) (∃ (x1 : Int), Value.int IntKind.i8 (1 : Int) = Value.int IntKind.i8 x1 ∧ x1 = kindR g ∧ w' = w) (bcase (decide (x ≥ (768 : Int)) && decide (x ≤ (879 : Int)) || (decide (x ≥ (1155 : Int)) && decide (x ≤ (1161 : Int)) || (decide (x ≥ (1425 : Int)) && decide (x ≤ (1469 : Int)) || (x == (1471 : Int) || (decide (x ≥ (1473 : Int)) && decide (x ≤ (1474 : Int)) || (decide (x ≥ (1476 : Int)) && decide (x ≤ (1477 : Int)) || (x == (1479 : Int) || (decide (x ≥ (1552 : Int)) && decide (x ≤ (1562 : Int)) || (decide (x ≥ (1611 : Int)) && decide (x ≤ (1631 : Int)) || (x == (1648 : Int) || (decide (x ≥ (1750 : Int)) && decide (x ≤ (1756 : Int)) || (decide (x ≥ (1759 : Int)) && decide (x ≤ (1764 : Int)) || (decide (x ≥ (1767 : Int)) && decide (x ≤ (1768 : Int)) || (decide (x ≥ (1770 : Int)) && decide (x ≤ (1773 : Int)) || (x == (3633 : Int) || (decide (x ≥ (3636 : Int)) && decide (x ≤ (3642 : Int)) || (decide (x ≥ (3655 : Int)) && decide (x ≤ (3662 : Int)) || (decide (x ≥ (6832 : Int)) && decide (x ≤ (6911 : Int)) || (decide (x ≥ (7616 : Int)) && decide (x ≤ (7679 : Int)) || (decide (x ≥ (8400 : Int)) && decide (x ≤ (8447 : Int)) || (decide (x ≥ (12330 : Int)) && decide (x ≤ (12333 : Int)) || (decide (x ≥ (12441 : Int)) && decide (x ≤ (12442 : Int)) || (decide (x ≥ (65024 : Int)) && decide (x ≤ (65039 : Int)) || decide (x ≥ (65056 : Int)) && decide (x ≤ (65071 : Int))))))))))))))))))))))))) (∃ (x1 : Int), Value.int IntKind.i8 (2 : Int) = Value.int IntKind.i8 x1 ∧ x1 = kindR g ∧ w' = w) (bcase (decide (x ≥ (48 : Int)) && decide (x ≤ (57 : Int)) || (decide (x ≥ (1632 : Int)) && decide (x ≤ (1641 : Int)) || (decide (x ≥ (1776 : Int)) && decide (x ≤ (1785 : Int)) || decide (x ≥ (65296 : Int)) && decide (x ≤ (65305 : Int))))) (∃ (x1 : Int), Value.int IntKind.i8 (4 : Int) = Value.int IntKind.i8 x1 ∧ x1 = kindR g ∧ w' = w) (bcase (x == (32 : Int) || (x == (160 : Int) || (x == (5760 : Int) || (decide (x ≥ (8192 : Int)) && decide (x ≤ (8202 : Int)) || (decide (x ≥ (8232 : Int)) && decide (x ≤ (8233 : Int)) || (x == (8239 : Int) || (x == (8287 : Int) || x == (12288 : Int)))))))) (∃ (x1 : Int), Value.int IntKind.i8 (5 : Int) = Value.int IntKind.i8 x1 ∧ x1 = kindR g ∧ w' = w) (bcase (x == (36 : Int) || (x == (43 : Int) || (decide (x ≥ (60 : Int)) && decide (x ≤ (62 : Int)) || (x == (94 : Int) || (x == (96 : Int) ||
 (x == (124 : Int) || (x == (126 : Int) || (decide (x ≥ (162 : Int)) && decide (x ≤ (166 : Int)) || (decide (x ≥ (168 : Int)) && decide (x ≤ (169 : Int)) || (x == (172 : Int) || (decide (x ≥ (174 : Int)) && decide (x ≤ (177 : Int)) || (x == (180 : Int) || (x == (184 : Int) || (x == (215 : Int) || (x == (247 : Int) || (decide (x ≥ (8352 : Int)) && decide (x ≤ (8399 : Int)) || (decide (x ≥ (8448 : Int)) && decide (x ≤ (9675 : Int)) || (decide (x ≥ (9677 : Int)) && decide (x ≤ (11263 : Int)) || (decide (x ≥ (65532 : Int)) && decide (x ≤ (65533 : Int)) || decide (x ≥ (126976 : Int)) && decide (x ≤ (129791 : Int))))))))))))))))))))) (∃ (x1 : Int), Value.int IntKind.i8 (7 : Int) = Value.int IntKind.i8 x1 ∧ x1 = kindR g ∧ w' = w) (bcase (decide (x ≥ (65 : Int)) && decide (x ≤ (90 : Int)) || (decide (x ≥ (97 : Int)) && decide (x ≤ (122 : Int)) || (x == (170 : Int) || (x == (181 : Int) || (x == (186 : Int) || (decide (x ≥ (192 : Int)) && decide (x ≤ (767 : Int)) || (decide (x ≥ (880 : Int)) && decide (x ≤ (883 : Int)) || (decide (x ≥ (886 : Int)) && decide (x ≤ (893 : Int)) || (x == (895 : Int) || (x == (902 : Int) || (decide (x ≥ (904 : Int)) && decide (x ≤ (1153 : Int)) || (decide (x ≥ (1162 : Int)) && decide (x ≤ (1366 : Int)) || (decide (x ≥ (1377 : Int)) && decide (x ≤ (1415 : Int)) || (decide (x ≥ (1488 : Int)) && decide (x ≤ (1522 : Int)) || (decide (x ≥ (1568 : Int)) && decide (x ≤ (1610 : Int)) || (decide (x ≥ (1646 : Int)) && decide (x ≤ (1747 : Int)) || (decide (x ≥ (1749 : Int)) && decide (x ≤ (1788 : Int)) || (decide (x ≥ (3585 : Int)) && decide (x ≤ (3654 : Int)) || (decide (x ≥ (4256 : Int)) && decide (x ≤ (4607 : Int)) || (decide (x ≥ (7680 : Int)) && decide (x ≤ (8191 : Int)) || (decide (x ≥ (11264 : Int)) && decide (x ≤ (11743 : Int)) || (decide (x ≥ (12293 : Int)) && decide (x ≤ (12295 : Int)) || (decide (x ≥ (12353 : Int)) && decide (x ≤ (12543 : Int)) || (decide (x ≥ (12549 : Int)) && decide (x ≤ (12686 : Int)) || (decide (x ≥ (13312 : Int)) && decide (x ≤ (19903 : Int)) || (decide (x ≥ (19968 : Int)) && decide (x ≤ (40959 : Int)) || (decide (x ≥ (44032 : Int)) && decide (x ≤ (55203 : Int)) || (decide (x ≥ (63744 : Int)) && decide (x ≤ (64255 : Int)) || (decide (x ≥ (64285 : Int)) && decide (x ≤ (65019 : Int)) || (decide (x ≥ (65136 : Int)) && decide (x ≤ (65276 : Int)) || (decide (x ≥ (65313 : Int)) && decide (x ≤ (65338 : Int)) || (decide (x ≥ (65345 : Int)) && decide (x ≤ (65370 : Int)) || (decide (x ≥ (65382 : Int)) && decide (x ≤ (65500 : Int)) || decide (x ≥ (131072 : Int)) && decide (x ≤ (262141 : Int))))))))))))))))))))))))))))))))))) (∃ (x1 : Int), Value.int IntKind.i8 (3 : Int) = Value.int IntKind.i8 x1 ∧ x1 = kindR g ∧ w' = w) (bcase (decide (x ≥ (33 : Int)) && decide (x ≤ (64 : Int)) || (decide (x ≥ (91 : Int)) && decide (x ≤ (96 : Int)) || (decide (x ≥ (123 : Int)) && decide (x ≤ (126 : Int)) || (decide (x ≥ (161 : Int)) && decide (x ≤ (191 : Int)) || (x == (894 : Int) || (x == (903 : Int) ||
 (decide (x ≥ (1417 : Int)) && decide (x ≤ (1418 : Int)) || (decide (x ≥ (1470 : Int)) && decide (x ≤ (1478 : Int)) || (decide (x ≥ (1523 : Int)) && decide (x ≤ (1524 : Int)) || (decide (x ≥ (1548 : Int)) && decide (x ≤ (1549 : Int)) || (decide (x ≥ (1563 : Int)) && decide (x ≤ (1567 : Int)) || (decide (x ≥ (1642 : Int)) && decide (x ≤ (1645 : Int)) || (x == (1748 : Int) || (decide (x ≥ (8208 : Int)) && decide (x ≤ (8286 : Int)) || (x == (9676 : Int) || (decide (x ≥ (12289 : Int)) && decide (x ≤ (12291 : Int)) || (decide (x ≥ (12296 : Int)) && decide (x ≤ (12319 : Int)) || (decide (x ≥ (65281 : Int)) && decide (x ≤ (65312 : Int)) || (decide (x ≥ (65339 : Int)) && decide (x ≤ (65344 : Int)) || decide (x ≥ (65371 : Int)) && decide (x ≤ (65381 : Int))))))))))))))))))))) (∃ (x1 : Int), Value.int IntKind.i8 (6 : Int) = Value.int IntKind.i8 x1 ∧ x1 = kindR g ∧ w' = w) (∃ (x1 : Int), Value.int IntKind.i8 (8 : Int) = Value.int IntKind.i8 x1 ∧ x1 = kindR g ∧ w' = w))))))))) :
    ((sRune .i8 kindR)).Ok Tryd.prog 102 :=
  ok_of_vc (sRune .i8 kindR) (annOf spKnown) spKnown (fun _ _ => rfl) (fun _ _ => rfl) hsp Tryd.func102 rfl (n := 1) (fun _ => rfl) (by kernel_rfl) (vcast (by kernel_rfl) h)

set_option maxRecDepth 1000000 in
theorem kinds_vc (hsp : SpecsOk Tryd.prog spFind) (h : ∀ (g : Int) (w : World), True → ∀ (b : Nat) (w1 : World), New w (Obj.cells #[Value.int IntKind.i32 (0 : Int), Value.int IntKind.u8 (0 : Int), Value.int IntKind.i32 (32 : Int), Value.int IntKind.u8 (5 : Int), Value.int IntKind.i32 (33 : Int), Value.int IntKind.u8 (6 : Int), Value.int IntKind.i32 (36 : Int), Value.int IntKind.u8 (7 : Int), Value.int IntKind.i32 (37 : Int), Value.int IntKind.u8 (6 : Int), Value.int IntKind.i32 (43 : Int), Value.int IntKind.u8 (7 : Int), Value.int IntKind.i32 (44 : Int), Value.int IntKind.u8 (6 : Int), Value.int IntKind.i32 (48 : Int), Value.int IntKind.u8 (4 : Int), Value.int IntKind.i32 (58 : Int), Value.int IntKind.u8 (6 : Int), Value.int IntKind.i32 (60 : Int), Value.int IntKind.u8 (7 : Int), Value.int IntKind.i32 (63 : Int), Value.int IntKind.u8 (6 : Int), Value.int IntKind.i32 (65 : Int), Value.int IntKind.u8 (3 : Int), Value.int IntKind.i32 (91 : Int), Value.int IntKind.u8 (6 : Int), Value.int IntKind.i32 (94 : Int), Value.int IntKind.u8 (7 : Int), Value.int IntKind.i32 (95 : Int), Value.int IntKind.u8 (6 : Int), Value.int IntKind.i32 (96 : Int), Value.int IntKind.u8 (7 : Int), Value.int IntKind.i32 (97 : Int), Value.int IntKind.u8 (3 : Int), Value.int IntKind.i32 (123 : Int), Value.int IntKind.u8 (6 : Int), Value.int IntKind.i32 (124 : Int), Value.int IntKind.u8 (7 : Int), Value.int IntKind.i32 (125 : Int), Value.int IntKind.u8 (6 : Int), Value.int IntKind.i32 (126 : Int), Value.int IntKind.u8 (7 : Int), Value.int IntKind.i32 (127 : Int), Value.int IntKind.u8 (0 : Int), Value.int IntKind.i32 (160 : Int), Value.int IntKind.u8 (5 : Int), Value.int IntKind.i32 (161 : Int), Value.int IntKind.u8 (6 : Int), Value.int IntKind.i32 (162 : Int), Value.int IntKind.u8 (7 : Int), Value.int IntKind.i32 (167 : Int), Value.int IntKind.u8 (6 : Int), Value.int IntKind.i32 (168 : Int), Value.int IntKind.u8 (7 : Int), Value.int IntKind.i32 (170 : Int), Value.int IntKind.u8 (3 : Int), Value.int IntKind.i32 (171 : Int), Value.int IntKind.u8 (6 : Int), Value.int IntKind.i32 (172 : Int), Value.int IntKind.u8 (7 : Int), Value.int IntKind.i32 (173 : Int), Value.int IntKind.u8 (1 : Int), Value.int IntKind.i32 (174 : Int), Value.int IntKind.u8 (7 : Int), Value.int IntKind.i32 (178 : Int), Value.int IntKind.u8 (6 : Int), Value.int IntKind.i32 (180 : Int), Value.int IntKind.u8 (7 : Int), Value.int IntKind.i32 (181 : Int), Value.int IntKind.u8 (3 : Int), Value.int IntKind.i32 (182 : Int), Value.int IntKind.u8 (6 : Int), Value.int IntKind.i32 (184 : Int), Value.int IntKind.u8 (7 : Int), Value.int IntKind.i32 (185 : Int), Value.int IntKind.u8 (6 : Int), Value.int IntKind.i32 (186 : Int), Value.int IntKind.u8 (3 : Int), Value.int IntKind.i32 (187 : Int), Value.int IntKind.u8 (6 : Int), Value.int IntKind.i32 (192 : Int), Value.int IntKind.u8 (3 : Int), Value.int IntKind.i32 (215 : Int), Value.int IntKind.u8 (7 : Int),
 Value.int IntKind.i32 (216 : Int), Value.int IntKind.u8 (3 : Int), Value.int IntKind.i32 (247 : Int), Value.int IntKind.u8 (7 : Int), Value.int IntKind.i32 (248 : Int), Value.int IntKind.u8 (3 : Int), Value.int IntKind.i32 (768 : Int), Value.int IntKind.u8 (2 : Int), Value.int IntKind.i32 (880 : Int), Value.int IntKind.u8 (3 : Int), Value.int IntKind.i32 (884 : Int), Value.int IntKind.u8 (8 : Int), Value.int IntKind.i32 (886 : Int), Value.int IntKind.u8 (3 : Int), Value.int IntKind.i32 (894 : Int), Value.int IntKind.u8 (6 : Int), Value.int IntKind.i32 (895 : Int), Value.int IntKind.u8 (3 : Int), Value.int IntKind.i32 (896 : Int), Value.int IntKind.u8 (8 : Int), Value.int IntKind.i32 (902 : Int), Value.int IntKind.u8 (3 : Int), Value.int IntKind.i32 (903 : Int), Value.int IntKind.u8 (6 : Int), Value.int IntKind.i32 (904 : Int), Value.int IntKind.u8 (3 : Int), Value.int IntKind.i32 (1154 : Int), Value.int IntKind.u8 (8 : Int), Value.int IntKind.i32 (1155 : Int), Value.int IntKind.u8 (2 : Int), Value.int IntKind.i32 (1162 : Int), Value.int IntKind.u8 (3 : Int), Value.int IntKind.i32 (1367 : Int), Value.int IntKind.u8 (8 : Int), Value.int IntKind.i32 (1377 : Int), Value.int IntKind.u8 (3 : Int), Value.int IntKind.i32 (1416 : Int), Value.int IntKind.u8 (8 : Int), Value.int IntKind.i32 (1417 : Int), Value.int IntKind.u8 (6 : Int), Value.int IntKind.i32 (1419 : Int), Value.int IntKind.u8 (8 : Int), Value.int IntKind.i32 (1425 : Int), Value.int IntKind.u8 (2 : Int), Value.int IntKind.i32 (1470 : Int), Value.int IntKind.u8 (6 : Int), Value.int IntKind.i32 (1471 : Int), Value.int IntKind.u8 (2 : Int), Value.int IntKind.i32 (1472 : Int), Value.int IntKind.u8 (6 : Int), Value.int IntKind.i32 (1473 : Int), Value.int IntKind.u8 (2 : Int), Value.int IntKind.i32 (1475 : Int), Value.int IntKind.u8 (6 : Int), Value.int IntKind.i32 (1476 : Int), Value.int IntKind.u8 (2 : Int), Value.int IntKind.i32 (1478 : Int), Value.int IntKind.u8 (6 : Int), Value.int IntKind.i32 (1479 : Int), Value.int IntKind.u8 (2 : Int), Value.int IntKind.i32 (1480 : Int), Value.int IntKind.u8 (8 : Int), Value.int IntKind.i32 (1488 : Int), Value.int IntKind.u8 (3 : Int), Value.int IntKind.i32 (1523 : Int), Value.int IntKind.u8 (6 : Int), Value.int IntKind.i32 (1525 : Int), Value.int IntKind.u8 (8 : Int), Value.int IntKind.i32 (1548 : Int), Value.int IntKind.u8 (6 : Int), Value.int IntKind.i32 (1550 : Int), Value.int IntKind.u8 (8 : Int), Value.int IntKind.i32 (1552 : Int), Value.int IntKind.u8 (2 : Int), Value.int IntKind.i32 (1563 : Int), Value.int IntKind.u8 (6 : Int), Value.int IntKind.i32 (1564 : Int), Value.int IntKind.u8 (1 : Int), Value.int IntKind.i32 (1565 : Int), Value.int IntKind.u8 (6 : Int), Value.int IntKind.i32 (1568 : Int), Value.int IntKind.u8 (3 : Int), Value.int IntKind.i32 (1611 : Int), Value.int IntKind.u8 (2 : Int), Value.int IntKind.i32 (1632 : Int), Value.int IntKind.u8 (4 : Int), Value.int IntKind.i32 (1642 : Int),
 Value.int IntKind.u8 (6 : Int), Value.int IntKind.i32 (1646 : Int), Value.int IntKind.u8 (3 : Int), Value.int IntKind.i32 (1648 : Int), Value.int IntKind.u8 (2 : Int), Value.int IntKind.i32 (1649 : Int), Value.int IntKind.u8 (3 : Int), Value.int IntKind.i32 (1748 : Int), Value.int IntKind.u8 (6 : Int), Value.int IntKind.i32 (1749 : Int), Value.int IntKind.u8 (3 : Int), Value.int IntKind.i32 (1750 : Int), Value.int IntKind.u8 (2 : Int), Value.int IntKind.i32 (1757 : Int), Value.int IntKind.u8 (3 : Int), Value.int IntKind.i32 (1759 : Int), Value.int IntKind.u8 (2 : Int), Value.int IntKind.i32 (1765 : Int), Value.int IntKind.u8 (3 : Int), Value.int IntKind.i32 (1767 : Int), Value.int IntKind.u8 (2 : Int), Value.int IntKind.i32 (1769 : Int), Value.int IntKind.u8 (3 : Int), Value.int IntKind.i32 (1770 : Int), Value.int IntKind.u8 (2 : Int), Value.int IntKind.i32 (1774 : Int), Value.int IntKind.u8 (3 : Int), Value.int IntKind.i32 (1776 : Int), Value.int IntKind.u8 (4 : Int), Value.int IntKind.i32 (1786 : Int), Value.int IntKind.u8 (3 : Int), Value.int IntKind.i32 (1789 : Int), Value.int IntKind.u8 (8 : Int), Value.int IntKind.i32 (3585 : Int), Value.int IntKind.u8 (3 : Int), Value.int IntKind.i32 (3633 : Int), Value.int IntKind.u8 (2 : Int), Value.int IntKind.i32 (3634 : Int), Value.int IntKind.u8 (3 : Int), Value.int IntKind.i32 (3636 : Int), Value.int IntKind.u8 (2 : Int), Value.int IntKind.i32 (3643 : Int), Value.int IntKind.u8 (3 : Int), Value.int IntKind.i32 (3655 : Int), Value.int IntKind.u8 (2 : Int), Value.int IntKind.i32 (3663 : Int), Value.int IntKind.u8 (8 : Int), Value.int IntKind.i32 (4256 : Int), Value.int IntKind.u8 (3 : Int), Value.int IntKind.i32 (4608 : Int), Value.int IntKind.u8 (8 : Int), Value.int IntKind.i32 (5760 : Int), Value.int IntKind.u8 (5 : Int), Value.int IntKind.i32 (5761 : Int), Value.int IntKind.u8 (8 : Int), Value.int IntKind.i32 (6832 : Int), Value.int IntKind.u8 (2 : Int), Value.int IntKind.i32 (6912 : Int), Value.int IntKind.u8 (8 : Int), Value.int IntKind.i32 (7616 : Int), Value.int IntKind.u8 (2 : Int), Value.int IntKind.i32 (7680 : Int), Value.int IntKind.u8 (3 : Int), Value.int IntKind.i32 (8192 : Int), Value.int IntKind.u8 (5 : Int), Value.int IntKind.i32 (8203 : Int), Value.int IntKind.u8 (1 : Int), Value.int IntKind.i32 (8208 : Int), Value.int IntKind.u8 (6 : Int), Value.int IntKind.i32 (8232 : Int), Value.int IntKind.u8 (5 : Int), Value.int IntKind.i32 (8234 : Int), Value.int IntKind.u8 (1 : Int), Value.int IntKind.i32 (8239 : Int), Value.int IntKind.u8 (5 : Int), Value.int IntKind.i32 (8240 : Int), Value.int IntKind.u8 (6 : Int), Value.int IntKind.i32 (8287 : Int), Value.int IntKind.u8 (5 : Int), Value.int IntKind.i32 (8288 : Int), Value.int IntKind.u8 (1 : Int), Value.int IntKind.i32 (8298 : Int), Value.int IntKind.u8 (8 : Int), Value.int IntKind.i32 (8352 : Int), Value.int IntKind.u8 (7 : Int), Value.int IntKind.i32 (8400 : Int), Value.int IntKind.u8 (2 : Int),
 Value.int IntKind.i32 (8448 : Int), Value.int IntKind.u8 (7 : Int), Value.int IntKind.i32 (9676 : Int), Value.int IntKind.u8 (6 : Int), Value.int IntKind.i32 (9677 : Int), Value.int IntKind.u8 (7 : Int), Value.int IntKind.i32 (11264 : Int), Value.int IntKind.u8 (3 : Int), Value.int IntKind.i32 (11744 : Int), Value.int IntKind.u8 (8 : Int), Value.int IntKind.i32 (12288 : Int), Value.int IntKind.u8 (5 : Int), Value.int IntKind.i32 (12289 : Int), Value.int IntKind.u8 (6 : Int), Value.int IntKind.i32 (12292 : Int), Value.int IntKind.u8 (8 : Int), Value.int IntKind.i32 (12293 : Int), Value.int IntKind.u8 (3 : Int), Value.int IntKind.i32 (12296 : Int), Value.int IntKind.u8 (6 : Int), Value.int IntKind.i32 (12320 : Int), Value.int IntKind.u8 (8 : Int), Value.int IntKind.i32 (12330 : Int), Value.int IntKind.u8 (2 : Int), Value.int IntKind.i32 (12334 : Int), Value.int IntKind.u8 (8 : Int), Value.int IntKind.i32 (12353 : Int), Value.int IntKind.u8 (3 : Int), Value.int IntKind.i32 (12441 : Int), Value.int IntKind.u8 (2 : Int), Value.int IntKind.i32 (12443 : Int), Value.int IntKind.u8 (3 : Int), Value.int IntKind.i32 (12544 : Int), Value.int IntKind.u8 (8 : Int), Value.int IntKind.i32 (12549 : Int), Value.int IntKind.u8 (3 : Int), Value.int IntKind.i32 (12687 : Int), Value.int IntKind.u8 (8 : Int), Value.int IntKind.i32 (13312 : Int), Value.int IntKind.u8 (3 : Int), Value.int IntKind.i32 (19904 : Int), Value.int IntKind.u8 (8 : Int), Value.int IntKind.i32 (19968 : Int), Value.int IntKind.u8 (3 : Int), Value.int IntKind.i32 (40960 : Int), Value.int IntKind.u8 (8 : Int), Value.int IntKind.i32 (44032 : Int), Value.int IntKind.u8 (3 : Int), Value.int IntKind.i32 (55204 : Int), Value.int IntKind.u8 (8 : Int), Value.int IntKind.i32 (63744 : Int), Value.int IntKind.u8 (3 : Int), Value.int IntKind.i32 (64256 : Int), Value.int IntKind.u8 (8 : Int), Value.int IntKind.i32 (64285 : Int), Value.int IntKind.u8 (3 : Int), Value.int IntKind.i32 (65020 : Int), Value.int IntKind.u8 (8 : Int), Value.int IntKind.i32 (65024 : Int), Value.int IntKind.u8 (2 : Int), Value.int IntKind.i32 (65040 : Int), Value.int IntKind.u8 (8 : Int), Value.int IntKind.i32 (65056 : Int), Value.int IntKind.u8 (2 : Int), Value.int IntKind.i32 (65072 : Int), Value.int IntKind.u8 (8 : Int), Value.int IntKind.i32 (65136 : Int), Value.int IntKind.u8 (3 : Int), Value.int IntKind.i32 (65277 : Int), Value.int IntKind.u8 (8 : Int), Value.int IntKind.i32 (65279 : Int), Value.int IntKind.u8 (1 : Int), Value.int IntKind.i32 (65280 : Int), Value.int IntKind.u8 (8 : Int), Value.int IntKind.i32 (65281 : Int), Value.int IntKind.u8 (6 : Int), Value.int IntKind.i32 (65296 : Int), Value.int IntKind.u8 (4 : Int), Value.int IntKind.i32 (65306 : Int), Value.int IntKind.u8 (6 : Int), Value.int IntKind.i32 (65313 : Int), Value.int IntKind.u8 (3 : Int), Value.int IntKind.i32 (65339 : Int), Value.int IntKind.u8 (6 : Int),
 Value.int IntKind.i32 (65345 : Int), Value.int IntKind.u8 (3 : Int), Value.int IntKind.i32 (65371 : Int), Value.int IntKind.u8 (6 : Int), Value.int IntKind.i32 (65382 : Int), Value.int IntKind.u8 (3 : Int), Value.int IntKind.i32 (65501 : Int), Value.int IntKind.u8 (8 : Int), Value.int IntKind.i32 (65532 : Int), Value.int IntKind.u8 (7 : Int), Value.int IntKind.i32 (65534 : Int), Value.int IntKind.u8 (8 : Int), Value.int IntKind.i32 (126976 : Int), Value.int IntKind.u8 (7 : Int), Value.int IntKind.i32 (129792 : Int), Value.int IntKind.u8 (8 : Int), Value.int IntKind.i32 (131072 : Int), Value.int IntKind.u8 (3 : Int), Value.int IntKind.i32 (262142 : Int), Value.int IntKind.u8 (8 : Int)] (124 : Nat)) b w1 → ∃ (g1 : GFind), #[Value.slice (some { block := b, off := (0 : Nat) }) (181 : Nat) (181 : Nat), Value.int IntKind.i32 g] = #[Value.slice (some { block := g1.b, off := (0 : Nat) }) g1.T.length g1.T.length, Value.int IntKind.i32 g1.r] ∧ (CellsT w1 g1.b g1.T ∧ (0 : Nat) < g1.T.length ∧ g1.T.length ≤ (1000 : Nat) ∧ boundsOk g1.T = true ∧ (g1.T.getD (0 : Nat) ((0 : Int), (0 : Int))).fst = (0 : Int)) ∧ ∀ (x : Int × Int) (w' : World), FindOk g1.T (knownF g1.r) x.fst x.snd ∧ Ext w1 w' → ∃ (x1 : Int × Int), Value.tuple #[Value.int IntKind.u8 x.fst, Value.int IntKind.i32 x.snd] = Value.tuple #[Value.int IntKind.u8 x1.fst, Value.int IntKind.i32 x1.snd] ∧ FindOk kindT (knownF g) x1.fst x1.snd ∧ Ext w w') :
    ((sTab kindT)).Ok Tryd.prog 106 :=
  ok_of_vc (sTab kindT) (annOf spFind) spFind (fun _ _ => rfl) (fun _ _ => rfl) hsp Tryd.func106 rfl (n := 1) (fun _ => rfl) (by kernel_rfl) (vcast (by kernel_rfl) h)

set_option maxRecDepth 1000000 in
theorem ckind_vc (hsp : SpecsOk Tryd.prog spKind) (h : ∀ (g : Int) (w : World), True → ∃ (g1 : Int), #[Value.int IntKind.i32 g] = #[Value.int IntKind.i32 g1] ∧ True ∧ ∀ (x : Int × Int) (w' : World), FindOk kindT (knownF g1) x.fst x.snd ∧ Ext w w' → InR IntKind.i8 x.fst ∧ ∃ (x1 : Int), Value.int IntKind.i8 x.fst = Value.int IntKind.i8 x1 ∧ x1 = kindR g ∧ Ext w w') :
    ((sRuneX .i8 kindR)).Ok Tryd.prog 75 :=
  ok_of_vc (sRuneX .i8 kindR) (annOf spKind) spKind (fun _ _ => rfl) (fun _ _ => rfl) hsp Tryd.func75 rfl (n := 1) (fun _ => rfl) (by kernel_rfl) (vcast (by kernel_rfl) h)

set_option maxRecDepth 1000000 in
theorem rbrk_vc (hsp : SpecsOk Tryd.prog spKnown) (h : ∀ (g : Int) (w : World), True → ∃ (g1 : Int), #[Value.int IntKind.i32 g] = #[Value.int IntKind.i32 g1] ∧ True ∧ ∀ (x : Int) (w' : World), x = knownF g1 ∧ w' = w → bcase (decide (x ≥ (10 : Int)) && decide (x ≤ (13 : Int)) || (x == (133 : Int) || decide (x ≥ (8232 : Int)) && decide (x ≤ (8233 : Int)))) (∃ (x1 : Int), Value.int IntKind.i8 (2 : Int) = Value.int IntKind.i8 x1 ∧ x1 = brkR g ∧ w' = w) (bcase (x == (8203 : Int)) (∃ (x1 : Int), Value.int IntKind.i8 (9 : Int) = Value.int IntKind.i8 x1 ∧ x1 = brkR g ∧ w' = w) (bcase (x == (9 : Int) || (x == (32 : Int) || (x == (5760 : Int) || (decide (x ≥ (8192 : Int)) && decide (x ≤ (8198 : Int)) || (decide (x ≥ (8200 : Int)) && decide (x ≤ (8202 : Int)) || (x == (8287 : Int) || x == (12288 : Int))))))) (∃ (x1 : Int), Value.int IntKind.i8 (1 : Int) = Value.int IntKind.i8 x1 ∧ x1 = brkR g ∧ w' = w) (bcase (x == (160 : Int) || (x == (8199 : Int) || (x == (8239 : Int) || (x == (8288 : Int) || x == (65279 : Int))))) (∃ (x1 : Int), Value.int IntKind.i8 (5 : Int) = Value.int IntKind.i8 x1 ∧ x1 = brkR g ∧ w' = w) (bcase (x == (8205 : Int)) (∃ (x1 : Int), Value.int IntKind.i8 (12 : Int) = Value.int IntKind.i8 x1 ∧ x1 = brkR g ∧ w' = w) (bcase (x == (45 : Int) || (x == (173 : Int) || (x == (1418 : Int) || (x == (1470 : Int) || (x == (8208 : Int) || decide (x ≥ (8210 : Int)) && decide (x ≤ (8212 : Int))))))) (∃ (x1 : Int), Value.int IntKind.i8 (6 : Int) = Value.int IntKind.i8 x1 ∧ x1 = brkR g ∧ w' = w) (bcase (decide (x ≤ (31 : Int)) || (decide (x ≥ (127 : Int)) && decide (x ≤ (159 : Int)) || (x == (173 : Int) || (x == (1564 : Int) || (decide (x ≥ (8203 : Int)) && decide (x ≤ (8207 : Int)) || (decide (x ≥ (8234 : Int)) && decide (x ≤ (8238 : Int)) || (decide (x ≥ (8288 : Int)) && decide (x ≤ (8297 : Int)) || (x == (65279 : Int) || (decide (x ≥ (768 : Int)) && decide (x ≤ (879 : Int)) || (decide (x ≥ (1155 : Int)) && decide (x ≤ (1161 : Int)) || (decide (x ≥ (1425 : Int)) && decide (x ≤ (1469 : Int)) || (x == (1471 : Int) || (decide (x ≥ (1473 : Int)) && decide (x ≤ (1474 : Int)) || (decide (x ≥ (1476 : Int)) && decide (x ≤ (1477 : Int)) || (x == (1479 : Int) || (decide (x ≥ (1552 : Int)) && decide (x ≤ (1562 : Int)) || (decide (x ≥ (1611 : Int)) && decide (x ≤ (1631 : Int)) || (x == (1648 : Int) || (decide (x ≥ (1750 : Int)) && decide (x ≤ (1756 : Int)) || (decide (x ≥ (1759 : Int)) && decide (x ≤ (1764 : Int)) || (decide (x ≥ (1767 : Int)) && decide (x ≤ (1768 : Int)) || (decide (x ≥ (1770 : Int)) && decide (x ≤ (1773 : Int)) || (x == (3633 : Int) || (decide (x ≥ (3636 : Int)) && decide (x ≤ (3642 : Int)) || (decide (x ≥ (3655 : Int)) && decide (x ≤ (3662 : Int)) || (decide (x ≥ (6832 : Int)) && decide (x ≤ (6911 : Int)) || (decide (x ≥ (7616 : Int)) && decide (x ≤ (7679 : Int)) || (decide (x ≥ (8400 : Int)) && decide (x ≤ (8447 : Int)) || (decide (x ≥ (12330 : Int)) && decide (x ≤ (12333 : Int)) || (decide (x ≥ (12441 : Int)) && decide (x ≤ (12442 : Int)) ||
 (decide (x ≥ (65024 : Int)) && decide (x ≤ (65039 : Int)) || decide (x ≥ (65056 : Int)) && decide (x ≤ (65071 : Int))))))))))))))))))))))))))))))))) (∃ (x1 : Int), Value.int IntKind.i8 (8 : Int) = Value.int IntKind.i8 x1 ∧ x1 = brkR g ∧ w' = w) (bcase (decide (x ≥ (48 : Int)) && decide (x ≤ (57 : Int)) || (decide (x ≥ (1632 : Int)) && decide (x ≤ (1641 : Int)) || (decide (x ≥ (1776 : Int)) && decide (x ≤ (1785 : Int)) || decide (x ≥ (65296 : Int)) && decide (x ≤ (65305 : Int))))) (∃ (x1 : Int), Value.int IntKind.i8 (10 : Int) = Value.int IntKind.i8 x1 ∧ x1 = brkR g ∧ w' = w) (bcase (x == (44 : Int) || (decide (x ≥ (46 : Int)) && decide (x ≤ (47 : Int)) || (decide (x ≥ (58 : Int)) && decide (x ≤ (59 : Int)) || (x == (1548 : Int) || decide (x ≥ (1643 : Int)) && decide (x ≤ (1644 : Int)))))) (∃ (x1 : Int), Value.int IntKind.i8 (11 : Int) = Value.int IntKind.i8 x1 ∧ x1 = brkR g ∧ w' = w) (bcase (x == (40 : Int) || (x == (91 : Int) || (x == (123 : Int) || (x == (161 : Int) || (x == (171 : Int) || (x == (191 : Int) || (x == (8216 : Int) || (x == (8218 : Int) || (x == (8220 : Int) || (x == (8222 : Int) || (x == (8249 : Int) || (x == (12296 : Int) || (x == (12298 : Int) || (x == (12300 : Int) || (x == (12302 : Int) || (x == (12304 : Int) || (x == (12308 : Int) || (x == (12310 : Int) || (x == (12312 : Int) || (x == (12314 : Int) || (x == (65288 : Int) || (x == (65339 : Int) || (x == (65371 : Int) || x == (65375 : Int)))))))))))))))))))))))) (∃ (x1 : Int), Value.int IntKind.i8 (3 : Int) = Value.int IntKind.i8 x1 ∧ x1 = brkR g ∧ w' = w) (bcase (x == (33 : Int) || (x == (41 : Int) || (x == (63 : Int) || (x == (93 : Int) || (x == (125 : Int) || (x == (187 : Int) || (x == (1563 : Int) || (x == (1567 : Int) || (x == (8217 : Int) || (x == (8221 : Int) || (x == (8250 : Int) || (decide (x ≥ (12289 : Int)) && decide (x ≤ (12290 : Int)) || (x == (12297 : Int) || (x == (12299 : Int) || (x == (12301 : Int) || (x == (12303 : Int) || (x == (12305 : Int) || (x == (12309 : Int) || (x == (12311 : Int) || (x == (12313 : Int) || (x == (12315 : Int) || (x == (65281 : Int) || (x == (65289 : Int) || (x == (65292 : Int) || (x == (65294 : Int) || (decide (x ≥ (65306 : Int)) && decide (x ≤ (65307 : Int)) || (x == (65311 : Int) || (x == (65341 : Int) || (x == (65373 : Int) || x == (65376 : Int)))))))))))))))))))))))))))))) (∃ (x1 : Int), Value.int IntKind.i8 (4 : Int) = Value.int IntKind.i8 x1 ∧ x1 = brkR g ∧ w' = w) (bcase (decide (x ≥ (11904 : Int)) && decide (x ≤ (12351 : Int)) || (decide (x ≥ (12353 : Int)) && decide (x ≤ (19903 : Int)) || (decide (x ≥ (19968 : Int)) && decide (x ≤ (42191 : Int)) || (decide (x ≥ (44032 : Int)) && decide (x ≤ (55203 : Int)) || (decide (x ≥ (63744 : Int)) && decide (x ≤ (64255 : Int)) || (decide (x ≥ (65282 : Int)) && decide (x ≤ (65374 : Int)) || (decide (x ≥ (127744 : Int)) && decide (x ≤ (129791 : Int)) || decide (x ≥ (131072 : Int)) && decide (x ≤ (262141 : Int)))))))))
 (∃ (x1 : Int), Value.int IntKind.i8 (7 : Int) = Value.int IntKind.i8 x1 ∧ x1 = brkR g ∧ w' = w) (∃ (x1 : Int), Value.int IntKind.i8 (0 : Int) = Value.int IntKind.i8 x1 ∧ x1 = brkR g ∧ w' = w))))))))))))) :
    ((sRune .i8 brkR)).Ok Tryd.prog 87 :=
  ok_of_vc (sRune .i8 brkR) (annOf spKnown) spKnown (fun _ _ => rfl) (fun _ _ => rfl) hsp Tryd.func87 rfl (n := 1) (fun _ => rfl) (by kernel_rfl) (vcast (by kernel_rfl) h)

set_option maxRecDepth 1000000 in
theorem brks_vc (hsp : SpecsOk Tryd.prog spFind) (h : ∀ (g : Int) (w : World), True → ∀ (b : Nat) (w1 : World), New w (Obj.cells #[Value.int IntKind.i32 (0 : Int), Value.int IntKind.u8 (8 : Int), Value.int IntKind.i32 (9 : Int), Value.int IntKind.u8 (1 : Int), Value.int IntKind.i32 (10 : Int), Value.int IntKind.u8 (2 : Int), Value.int IntKind.i32 (14 : Int), Value.int IntKind.u8 (8 : Int), Value.int IntKind.i32 (32 : Int), Value.int IntKind.u8 (1 : Int), Value.int IntKind.i32 (33 : Int), Value.int IntKind.u8 (4 : Int), Value.int IntKind.i32 (34 : Int), Value.int IntKind.u8 (0 : Int), Value.int IntKind.i32 (40 : Int), Value.int IntKind.u8 (3 : Int), Value.int IntKind.i32 (41 : Int), Value.int IntKind.u8 (4 : Int), Value.int IntKind.i32 (42 : Int), Value.int IntKind.u8 (0 : Int), Value.int IntKind.i32 (44 : Int), Value.int IntKind.u8 (11 : Int), Value.int IntKind.i32 (45 : Int), Value.int IntKind.u8 (6 : Int), Value.int IntKind.i32 (46 : Int), Value.int IntKind.u8 (11 : Int), Value.int IntKind.i32 (48 : Int), Value.int IntKind.u8 (10 : Int), Value.int IntKind.i32 (58 : Int), Value.int IntKind.u8 (11 : Int), Value.int IntKind.i32 (60 : Int), Value.int IntKind.u8 (0 : Int), Value.int IntKind.i32 (63 : Int), Value.int IntKind.u8 (4 : Int), Value.int IntKind.i32 (64 : Int), Value.int IntKind.u8 (0 : Int), Value.int IntKind.i32 (91 : Int), Value.int IntKind.u8 (3 : Int), Value.int IntKind.i32 (92 : Int), Value.int IntKind.u8 (0 : Int), Value.int IntKind.i32 (93 : Int), Value.int IntKind.u8 (4 : Int), Value.int IntKind.i32 (94 : Int), Value.int IntKind.u8 (0 : Int), Value.int IntKind.i32 (123 : Int), Value.int IntKind.u8 (3 : Int), Value.int IntKind.i32 (124 : Int), Value.int IntKind.u8 (0 : Int), Value.int IntKind.i32 (125 : Int), Value.int IntKind.u8 (4 : Int), Value.int IntKind.i32 (126 : Int), Value.int IntKind.u8 (0 : Int), Value.int IntKind.i32 (127 : Int), Value.int IntKind.u8 (8 : Int), Value.int IntKind.i32 (133 : Int), Value.int IntKind.u8 (2 : Int), Value.int IntKind.i32 (134 : Int), Value.int IntKind.u8 (8 : Int), Value.int IntKind.i32 (160 : Int), Value.int IntKind.u8 (5 : Int), Value.int IntKind.i32 (161 : Int), Value.int IntKind.u8 (3 : Int), Value.int IntKind.i32 (162 : Int), Value.int IntKind.u8 (0 : Int), Value.int IntKind.i32 (171 : Int), Value.int IntKind.u8 (3 : Int), Value.int IntKind.i32 (172 : Int), Value.int IntKind.u8 (0 : Int), Value.int IntKind.i32 (173 : Int), Value.int IntKind.u8 (6 : Int), Value.int IntKind.i32 (174 : Int), Value.int IntKind.u8 (0 : Int), Value.int IntKind.i32 (187 : Int), Value.int IntKind.u8 (4 : Int), Value.int IntKind.i32 (188 : Int), Value.int IntKind.u8 (0 : Int), Value.int IntKind.i32 (191 : Int), Value.int IntKind.u8 (3 : Int), Value.int IntKind.i32 (192 : Int), Value.int IntKind.u8 (0 : Int), Value.int IntKind.i32 (768 : Int), Value.int IntKind.u8 (8 : Int), Value.int IntKind.i32 (880 : Int), Value.int IntKind.u8 (0 : Int),
 Value.int IntKind.i32 (1155 : Int), Value.int IntKind.u8 (8 : Int), Value.int IntKind.i32 (1162 : Int), Value.int IntKind.u8 (0 : Int), Value.int IntKind.i32 (1418 : Int), Value.int IntKind.u8 (6 : Int), Value.int IntKind.i32 (1419 : Int), Value.int IntKind.u8 (0 : Int), Value.int IntKind.i32 (1425 : Int), Value.int IntKind.u8 (8 : Int), Value.int IntKind.i32 (1470 : Int), Value.int IntKind.u8 (6 : Int), Value.int IntKind.i32 (1471 : Int), Value.int IntKind.u8 (8 : Int), Value.int IntKind.i32 (1472 : Int), Value.int IntKind.u8 (0 : Int), Value.int IntKind.i32 (1473 : Int), Value.int IntKind.u8 (8 : Int), Value.int IntKind.i32 (1475 : Int), Value.int IntKind.u8 (0 : Int), Value.int IntKind.i32 (1476 : Int), Value.int IntKind.u8 (8 : Int), Value.int IntKind.i32 (1478 : Int), Value.int IntKind.u8 (0 : Int), Value.int IntKind.i32 (1479 : Int), Value.int IntKind.u8 (8 : Int), Value.int IntKind.i32 (1480 : Int), Value.int IntKind.u8 (0 : Int), Value.int IntKind.i32 (1548 : Int), Value.int IntKind.u8 (11 : Int), Value.int IntKind.i32 (1549 : Int), Value.int IntKind.u8 (0 : Int), Value.int IntKind.i32 (1552 : Int), Value.int IntKind.u8 (8 : Int), Value.int IntKind.i32 (1563 : Int), Value.int IntKind.u8 (4 : Int), Value.int IntKind.i32 (1564 : Int), Value.int IntKind.u8 (8 : Int), Value.int IntKind.i32 (1565 : Int), Value.int IntKind.u8 (0 : Int), Value.int IntKind.i32 (1567 : Int), Value.int IntKind.u8 (4 : Int), Value.int IntKind.i32 (1568 : Int), Value.int IntKind.u8 (0 : Int), Value.int IntKind.i32 (1611 : Int), Value.int IntKind.u8 (8 : Int), Value.int IntKind.i32 (1632 : Int), Value.int IntKind.u8 (10 : Int), Value.int IntKind.i32 (1642 : Int), Value.int IntKind.u8 (0 : Int), Value.int IntKind.i32 (1643 : Int), Value.int IntKind.u8 (11 : Int), Value.int IntKind.i32 (1645 : Int), Value.int IntKind.u8 (0 : Int), Value.int IntKind.i32 (1648 : Int), Value.int IntKind.u8 (8 : Int), Value.int IntKind.i32 (1649 : Int), Value.int IntKind.u8 (0 : Int), Value.int IntKind.i32 (1750 : Int), Value.int IntKind.u8 (8 : Int), Value.int IntKind.i32 (1757 : Int), Value.int IntKind.u8 (0 : Int), Value.int IntKind.i32 (1759 : Int), Value.int IntKind.u8 (8 : Int), Value.int IntKind.i32 (1765 : Int), Value.int IntKind.u8 (0 : Int), Value.int IntKind.i32 (1767 : Int), Value.int IntKind.u8 (8 : Int), Value.int IntKind.i32 (1769 : Int), Value.int IntKind.u8 (0 : Int), Value.int IntKind.i32 (1770 : Int), Value.int IntKind.u8 (8 : Int), Value.int IntKind.i32 (1774 : Int), Value.int IntKind.u8 (0 : Int), Value.int IntKind.i32 (1776 : Int), Value.int IntKind.u8 (10 : Int), Value.int IntKind.i32 (1786 : Int), Value.int IntKind.u8 (0 : Int), Value.int IntKind.i32 (3633 : Int), Value.int IntKind.u8 (8 : Int), Value.int IntKind.i32 (3634 : Int), Value.int IntKind.u8 (0 : Int), Value.int IntKind.i32 (3636 : Int), Value.int IntKind.u8 (8 : Int), Value.int IntKind.i32 (3643 : Int), Value.int IntKind.u8 (0 : Int), Value.int IntKind.i32 (3655 : Int),
 Value.int IntKind.u8 (8 : Int), Value.int IntKind.i32 (3663 : Int), Value.int IntKind.u8 (0 : Int), Value.int IntKind.i32 (5760 : Int), Value.int IntKind.u8 (1 : Int), Value.int IntKind.i32 (5761 : Int), Value.int IntKind.u8 (0 : Int), Value.int IntKind.i32 (6832 : Int), Value.int IntKind.u8 (8 : Int), Value.int IntKind.i32 (6912 : Int), Value.int IntKind.u8 (0 : Int), Value.int IntKind.i32 (7616 : Int), Value.int IntKind.u8 (8 : Int), Value.int IntKind.i32 (7680 : Int), Value.int IntKind.u8 (0 : Int), Value.int IntKind.i32 (8192 : Int), Value.int IntKind.u8 (1 : Int), Value.int IntKind.i32 (8199 : Int), Value.int IntKind.u8 (5 : Int), Value.int IntKind.i32 (8200 : Int), Value.int IntKind.u8 (1 : Int), Value.int IntKind.i32 (8203 : Int), Value.int IntKind.u8 (9 : Int), Value.int IntKind.i32 (8204 : Int), Value.int IntKind.u8 (8 : Int), Value.int IntKind.i32 (8205 : Int), Value.int IntKind.u8 (12 : Int), Value.int IntKind.i32 (8206 : Int), Value.int IntKind.u8 (8 : Int), Value.int IntKind.i32 (8208 : Int), Value.int IntKind.u8 (6 : Int), Value.int IntKind.i32 (8209 : Int), Value.int IntKind.u8 (0 : Int), Value.int IntKind.i32 (8210 : Int), Value.int IntKind.u8 (6 : Int), Value.int IntKind.i32 (8213 : Int), Value.int IntKind.u8 (0 : Int), Value.int IntKind.i32 (8216 : Int), Value.int IntKind.u8 (3 : Int), Value.int IntKind.i32 (8217 : Int), Value.int IntKind.u8 (4 : Int), Value.int IntKind.i32 (8218 : Int), Value.int IntKind.u8 (3 : Int), Value.int IntKind.i32 (8219 : Int), Value.int IntKind.u8 (0 : Int), Value.int IntKind.i32 (8220 : Int), Value.int IntKind.u8 (3 : Int), Value.int IntKind.i32 (8221 : Int), Value.int IntKind.u8 (4 : Int), Value.int IntKind.i32 (8222 : Int), Value.int IntKind.u8 (3 : Int), Value.int IntKind.i32 (8223 : Int), Value.int IntKind.u8 (0 : Int), Value.int IntKind.i32 (8232 : Int), Value.int IntKind.u8 (2 : Int), Value.int IntKind.i32 (8234 : Int), Value.int IntKind.u8 (8 : Int), Value.int IntKind.i32 (8239 : Int), Value.int IntKind.u8 (5 : Int), Value.int IntKind.i32 (8240 : Int), Value.int IntKind.u8 (0 : Int), Value.int IntKind.i32 (8249 : Int), Value.int IntKind.u8 (3 : Int), Value.int IntKind.i32 (8250 : Int), Value.int IntKind.u8 (4 : Int), Value.int IntKind.i32 (8251 : Int), Value.int IntKind.u8 (0 : Int), Value.int IntKind.i32 (8287 : Int), Value.int IntKind.u8 (1 : Int), Value.int IntKind.i32 (8288 : Int), Value.int IntKind.u8 (5 : Int), Value.int IntKind.i32 (8289 : Int), Value.int IntKind.u8 (8 : Int), Value.int IntKind.i32 (8298 : Int), Value.int IntKind.u8 (0 : Int), Value.int IntKind.i32 (8400 : Int), Value.int IntKind.u8 (8 : Int), Value.int IntKind.i32 (8448 : Int), Value.int IntKind.u8 (0 : Int), Value.int IntKind.i32 (11904 : Int), Value.int IntKind.u8 (7 : Int), Value.int IntKind.i32 (12288 : Int), Value.int IntKind.u8 (1 : Int), Value.int IntKind.i32 (12289 : Int), Value.int IntKind.u8 (4 : Int), Value.int IntKind.i32 (12291 : Int), Value.int IntKind.u8 (7 : Int),
 Value.int IntKind.i32 (12296 : Int), Value.int IntKind.u8 (3 : Int), Value.int IntKind.i32 (12297 : Int), Value.int IntKind.u8 (4 : Int), Value.int IntKind.i32 (12298 : Int), Value.int IntKind.u8 (3 : Int), Value.int IntKind.i32 (12299 : Int), Value.int IntKind.u8 (4 : Int), Value.int IntKind.i32 (12300 : Int), Value.int IntKind.u8 (3 : Int), Value.int IntKind.i32 (12301 : Int), Value.int IntKind.u8 (4 : Int), Value.int IntKind.i32 (12302 : Int), Value.int IntKind.u8 (3 : Int), Value.int IntKind.i32 (12303 : Int), Value.int IntKind.u8 (4 : Int), Value.int IntKind.i32 (12304 : Int), Value.int IntKind.u8 (3 : Int), Value.int IntKind.i32 (12305 : Int), Value.int IntKind.u8 (4 : Int), Value.int IntKind.i32 (12306 : Int), Value.int IntKind.u8 (7 : Int), Value.int IntKind.i32 (12308 : Int), Value.int IntKind.u8 (3 : Int), Value.int IntKind.i32 (12309 : Int), Value.int IntKind.u8 (4 : Int), Value.int IntKind.i32 (12310 : Int), Value.int IntKind.u8 (3 : Int), Value.int IntKind.i32 (12311 : Int), Value.int IntKind.u8 (4 : Int), Value.int IntKind.i32 (12312 : Int), Value.int IntKind.u8 (3 : Int), Value.int IntKind.i32 (12313 : Int), Value.int IntKind.u8 (4 : Int), Value.int IntKind.i32 (12314 : Int), Value.int IntKind.u8 (3 : Int), Value.int IntKind.i32 (12315 : Int), Value.int IntKind.u8 (4 : Int), Value.int IntKind.i32 (12316 : Int), Value.int IntKind.u8 (7 : Int), Value.int IntKind.i32 (12330 : Int), Value.int IntKind.u8 (8 : Int), Value.int IntKind.i32 (12334 : Int), Value.int IntKind.u8 (7 : Int), Value.int IntKind.i32 (12352 : Int), Value.int IntKind.u8 (0 : Int), Value.int IntKind.i32 (12353 : Int), Value.int IntKind.u8 (7 : Int), Value.int IntKind.i32 (12441 : Int), Value.int IntKind.u8 (8 : Int), Value.int IntKind.i32 (12443 : Int), Value.int IntKind.u8 (7 : Int), Value.int IntKind.i32 (19904 : Int), Value.int IntKind.u8 (0 : Int), Value.int IntKind.i32 (19968 : Int), Value.int IntKind.u8 (7 : Int), Value.int IntKind.i32 (42192 : Int), Value.int IntKind.u8 (0 : Int), Value.int IntKind.i32 (44032 : Int), Value.int IntKind.u8 (7 : Int), Value.int IntKind.i32 (55204 : Int), Value.int IntKind.u8 (0 : Int), Value.int IntKind.i32 (63744 : Int), Value.int IntKind.u8 (7 : Int), Value.int IntKind.i32 (64256 : Int), Value.int IntKind.u8 (0 : Int), Value.int IntKind.i32 (65024 : Int), Value.int IntKind.u8 (8 : Int), Value.int IntKind.i32 (65040 : Int), Value.int IntKind.u8 (0 : Int), Value.int IntKind.i32 (65056 : Int), Value.int IntKind.u8 (8 : Int), Value.int IntKind.i32 (65072 : Int), Value.int IntKind.u8 (0 : Int), Value.int IntKind.i32 (65279 : Int), Value.int IntKind.u8 (5 : Int), Value.int IntKind.i32 (65280 : Int), Value.int IntKind.u8 (0 : Int), Value.int IntKind.i32 (65281 : Int), Value.int IntKind.u8 (4 : Int), Value.int IntKind.i32 (65282 : Int), Value.int IntKind.u8 (7 : Int), Value.int IntKind.i32 (65288 : Int), Value.int IntKind.u8 (3 : Int),
 Value.int IntKind.i32 (65289 : Int), Value.int IntKind.u8 (4 : Int), Value.int IntKind.i32 (65290 : Int), Value.int IntKind.u8 (7 : Int), Value.int IntKind.i32 (65292 : Int), Value.int IntKind.u8 (4 : Int), Value.int IntKind.i32 (65293 : Int), Value.int IntKind.u8 (7 : Int), Value.int IntKind.i32 (65294 : Int), Value.int IntKind.u8 (4 : Int), Value.int IntKind.i32 (65295 : Int), Value.int IntKind.u8 (7 : Int), Value.int IntKind.i32 (65296 : Int), Value.int IntKind.u8 (10 : Int), Value.int IntKind.i32 (65306 : Int), Value.int IntKind.u8 (4 : Int), Value.int IntKind.i32 (65308 : Int), Value.int IntKind.u8 (7 : Int), Value.int IntKind.i32 (65311 : Int), Value.int IntKind.u8 (4 : Int), Value.int IntKind.i32 (65312 : Int), Value.int IntKind.u8 (7 : Int), Value.int IntKind.i32 (65339 : Int), Value.int IntKind.u8 (3 : Int), Value.int IntKind.i32 (65340 : Int), Value.int IntKind.u8 (7 : Int), Value.int IntKind.i32 (65341 : Int), Value.int IntKind.u8 (4 : Int), Value.int IntKind.i32 (65342 : Int), Value.int IntKind.u8 (7 : Int), Value.int IntKind.i32 (65371 : Int), Value.int IntKind.u8 (3 : Int), Value.int IntKind.i32 (65372 : Int), Value.int IntKind.u8 (7 : Int), Value.int IntKind.i32 (65373 : Int), Value.int IntKind.u8 (4 : Int), Value.int IntKind.i32 (65374 : Int), Value.int IntKind.u8 (7 : Int), Value.int IntKind.i32 (65375 : Int), Value.int IntKind.u8 (3 : Int), Value.int IntKind.i32 (65376 : Int), Value.int IntKind.u8 (4 : Int), Value.int IntKind.i32 (65377 : Int), Value.int IntKind.u8 (0 : Int), Value.int IntKind.i32 (127744 : Int), Value.int IntKind.u8 (7 : Int), Value.int IntKind.i32 (129792 : Int), Value.int IntKind.u8 (0 : Int), Value.int IntKind.i32 (131072 : Int), Value.int IntKind.u8 (7 : Int), Value.int IntKind.i32 (262142 : Int), Value.int IntKind.u8 (0 : Int)] (121 : Nat)) b w1 → ∃ (g1 : GFind), #[Value.slice (some { block := b, off := (0 : Nat) }) (197 : Nat) (197 : Nat), Value.int IntKind.i32 g] = #[Value.slice (some { block := g1.b, off := (0 : Nat) }) g1.T.length g1.T.length, Value.int IntKind.i32 g1.r] ∧ (CellsT w1 g1.b g1.T ∧ (0 : Nat) < g1.T.length ∧ g1.T.length ≤ (1000 : Nat) ∧ boundsOk g1.T = true ∧ (g1.T.getD (0 : Nat) ((0 : Int), (0 : Int))).fst = (0 : Int)) ∧ ∀ (x : Int × Int) (w' : World), FindOk g1.T (knownF g1.r) x.fst x.snd ∧ Ext w1 w' → ∃ (x1 : Int × Int), Value.tuple #[Value.int IntKind.u8 x.fst, Value.int IntKind.i32 x.snd] = Value.tuple #[Value.int IntKind.u8 x1.fst, Value.int IntKind.i32 x1.snd] ∧ FindOk brkT (knownF g) x1.fst x1.snd ∧ Ext w w') :
    ((sTab brkT)).Ok Tryd.prog 100 :=
  ok_of_vc (sTab brkT) (annOf spFind) spFind (fun _ _ => rfl) (fun _ _ => rfl) hsp Tryd.func100 rfl (n := 1) (fun _ => rfl) (by kernel_rfl) (vcast (by kernel_rfl) h)

set_option maxRecDepth 1000000 in
theorem cbrk_vc (hsp : SpecsOk Tryd.prog spBreak) (h : ∀ (g : Int) (w : World), True → ∃ (g1 : Int), #[Value.int IntKind.i32 g] = #[Value.int IntKind.i32 g1] ∧ True ∧ ∀ (x : Int × Int) (w' : World), FindOk brkT (knownF g1) x.fst x.snd ∧ Ext w w' → InR IntKind.i8 x.fst ∧ ∃ (x1 : Int), Value.int IntKind.i8 x.fst = Value.int IntKind.i8 x1 ∧ x1 = brkR g ∧ Ext w w') :
    ((sRuneX .i8 brkR)).Ok Tryd.prog 64 :=
  ok_of_vc (sRuneX .i8 brkR) (annOf spBreak) spBreak (fun _ _ => rfl) (fun _ _ => rfl) hsp Tryd.func64 rfl (n := 1) (fun _ => rfl) (by kernel_rfl) (vcast (by kernel_rfl) h)

set_option maxRecDepth 1000000 in
theorem rwid_vc (hsp : SpecsOk Tryd.prog spKnown) (h : ∀ (g : Int) (w : World), True → ∃ (g1 : Int), #[Value.int IntKind.i32 g] = #[Value.int IntKind.i32 g1] ∧ True ∧ ∀ (x : Int) (w' : World), x = knownF g1 ∧ w' = w → bcase (decide (x ≤ (31 : Int)) || (decide (x ≥ (127 : Int)) && decide (x ≤ (159 : Int)) || (x == (173 : Int) || (x == (1564 : Int) || (decide (x ≥ (8203 : Int)) && decide (x ≤ (8207 : Int)) || (decide (x ≥ (8234 : Int)) && decide (x ≤ (8238 : Int)) || (decide (x ≥ (8288 : Int)) && decide (x ≤ (8297 : Int)) || (x == (65279 : Int) || (decide (x ≥ (768 : Int)) && decide (x ≤ (879 : Int)) || (decide (x ≥ (1155 : Int)) && decide (x ≤ (1161 : Int)) || (decide (x ≥ (1425 : Int)) && decide (x ≤ (1469 : Int)) || (x == (1471 : Int) || (decide (x ≥ (1473 : Int)) && decide (x ≤ (1474 : Int)) || (decide (x ≥ (1476 : Int)) && decide (x ≤ (1477 : Int)) || (x == (1479 : Int) || (decide (x ≥ (1552 : Int)) && decide (x ≤ (1562 : Int)) || (decide (x ≥ (1611 : Int)) && decide (x ≤ (1631 : Int)) || (x == (1648 : Int) || (decide (x ≥ (1750 : Int)) && decide (x ≤ (1756 : Int)) || (decide (x ≥ (1759 : Int)) && decide (x ≤ (1764 : Int)) || (decide (x ≥ (1767 : Int)) && decide (x ≤ (1768 : Int)) || (decide (x ≥ (1770 : Int)) && decide (x ≤ (1773 : Int)) || (x == (3633 : Int) || (decide (x ≥ (3636 : Int)) && decide (x ≤ (3642 : Int)) || (decide (x ≥ (3655 : Int)) && decide (x ≤ (3662 : Int)) || (decide (x ≥ (6832 : Int)) && decide (x ≤ (6911 : Int)) || (decide (x ≥ (7616 : Int)) && decide (x ≤ (7679 : Int)) || (decide (x ≥ (8400 : Int)) && decide (x ≤ (8447 : Int)) || (decide (x ≥ (12330 : Int)) && decide (x ≤ (12333 : Int)) || (decide (x ≥ (12441 : Int)) && decide (x ≤ (12442 : Int)) || (decide (x ≥ (65024 : Int)) && decide (x ≤ (65039 : Int)) || (decide (x ≥ (65056 : Int)) && decide (x ≤ (65071 : Int)) || decide (x ≥ (4448 : Int)) && decide (x ≤ (4607 : Int)))))))))))))))))))))))))))))))))) (∃ (x1 : Int), Value.int IntKind.i64 (0 : Int) = Value.int IntKind.i64 x1 ∧ x1 = widR g ∧ w' = w) (bcase (decide (x ≥ (4352 : Int)) && decide (x ≤ (4447 : Int)) || (decide (x ≥ (8986 : Int)) && decide (x ≤ (8987 : Int)) || (decide (x ≥ (9001 : Int)) && decide (x ≤ (9002 : Int)) || (decide (x ≥ (9193 : Int)) && decide (x ≤ (9203 : Int)) || (decide (x ≥ (9748 : Int)) && decide (x ≤ (9749 : Int)) || (decide (x ≥ (9800 : Int)) && decide (x ≤ (9811 : Int)) || (decide (x ≥ (9917 : Int)) && decide (x ≤ (9918 : Int)) || (x == (9989 : Int) || (x == (10060 : Int) || (decide (x ≥ (10067 : Int)) && decide (x ≤ (10071 : Int)) || (decide (x ≥ (10133 : Int)) && decide (x ≤ (10135 : Int)) || (x == (11088 : Int) || (decide (x ≥ (11904 : Int)) && decide (x ≤ (12350 : Int)) || (decide (x ≥ (12353 : Int)) && decide (x ≤ (19903 : Int)) || (decide (x ≥ (19968 : Int)) && decide (x ≤ (42191 : Int)) || (decide (x ≥ (44032 : Int)) && decide (x ≤ (55203 : Int)) || (decide (x ≥ (63744 : Int)) && decide (x ≤ (64255 : Int)) || (decide (x ≥ (65072 : Int)) && decide (x ≤ (65135 : Int)) ||
 (decide (x ≥ (65281 : Int)) && decide (x ≤ (65376 : Int)) || (decide (x ≥ (65504 : Int)) && decide (x ≤ (65510 : Int)) || (decide (x ≥ (127744 : Int)) && decide (x ≤ (128591 : Int)) || (decide (x ≥ (128640 : Int)) && decide (x ≤ (128767 : Int)) || (decide (x ≥ (129280 : Int)) && decide (x ≤ (129791 : Int)) || decide (x ≥ (131072 : Int)) && decide (x ≤ (262141 : Int))))))))))))))))))))))))) (∃ (x1 : Int), Value.int IntKind.i64 (2 : Int) = Value.int IntKind.i64 x1 ∧ x1 = widR g ∧ w' = w) (bcase (x == (161 : Int) || (x == (164 : Int) || (decide (x ≥ (167 : Int)) && decide (x ≤ (168 : Int)) || (x == (174 : Int) || (decide (x ≥ (176 : Int)) && decide (x ≤ (180 : Int)) || (decide (x ≥ (182 : Int)) && decide (x ≤ (186 : Int)) || (decide (x ≥ (188 : Int)) && decide (x ≤ (191 : Int)) || (x == (215 : Int) || (x == (247 : Int) || (decide (x ≥ (913 : Int)) && decide (x ≤ (937 : Int)) || (decide (x ≥ (945 : Int)) && decide (x ≤ (969 : Int)) || (decide (x ≥ (1040 : Int)) && decide (x ≤ (1103 : Int)) || (decide (x ≥ (8208 : Int)) && decide (x ≤ (8214 : Int)) || (decide (x ≥ (8216 : Int)) && decide (x ≤ (8221 : Int)) || (decide (x ≥ (8224 : Int)) && decide (x ≤ (8231 : Int)) || (decide (x ≥ (8240 : Int)) && decide (x ≤ (8251 : Int)) || (decide (x ≥ (8592 : Int)) && decide (x ≤ (8601 : Int)) || (decide (x ≥ (8704 : Int)) && decide (x ≤ (8959 : Int)) || (decide (x ≥ (9312 : Int)) && decide (x ≤ (9450 : Int)) || (decide (x ≥ (9472 : Int)) && decide (x ≤ (9675 : Int)) || (decide (x ≥ (9677 : Int)) && decide (x ≤ (9681 : Int)) || (decide (x ≥ (9733 : Int)) && decide (x ≤ (9734 : Int)) || (decide (x ≥ (9824 : Int)) && decide (x ≤ (9831 : Int)) || decide (x ≥ (57344 : Int)) && decide (x ≤ (63743 : Int))))))))))))))))))))))))) (∃ (x1 : Int), Value.int IntKind.i64 (3 : Int) = Value.int IntKind.i64 x1 ∧ x1 = widR g ∧ w' = w) (∃ (x1 : Int), Value.int IntKind.i64 (1 : Int) = Value.int IntKind.i64 x1 ∧ x1 = widR g ∧ w' = w)))) :
    ((sRune .i64 widR)).Ok Tryd.prog 139 :=
  ok_of_vc (sRune .i64 widR) (annOf spKnown) spKnown (fun _ _ => rfl) (fun _ _ => rfl) hsp Tryd.func139 rfl (n := 1) (fun _ => rfl) (by kernel_rfl) (vcast (by kernel_rfl) h)

set_option maxRecDepth 1000000 in
theorem wids_vc (hsp : SpecsOk Tryd.prog spFind) (h : ∀ (g : Int) (w : World), True → ∀ (b : Nat) (w1 : World), New w (Obj.cells #[Value.int IntKind.i32 (0 : Int), Value.int IntKind.u8 (0 : Int), Value.int IntKind.i32 (32 : Int), Value.int IntKind.u8 (1 : Int), Value.int IntKind.i32 (127 : Int), Value.int IntKind.u8 (0 : Int), Value.int IntKind.i32 (160 : Int), Value.int IntKind.u8 (1 : Int), Value.int IntKind.i32 (161 : Int), Value.int IntKind.u8 (3 : Int), Value.int IntKind.i32 (162 : Int), Value.int IntKind.u8 (1 : Int), Value.int IntKind.i32 (164 : Int), Value.int IntKind.u8 (3 : Int), Value.int IntKind.i32 (165 : Int), Value.int IntKind.u8 (1 : Int), Value.int IntKind.i32 (167 : Int), Value.int IntKind.u8 (3 : Int), Value.int IntKind.i32 (169 : Int), Value.int IntKind.u8 (1 : Int), Value.int IntKind.i32 (173 : Int), Value.int IntKind.u8 (0 : Int), Value.int IntKind.i32 (174 : Int), Value.int IntKind.u8 (3 : Int), Value.int IntKind.i32 (175 : Int), Value.int IntKind.u8 (1 : Int), Value.int IntKind.i32 (176 : Int), Value.int IntKind.u8 (3 : Int), Value.int IntKind.i32 (181 : Int), Value.int IntKind.u8 (1 : Int), Value.int IntKind.i32 (182 : Int), Value.int IntKind.u8 (3 : Int), Value.int IntKind.i32 (187 : Int), Value.int IntKind.u8 (1 : Int), Value.int IntKind.i32 (188 : Int), Value.int IntKind.u8 (3 : Int), Value.int IntKind.i32 (192 : Int), Value.int IntKind.u8 (1 : Int), Value.int IntKind.i32 (215 : Int), Value.int IntKind.u8 (3 : Int), Value.int IntKind.i32 (216 : Int), Value.int IntKind.u8 (1 : Int), Value.int IntKind.i32 (247 : Int), Value.int IntKind.u8 (3 : Int), Value.int IntKind.i32 (248 : Int), Value.int IntKind.u8 (1 : Int), Value.int IntKind.i32 (768 : Int), Value.int IntKind.u8 (0 : Int), Value.int IntKind.i32 (880 : Int), Value.int IntKind.u8 (1 : Int), Value.int IntKind.i32 (913 : Int), Value.int IntKind.u8 (3 : Int), Value.int IntKind.i32 (938 : Int), Value.int IntKind.u8 (1 : Int), Value.int IntKind.i32 (945 : Int), Value.int IntKind.u8 (3 : Int), Value.int IntKind.i32 (970 : Int), Value.int IntKind.u8 (1 : Int), Value.int IntKind.i32 (1040 : Int), Value.int IntKind.u8 (3 : Int), Value.int IntKind.i32 (1104 : Int), Value.int IntKind.u8 (1 : Int), Value.int IntKind.i32 (1155 : Int), Value.int IntKind.u8 (0 : Int), Value.int IntKind.i32 (1162 : Int), Value.int IntKind.u8 (1 : Int), Value.int IntKind.i32 (1425 : Int), Value.int IntKind.u8 (0 : Int), Value.int IntKind.i32 (1470 : Int), Value.int IntKind.u8 (1 : Int), Value.int IntKind.i32 (1471 : Int), Value.int IntKind.u8 (0 : Int), Value.int IntKind.i32 (1472 : Int), Value.int IntKind.u8 (1 : Int), Value.int IntKind.i32 (1473 : Int), Value.int IntKind.u8 (0 : Int), Value.int IntKind.i32 (1475 : Int), Value.int IntKind.u8 (1 : Int), Value.int IntKind.i32 (1476 : Int), Value.int IntKind.u8 (0 : Int), Value.int IntKind.i32 (1478 : Int), Value.int IntKind.u8 (1 : Int), Value.int IntKind.i32 (1479 : Int), Value.int IntKind.u8 (0 : Int),
 Value.int IntKind.i32 (1480 : Int), Value.int IntKind.u8 (1 : Int), Value.int IntKind.i32 (1552 : Int), Value.int IntKind.u8 (0 : Int), Value.int IntKind.i32 (1563 : Int), Value.int IntKind.u8 (1 : Int), Value.int IntKind.i32 (1564 : Int), Value.int IntKind.u8 (0 : Int), Value.int IntKind.i32 (1565 : Int), Value.int IntKind.u8 (1 : Int), Value.int IntKind.i32 (1611 : Int), Value.int IntKind.u8 (0 : Int), Value.int IntKind.i32 (1632 : Int), Value.int IntKind.u8 (1 : Int), Value.int IntKind.i32 (1648 : Int), Value.int IntKind.u8 (0 : Int), Value.int IntKind.i32 (1649 : Int), Value.int IntKind.u8 (1 : Int), Value.int IntKind.i32 (1750 : Int), Value.int IntKind.u8 (0 : Int), Value.int IntKind.i32 (1757 : Int), Value.int IntKind.u8 (1 : Int), Value.int IntKind.i32 (1759 : Int), Value.int IntKind.u8 (0 : Int), Value.int IntKind.i32 (1765 : Int), Value.int IntKind.u8 (1 : Int), Value.int IntKind.i32 (1767 : Int), Value.int IntKind.u8 (0 : Int), Value.int IntKind.i32 (1769 : Int), Value.int IntKind.u8 (1 : Int), Value.int IntKind.i32 (1770 : Int), Value.int IntKind.u8 (0 : Int), Value.int IntKind.i32 (1774 : Int), Value.int IntKind.u8 (1 : Int), Value.int IntKind.i32 (3633 : Int), Value.int IntKind.u8 (0 : Int), Value.int IntKind.i32 (3634 : Int), Value.int IntKind.u8 (1 : Int), Value.int IntKind.i32 (3636 : Int), Value.int IntKind.u8 (0 : Int), Value.int IntKind.i32 (3643 : Int), Value.int IntKind.u8 (1 : Int), Value.int IntKind.i32 (3655 : Int), Value.int IntKind.u8 (0 : Int), Value.int IntKind.i32 (3663 : Int), Value.int IntKind.u8 (1 : Int), Value.int IntKind.i32 (4352 : Int), Value.int IntKind.u8 (2 : Int), Value.int IntKind.i32 (4448 : Int), Value.int IntKind.u8 (0 : Int), Value.int IntKind.i32 (4608 : Int), Value.int IntKind.u8 (1 : Int), Value.int IntKind.i32 (6832 : Int), Value.int IntKind.u8 (0 : Int), Value.int IntKind.i32 (6912 : Int), Value.int IntKind.u8 (1 : Int), Value.int IntKind.i32 (7616 : Int), Value.int IntKind.u8 (0 : Int), Value.int IntKind.i32 (7680 : Int), Value.int IntKind.u8 (1 : Int), Value.int IntKind.i32 (8203 : Int), Value.int IntKind.u8 (0 : Int), Value.int IntKind.i32 (8208 : Int), Value.int IntKind.u8 (3 : Int), Value.int IntKind.i32 (8215 : Int), Value.int IntKind.u8 (1 : Int), Value.int IntKind.i32 (8216 : Int), Value.int IntKind.u8 (3 : Int), Value.int IntKind.i32 (8222 : Int), Value.int IntKind.u8 (1 : Int), Value.int IntKind.i32 (8224 : Int), Value.int IntKind.u8 (3 : Int), Value.int IntKind.i32 (8232 : Int), Value.int IntKind.u8 (1 : Int), Value.int IntKind.i32 (8234 : Int), Value.int IntKind.u8 (0 : Int), Value.int IntKind.i32 (8239 : Int), Value.int IntKind.u8 (1 : Int), Value.int IntKind.i32 (8240 : Int), Value.int IntKind.u8 (3 : Int), Value.int IntKind.i32 (8252 : Int), Value.int IntKind.u8 (1 : Int), Value.int IntKind.i32 (8288 : Int), Value.int IntKind.u8 (0 : Int), Value.int IntKind.i32 (8298 : Int), Value.int IntKind.u8 (1 : Int), Value.int IntKind.i32 (8400 : Int),
 Value.int IntKind.u8 (0 : Int), Value.int IntKind.i32 (8448 : Int), Value.int IntKind.u8 (1 : Int), Value.int IntKind.i32 (8592 : Int), Value.int IntKind.u8 (3 : Int), Value.int IntKind.i32 (8602 : Int), Value.int IntKind.u8 (1 : Int), Value.int IntKind.i32 (8704 : Int), Value.int IntKind.u8 (3 : Int), Value.int IntKind.i32 (8960 : Int), Value.int IntKind.u8 (1 : Int), Value.int IntKind.i32 (8986 : Int), Value.int IntKind.u8 (2 : Int), Value.int IntKind.i32 (8988 : Int), Value.int IntKind.u8 (1 : Int), Value.int IntKind.i32 (9001 : Int), Value.int IntKind.u8 (2 : Int), Value.int IntKind.i32 (9003 : Int), Value.int IntKind.u8 (1 : Int), Value.int IntKind.i32 (9193 : Int), Value.int IntKind.u8 (2 : Int), Value.int IntKind.i32 (9204 : Int), Value.int IntKind.u8 (1 : Int), Value.int IntKind.i32 (9312 : Int), Value.int IntKind.u8 (3 : Int), Value.int IntKind.i32 (9451 : Int), Value.int IntKind.u8 (1 : Int), Value.int IntKind.i32 (9472 : Int), Value.int IntKind.u8 (3 : Int), Value.int IntKind.i32 (9676 : Int), Value.int IntKind.u8 (1 : Int), Value.int IntKind.i32 (9677 : Int), Value.int IntKind.u8 (3 : Int), Value.int IntKind.i32 (9682 : Int), Value.int IntKind.u8 (1 : Int), Value.int IntKind.i32 (9733 : Int), Value.int IntKind.u8 (3 : Int), Value.int IntKind.i32 (9735 : Int), Value.int IntKind.u8 (1 : Int), Value.int IntKind.i32 (9748 : Int), Value.int IntKind.u8 (2 : Int), Value.int IntKind.i32 (9750 : Int), Value.int IntKind.u8 (1 : Int), Value.int IntKind.i32 (9800 : Int), Value.int IntKind.u8 (2 : Int), Value.int IntKind.i32 (9812 : Int), Value.int IntKind.u8 (1 : Int), Value.int IntKind.i32 (9824 : Int), Value.int IntKind.u8 (3 : Int), Value.int IntKind.i32 (9832 : Int), Value.int IntKind.u8 (1 : Int), Value.int IntKind.i32 (9917 : Int), Value.int IntKind.u8 (2 : Int), Value.int IntKind.i32 (9919 : Int), Value.int IntKind.u8 (1 : Int), Value.int IntKind.i32 (9989 : Int), Value.int IntKind.u8 (2 : Int), Value.int IntKind.i32 (9990 : Int), Value.int IntKind.u8 (1 : Int), Value.int IntKind.i32 (10060 : Int), Value.int IntKind.u8 (2 : Int), Value.int IntKind.i32 (10061 : Int), Value.int IntKind.u8 (1 : Int), Value.int IntKind.i32 (10067 : Int), Value.int IntKind.u8 (2 : Int), Value.int IntKind.i32 (10072 : Int), Value.int IntKind.u8 (1 : Int), Value.int IntKind.i32 (10133 : Int), Value.int IntKind.u8 (2 : Int), Value.int IntKind.i32 (10136 : Int), Value.int IntKind.u8 (1 : Int), Value.int IntKind.i32 (11088 : Int), Value.int IntKind.u8 (2 : Int), Value.int IntKind.i32 (11089 : Int), Value.int IntKind.u8 (1 : Int), Value.int IntKind.i32 (11904 : Int), Value.int IntKind.u8 (2 : Int), Value.int IntKind.i32 (12330 : Int), Value.int IntKind.u8 (0 : Int), Value.int IntKind.i32 (12334 : Int), Value.int IntKind.u8 (2 : Int), Value.int IntKind.i32 (12351 : Int), Value.int IntKind.u8 (1 : Int), Value.int IntKind.i32 (12353 : Int), Value.int IntKind.u8 (2 : Int), Value.int IntKind.i32 (12441 : Int), Value.int IntKind.u8 (0 : Int),
 Value.int IntKind.i32 (12443 : Int), Value.int IntKind.u8 (2 : Int), Value.int IntKind.i32 (19904 : Int), Value.int IntKind.u8 (1 : Int), Value.int IntKind.i32 (19968 : Int), Value.int IntKind.u8 (2 : Int), Value.int IntKind.i32 (42192 : Int), Value.int IntKind.u8 (1 : Int), Value.int IntKind.i32 (44032 : Int), Value.int IntKind.u8 (2 : Int), Value.int IntKind.i32 (55204 : Int), Value.int IntKind.u8 (1 : Int), Value.int IntKind.i32 (57344 : Int), Value.int IntKind.u8 (3 : Int), Value.int IntKind.i32 (63744 : Int), Value.int IntKind.u8 (2 : Int), Value.int IntKind.i32 (64256 : Int), Value.int IntKind.u8 (1 : Int), Value.int IntKind.i32 (65024 : Int), Value.int IntKind.u8 (0 : Int), Value.int IntKind.i32 (65040 : Int), Value.int IntKind.u8 (1 : Int), Value.int IntKind.i32 (65056 : Int), Value.int IntKind.u8 (0 : Int), Value.int IntKind.i32 (65072 : Int), Value.int IntKind.u8 (2 : Int), Value.int IntKind.i32 (65136 : Int), Value.int IntKind.u8 (1 : Int), Value.int IntKind.i32 (65279 : Int), Value.int IntKind.u8 (0 : Int), Value.int IntKind.i32 (65280 : Int), Value.int IntKind.u8 (1 : Int), Value.int IntKind.i32 (65281 : Int), Value.int IntKind.u8 (2 : Int), Value.int IntKind.i32 (65377 : Int), Value.int IntKind.u8 (1 : Int), Value.int IntKind.i32 (65504 : Int), Value.int IntKind.u8 (2 : Int), Value.int IntKind.i32 (65511 : Int), Value.int IntKind.u8 (1 : Int), Value.int IntKind.i32 (127744 : Int), Value.int IntKind.u8 (2 : Int), Value.int IntKind.i32 (128592 : Int), Value.int IntKind.u8 (1 : Int), Value.int IntKind.i32 (128640 : Int), Value.int IntKind.u8 (2 : Int), Value.int IntKind.i32 (128768 : Int), Value.int IntKind.u8 (1 : Int), Value.int IntKind.i32 (129280 : Int), Value.int IntKind.u8 (2 : Int), Value.int IntKind.i32 (129792 : Int), Value.int IntKind.u8 (1 : Int), Value.int IntKind.i32 (131072 : Int), Value.int IntKind.u8 (2 : Int), Value.int IntKind.i32 (262142 : Int), Value.int IntKind.u8 (1 : Int)] (147 : Nat)) b w1 → ∃ (g1 : GFind), #[Value.slice (some { block := b, off := (0 : Nat) }) (157 : Nat) (157 : Nat), Value.int IntKind.i32 g] = #[Value.slice (some { block := g1.b, off := (0 : Nat) }) g1.T.length g1.T.length, Value.int IntKind.i32 g1.r] ∧ (CellsT w1 g1.b g1.T ∧ (0 : Nat) < g1.T.length ∧ g1.T.length ≤ (1000 : Nat) ∧ boundsOk g1.T = true ∧ (g1.T.getD (0 : Nat) ((0 : Int), (0 : Int))).fst = (0 : Int)) ∧ ∀ (x : Int × Int) (w' : World), FindOk g1.T (knownF g1.r) x.fst x.snd ∧ Ext w1 w' → ∃ (x1 : Int × Int), Value.tuple #[Value.int IntKind.u8 x.fst, Value.int IntKind.i32 x.snd] = Value.tuple #[Value.int IntKind.u8 x1.fst, Value.int IntKind.i32 x1.snd] ∧ FindOk widT (knownF g) x1.fst x1.snd ∧ Ext w w') :
    ((sTab widT)).Ok Tryd.prog 137 :=
  ok_of_vc (sTab widT) (annOf spFind) spFind (fun _ _ => rfl) (fun _ _ => rfl) hsp Tryd.func137 rfl (n := 1) (fun _ => rfl) (by kernel_rfl) (vcast (by kernel_rfl) h)

set_option maxRecDepth 1000000 in
theorem rwide_vc (hsp : SpecsOk Tryd.prog spCol) (h : ∀ (g : Int × Bool) (w : World), True → ∃ (g1 : Int), #[Value.int IntKind.i32 g.fst] = #[Value.int IntKind.i32 g1] ∧ True ∧ ∀ (x : Int) (w' : World), x = widR g1 ∧ w' = w → bcase (x == (3 : Int)) (bcase g.snd (∃ (x1 : Int), Value.int IntKind.i64 (2 : Int) = Value.int IntKind.i64 x1 ∧ x1 = wideR g.fst g.snd ∧ w' = w) (∃ (x1 : Int), Value.int IntKind.i64 (1 : Int) = Value.int IntKind.i64 x1 ∧ x1 = wideR g.fst g.snd ∧ w' = w)) (∃ (x1 : Int), Value.int IntKind.i64 x = Value.int IntKind.i64 x1 ∧ x1 = wideR g.fst g.snd ∧ w' = w)) :
    ((sWide (fun w w' => w' = w))).Ok Tryd.prog 122 :=
  ok_of_vc (sWide (fun w w' => w' = w)) (annOf spCol) spCol (fun _ _ => rfl) (fun _ _ => rfl) hsp Tryd.func122 rfl (n := 2) (fun _ => rfl) (by kernel_rfl) (vcast (by kernel_rfl) h)

set_option maxRecDepth 1000000 in
theorem cwide_vc (hsp : SpecsOk Tryd.prog spWid) (h : ∀ (g : Int × Bool) (w : World), True → ∃ (g1 : Int), #[Value.int IntKind.i32 g.fst] = #[Value.int IntKind.i32 g1] ∧ True ∧ ∀ (x : Int × Int) (w' : World), FindOk widT (knownF g1) x.fst x.snd ∧ Ext w w' → bcase (decide (x.fst < (3 : Int))) (InR IntKind.i64 x.fst ∧ ∃ (x1 : Int), Value.int IntKind.i64 x.fst = Value.int IntKind.i64 x1 ∧ x1 = wideR g.fst g.snd ∧ Ext w w') (bcase g.snd (∃ (x1 : Int), Value.int IntKind.i64 (2 : Int) = Value.int IntKind.i64 x1 ∧ x1 = wideR g.fst g.snd ∧ Ext w w') (∃ (x1 : Int), Value.int IntKind.i64 (1 : Int) = Value.int IntKind.i64 x1 ∧ x1 = wideR g.fst g.snd ∧ Ext w w'))) :
    ((sWide (fun w w' => Ext w w'))).Ok Tryd.prog 114 :=
  ok_of_vc (sWide (fun w w' => Ext w w')) (annOf spWid) spWid (fun _ _ => rfl) (fun _ _ => rfl) hsp Tryd.func114 rfl (n := 2) (fun _ => rfl) (by kernel_rfl) (vcast (by kernel_rfl) h)

end Go.Proofs.YthpjkgoahneldaaDoor
end

section
/-
  Chapter 2's tables: the reference's functions and the program's both give the number that the table says.
-/
namespace Go.Proofs.YthpjkgoahneldaaDoor
open Go Go.RowKit Vc Tb Cl

theorem known_ok : (sRune .i32 knownF).Ok Tryd.prog 128 := by
  refine known_vc trivial ?_
  intro g w _
  refine bcase_mk (fun h => ⟨_, rfl, ?_, rfl⟩) (fun h => ⟨_, rfl, ?_, rfl⟩)
  · unfold knownF; rw [h]
  · unfold knownF; rw [h]

def chainC (L : List (List RC × Int)) (K : Int → Prop) (d x : Int) : Prop := match L with
  | [] => K d
  | (c, v) :: l => bcase (anyC c x) (K v) (chainC l K d x)
theorem chainC_mk {L : List (List RC × Int)} {K : Int → Prop} {d x : Int} (h : K (lookC L d x)) : chainC L K d x := by
  induction L with
  | nil => exact h
  | cons p l ih =>
    obtain ⟨c, v⟩ := p
    simp only [lookC] at h
    simp only [chainC]
    cases hb : anyC c x with
    | true => rw [hb] at h; exact h
    | false => rw [hb] at h; exact ih h

theorem bounds_at {T : List (Int × Int)} (h : boundsOk T = true) (j : Nat) : 0 ≤ (T.getD j (0, 0)).1 ∧ (T.getD j (0, 0)).1 ≤ 1114111 ∧ 0 ≤ (T.getD j (0, 0)).2 ∧ (T.getD j (0, 0)).2 ≤ 255 := by
  by_cases hj : j < T.length
  · have h1 := List.all_eq_true.1 h T[j] (List.getElem_mem hj)
    simp only [Bool.and_eq_true, decide_eq_true_eq] at h1
    rw [List.getD_eq_getElem?_getD, List.getElem?_eq_getElem hj]
    exact ⟨h1.1.1.1, h1.1.1.2, h1.1.2, h1.2⟩
  · rw [List.getD_eq_getElem?_getD, List.getElem?_eq_none (by omega)]
    simp

theorem find_ok : sFind.Ok Tryd.prog 130 := by
  refine find_vc trivial ?_
  rintro ⟨b, T, r⟩ w ⟨hc, hpos, hlen, hbd, h0⟩
  have hk := knownF_bd r
  dsimp only at hc hpos hlen hbd h0 ⊢
  refine ⟨bcase_mk (fun h => ⟨(), ?_, rfl⟩) (fun h => ⟨(), ?_, rfl⟩), ?_⟩
  · unfold knownF; rw [h]
  · unfold knownF; rw [h]
  generalize knownF r = q at hk ⊢
  rintro _ _ w' rfl
  refine ⟨⟨(0, T.length), rfl, rfl, hpos, Nat.le_refl _, by rw [h0]; exact hk.1, .inl rfl, rfl⟩, ?_⟩
  rintro _ ⟨lo, hi⟩ w2 ⟨h1, h2, h3, h4, rfl⟩
  dsimp only at h1 h2 h3 h4 ⊢
  refine ⟨inr_i64 (by omega) (by omega), bcase_mk (fun h => ?_) (fun h => ?_)⟩
  · simp only [gt_iff_lt, decide_eq_true_eq] at h
    refine ⟨inr_i64 (by omega) (by omega), by omega, by omega, inr_i64 (by omega) (by omega), (lo + hi) / 2, by omega, by omega, ?_⟩
    have hm : (lo + hi) / 2 < T.length := by omega
    refine ⟨_, (hc _ hm).1, bcase_mk (fun h => ?_) (fun h => ?_)⟩
    · simp only [gt_iff_lt, decide_eq_true_eq] at h
      exact ⟨(lo, (lo + hi) / 2), rfl, by simp, ⟨by dsimp only; omega, by dsimp only; omega, h3, .inr h, rfl⟩, by dsimp only; omega⟩
    · simp only [gt_iff_lt, decide_eq_false_iff_not] at h
      exact ⟨((lo + hi) / 2, hi), by simp, rfl, ⟨by dsimp only; omega, by dsimp only; omega, Int.not_lt.1 h, h4, rfl⟩, by dsimp only; omega⟩
  · simp only [gt_iff_lt, decide_eq_false_iff_not] at h
    have hlo : lo < T.length := by omega
    have hhi : hi = lo + 1 := by omega
    subst hhi
    refine bcase_mk (fun h => ?_) (fun h => ?_)
    · simp only [decide_eq_true_eq] at h
      have hh : lo + 1 < T.length := by omega
      have hb := bounds_at hbd (lo + 1)
      refine fun w3 hw3 => ⟨lo, rfl, hlo, _, (hc _ hlo).2, lo + 1, rfl, hh, _, (hc _ hh).1, inr_i32 (by omega) (by omega), (_, _), rfl, ⟨lo, hlo, h3, rfl, .inr ⟨hh, ?_, rfl⟩⟩, hw3.ext⟩
      rcases h4 with h4 | h4
      · omega
      · exact h4
    · simp only [decide_eq_false_iff_not] at h
      refine ⟨lo, rfl, hlo, _, (hc _ hlo).2, (_, _), rfl, ⟨lo, hlo, h3, rfl, .inl ⟨by omega, rfl⟩⟩, Ext.refl _⟩

/-- The cells of a table that was laid out in a block. -/
def tblCells (T : List (Int × Int)) : List Value := match T with
  | [] => []
  | (a, v) :: r => .int .i32 a :: .int .u8 v :: tblCells r

theorem tblCells_at {T : List (Int × Int)} {j : Nat} (hj : j < T.length) : (tblCells T)[j * 2]? = some (.int .i32 (T.getD j (0, 0)).1) ∧ (tblCells T)[j * 2 + 1]? = some (.int .u8 (T.getD j (0, 0)).2) := by
  induction T generalizing j with
  | nil => simp at hj
  | cons p r ih =>
    obtain ⟨a, v⟩ := p
    cases j with
    | zero => simp [tblCells]
    | succ j =>
      have := ih (j := j) (by simpa using hj)
      rw [show (j + 1) * 2 = j * 2 + 1 + 1 from by omega]
      simpa [tblCells] using this

theorem tbl_new {w w1 : World} {T : List (Int × Int)} {e : TypeId} {b : Nat} {cs : Array Value} (h : New w (.cells cs e) b w1) (hcs : cs.toList = tblCells T) : CellsT w1 b T := by
  intro j hj
  have := tblCells_at hj
  rw [← hcs] at this
  constructor
  · rw [h.cell, Nat.zero_add, ← Array.getElem?_toList]; exact this.1
  · rw [h.cell, Nat.zero_add, ← Array.getElem?_toList]; exact this.2

theorem small_val {T : List (Int × Int)} {r u t : Int} (hs : smallOk T = true) (h : FindOk T r u t) : 0 ≤ u ∧ u ≤ 127 := by
  obtain ⟨j, h1, _, rfl, _⟩ := h
  have h2 := List.all_eq_true.1 hs T[j] (List.getElem_mem h1)
  simp only [Bool.and_eq_true, decide_eq_true_eq] at h2
  rw [List.getD_eq_getElem?_getD, List.getElem?_eq_getElem h1]
  exact h2

set_option maxRecDepth 20000 in
theorem rkind_ok : (sRune .i8 kindR).Ok Tryd.prog 102 := by
  refine rkind_vc ⟨known_ok, trivial⟩ ?_
  intro g w _
  refine ⟨g, rfl, trivial, ?_⟩
  rintro x w' ⟨rfl, rfl⟩
  exact chainC_mk (L := kindL) (d := kindD) (K := fun v => ∃ x1 : Int, Value.int .i8 v = Value.int .i8 x1 ∧ x1 = kindR g ∧ w' = w') ⟨_, rfl, rfl, rfl⟩
set_option maxRecDepth 20000 in
theorem kinds_ok : (sTab kindT).Ok Tryd.prog 106 := by
  refine kinds_vc ⟨find_ok, trivial⟩ ?_
  intro g w _ b w1 hn
  refine ⟨⟨b, kindT, g⟩, rfl, ⟨tbl_new hn rfl, (by decide +kernel : 0 < kindT.length), (by decide +kernel : kindT.length ≤ 1000), (by decide +kernel : boundsOk kindT = true), rfl⟩, ?_⟩
  rintro ⟨u, t⟩ w2 ⟨h1, h2⟩
  exact ⟨(u, t), rfl, h1, hn.ext.trans h2⟩
set_option maxRecDepth 20000 in
theorem rwid_ok : (sRune .i64 widR).Ok Tryd.prog 139 := by
  refine rwid_vc ⟨known_ok, trivial⟩ ?_
  intro g w _
  refine ⟨g, rfl, trivial, ?_⟩
  rintro x w' ⟨rfl, rfl⟩
  exact chainC_mk (L := widL) (d := widD) (K := fun v => ∃ x1 : Int, Value.int .i64 v = Value.int .i64 x1 ∧ x1 = widR g ∧ w' = w') ⟨_, rfl, rfl, rfl⟩
set_option maxRecDepth 20000 in
theorem wids_ok : (sTab widT).Ok Tryd.prog 137 := by
  refine wids_vc ⟨find_ok, trivial⟩ ?_
  intro g w _ b w1 hn
  refine ⟨⟨b, widT, g⟩, rfl, ⟨tbl_new hn rfl, (by decide +kernel : 0 < widT.length), (by decide +kernel : widT.length ≤ 1000), (by decide +kernel : boundsOk widT = true), rfl⟩, ?_⟩
  rintro ⟨u, t⟩ w2 ⟨h1, h2⟩
  exact ⟨(u, t), rfl, h1, hn.ext.trans h2⟩
set_option maxRecDepth 20000 in
theorem rbrk_ok : (sRune .i8 brkR).Ok Tryd.prog 87 := by
  refine rbrk_vc ⟨known_ok, trivial⟩ ?_
  intro g w _
  refine ⟨g, rfl, trivial, ?_⟩
  rintro x w' ⟨rfl, rfl⟩
  exact chainC_mk (L := brkL) (d := brkD) (K := fun v => ∃ x1 : Int, Value.int .i8 v = Value.int .i8 x1 ∧ x1 = brkR g ∧ w' = w') ⟨_, rfl, rfl, rfl⟩
set_option maxRecDepth 20000 in
theorem brks_ok : (sTab brkT).Ok Tryd.prog 100 := by
  refine brks_vc ⟨find_ok, trivial⟩ ?_
  intro g w _ b w1 hn
  refine ⟨⟨b, brkT, g⟩, rfl, ⟨tbl_new hn rfl, (by decide +kernel : 0 < brkT.length), (by decide +kernel : brkT.length ≤ 1000), (by decide +kernel : boundsOk brkT = true), rfl⟩, ?_⟩
  rintro ⟨u, t⟩ w2 ⟨h1, h2⟩
  exact ⟨(u, t), rfl, h1, hn.ext.trans h2⟩
theorem ckind_ok : (sRuneX .i8 kindR).Ok Tryd.prog 75 := by
  refine ckind_vc ⟨kinds_ok, trivial⟩ ?_
  intro g w _
  refine ⟨g, rfl, trivial, ?_⟩
  rintro ⟨u, t⟩ w' ⟨h1, h2⟩
  have hs := small_val (by decide +kernel) h1
  exact ⟨inr_i8 (by dsimp only at hs ⊢; omega) (by dsimp only at hs ⊢; omega), u, rfl, h1.val kind_agree, h2⟩
theorem cbrk_ok : (sRuneX .i8 brkR).Ok Tryd.prog 64 := by
  refine cbrk_vc ⟨brks_ok, trivial⟩ ?_
  intro g w _
  refine ⟨g, rfl, trivial, ?_⟩
  rintro ⟨u, t⟩ w' ⟨h1, h2⟩
  have hs := small_val (by decide +kernel) h1
  exact ⟨inr_i8 (by dsimp only at hs ⊢; omega) (by dsimp only at hs ⊢; omega), u, rfl, h1.val brk_agree, h2⟩
theorem wid_small {r u t : Int} (h : FindOk widT (knownF r) u t) : 0 ≤ u ∧ u ≤ 3 := by
  obtain ⟨j, h1, _, rfl, _⟩ := h
  have h2 : widT.all (fun p => decide (0 ≤ p.2) && decide (p.2 ≤ 3)) = true := by decide +kernel
  have h3 := List.all_eq_true.1 h2 widT[j] (List.getElem_mem h1)
  simp only [Bool.and_eq_true, decide_eq_true_eq] at h3
  rw [List.getD_eq_getElem?_getD, List.getElem?_eq_getElem h1]
  exact h3
theorem rwide_ok : (sWide (fun w w' => w' = w)).Ok Tryd.prog 122 := by
  refine rwide_vc ⟨rwid_ok, trivial⟩ ?_
  rintro ⟨r, b⟩ w _
  refine ⟨r, rfl, trivial, ?_⟩
  rintro x w' ⟨rfl, rfl⟩
  have hd : widR r = 0 ∨ widR r = 1 ∨ widR r = 2 ∨ widR r = 3 := by
    have h2 : (widL.all (fun p => decide (p.2 = 0 ∨ p.2 = 1 ∨ p.2 = 2 ∨ p.2 = 3))) = true := by decide +kernel
    have : ∀ (l : List (List RC × Int)) (q : Int), l.all (fun p => decide (p.2 = 0 ∨ p.2 = 1 ∨ p.2 = 2 ∨ p.2 = 3)) = true → lookC l 1 q = 0 ∨ lookC l 1 q = 1 ∨ lookC l 1 q = 2 ∨ lookC l 1 q = 3 := by
      intro l q hl
      induction l with
      | nil => simp [lookC]
      | cons p l ih =>
        obtain ⟨c, v⟩ := p
        simp only [List.all_cons, Bool.and_eq_true, decide_eq_true_eq] at hl
        simp only [lookC]
        split
        · exact hl.1
        · exact ih hl.2
    exact this widL (knownF r) h2
  refine bcase_mk (fun h => ?_) (fun h => ⟨_, rfl, ?_, rfl⟩)
  · have h3 : widR r = 3 := by simpa using h
    refine bcase_mk (fun hb => ⟨_, rfl, ?_, rfl⟩) (fun hb => ⟨_, rfl, ?_, rfl⟩)
    · have hb : b = true := hb
      show _ = wideR r b
      unfold wideR; rw [h3, hb]; rfl
    · have hb : b = false := hb
      show _ = wideR r b
      unfold wideR; rw [h3, hb]; rfl
  · have h3 : widR r ≠ 3 := by simpa using h
    show _ = wideR r b
    unfold wideR; rw [if_pos (by omega)]
theorem cwide_ok : (sWide (fun w w' => Ext w w')).Ok Tryd.prog 114 := by
  refine cwide_vc ⟨wids_ok, trivial⟩ ?_
  rintro ⟨r, b⟩ w _
  refine ⟨r, rfl, trivial, ?_⟩
  rintro ⟨u, t⟩ w' ⟨h1, h2⟩
  have hs := wid_small h1
  have hv : u = widR r := h1.val wid_agree
  dsimp only at hs ⊢
  refine bcase_mk (fun h => ?_) (fun h => ?_)
  · have h : u < 3 := by simpa using h
    exact ⟨inr_i64 (by omega) (by omega), _, rfl, by show _ = wideR r b; unfold wideR; rw [← hv, if_pos h], h2⟩
  · have h : ¬ u < 3 := by simpa using h
    refine bcase_mk (fun hb => ⟨_, rfl, ?_, h2⟩) (fun hb => ⟨_, rfl, ?_, h2⟩)
    · have hb : b = true := hb
      show _ = wideR r b
      unfold wideR; rw [← hv, if_neg h, hb]; rfl
    · have hb : b = false := hb
      show _ = wideR r b
      unfold wideR; rw [← hv, if_neg h, hb]; rfl


end Go.Proofs.YthpjkgoahneldaaDoor
end
