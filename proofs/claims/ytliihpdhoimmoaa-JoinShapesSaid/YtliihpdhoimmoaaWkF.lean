/-
  Chapter 11: two answers that are alike share nothing: 'fresh' meets its specification.
-/
import Derived.Test.YtliihpdhoimmoaaWkE
set_option linter.unusedVariables false
set_option linter.unusedSimpArgs false
namespace Go.Proofs.Ytliihpdhoimmoaa
open Go Go.RowKit Vc Tb

theorem grown_keep {w0 w w2 : World} {e : TypeId} {v : Value} {b y : Option Addr} {n m cy : Nat} {S : Nat → Prop} (h : Grown1 w0 w e v b n y m cy) (hf : Fr S w w2) (hy : ∀ q, blk y = some q → ¬ S q) (hb : ∀ q, blk b = some q → ¬ S q) : Grown1 w0 w2 e v b n y m cy :=
  ⟨h.1.fr hf hy, h.2.1.fr hf hb, h.2.2⟩

theorem grown_step {P : Program} {t ty e : TypeId} {bytes : Nat} (hE : ElemOk P t e 1 bytes) {w0 w w1 : World} {v : Value} {a x : Option Addr} {n m cx b : Nat} (h : Grown1 w0 w e v a n x m cx) (hn : New w (.cells #[v] e) b w1) (hv : v.oneCell' = true)
    (hnm : n ≤ m) (h0 : w0.heap.size ≤ w.heap.size) (ha : ∀ q, blk a = some q → q < w0.heap.size) (h63 : m + 1 ≤ maxLen) (hb : (m + 1) * bytes ≤ 140737488355328) :
    ∃ a' c' w2, AppRun P #[t, t] ty (.slice x m cx) (.slice (some ⟨b, 0, none⟩) 1 1) w1 a' (m + 1) c' w2 ∧ KO w1 w2 ∧ Grown1 w0 w2 e v a n a' (m + 1) c' ∧ Fr (fun q => blk x = some q) w w2 ∧ (∀ q, blk a' = some q → blk x = some q ∨ w.heap.size ≤ q) := by
  obtain ⟨hrow, hcells, hor⟩ := h
  obtain ⟨a', c', w2, hr, hko, hrow2, hg, hor2, _⟩ := hrow.pushN (P := P) (ty := ty) hE (by decide) (m := 1) (news := [v]) hn rfl (by intro u hu; simp at hu; subst hu; exact hv) h63 (.inr hb)
  have hrep : List.replicate m v ++ [v] = List.replicate (m + 1) v := by rw [List.replicate_succ']
  rw [hrep] at hrow2
  have hsz := hn.size
  have hfr : Fr (fun q => blk x = some q) w w2 := (Fr.new (S := fun q => blk x = some q) hn).trans (Fr.grown hg) (fun _ _ h => h)
  refine ⟨a', c', w2, hr, hko, ⟨hrow2, ?_, ?_⟩, hfr, ?_⟩
  · rcases hor2 with rfl | ⟨_, _, hx⟩
    · rcases hor with rfl | hnew
      · have := hrow2.cells.take n
        rwa [List.take_replicate, Nat.min_eq_left (by omega)] at this
      · exact hcells.fr hfr fun q hq hq2 => by have := ha q hq; have := hnew q hq2; omega
    · exact (hcells.ext hn.ext).ext hx
  · rcases hor2 with rfl | ⟨rfl, _, _⟩
    · exact hor
    · right; intro q hq; simp [blk] at hq; omega
  · intro q hq
    rcases hor2 with rfl | ⟨rfl, _, _⟩
    · exact .inl hq
    · right; simp [blk] at hq; omega

theorem set_rep {v : Value} {va : List Value} {i n : Nat} (hl : va.length = n * 1) (hi : i < n) : (List.replicate i v ++ va.drop i).set i v = List.replicate (i + 1) v ++ va.drop (i + 1) := by
  rw [List.set_append_right _ _ (by simp)]
  simp only [List.length_replicate, Nat.sub_self]
  have h : i < va.length := by omega
  rw [List.drop_eq_getElem_cons h, List.set_cons_zero, List.replicate_succ', List.append_assoc]
  rfl

theorem rep_at {v : Value} {n i : Nat} (h : i < n) : (List.replicate n v)[i]? = some v := by rw [List.getElem?_replicate, if_pos h]

theorem fresh8_ok : (sFresh .i8 27).Ok Try.prog 15 := by
  refine fresh8_vc trivial ?_
  rintro ⟨a, b, n, ca, cb, va, vb, one, two⟩ w ⟨ha, hb, hab, hn⟩
  have hsa : ∀ q, GFresh.S ⟨a, b, n, ca, cb, va, vb, one, two⟩ q → blk a = some q ∨ blk b = some q := fun _ h => h
  have hsb : ∀ q, blk a = some q ∨ blk b = some q → GFresh.S ⟨a, b, n, ca, cb, va, vb, one, two⟩ q := fun _ h => h
  generalize GFresh.S ⟨a, b, n, ca, cb, va, vb, one, two⟩ = S at hsa hsb ⊢
  dsimp only at ha hb hab hn ⊢
  have hla : ∀ q, blk a = some q → q < w.heap.size := fun q hq => ha.lt hq
  have hlb : ∀ q, blk b = some q → q < w.heap.size := fun q hq => hb.lt hq
  refine ⟨⟨0, rfl, Nat.zero_le _, by simpa using ha, Fr.refl _ _, hb⟩, ?_⟩
  rintro _ i w1 ⟨hi, ha1, hf1, hb1⟩
  refine bcase_mk (fun h => ?_) (fun h => ?_)
  · have hi1 : i < n := by simp only [decide_eq_true_eq] at h; omega
    refine ⟨i, rfl, hi1, ha1.wr hi1 fun g hg => ?_⟩
    subst hg
    obtain ⟨hat1, hat2⟩ := ha1.at_store hi1
    refine ⟨rfl, hat1, hat2, fun w2 hs => ⟨inr_i64 (by omega) (by omega), i + 1, by simp, ⟨hi1, ?_, ?_, ?_⟩, by omega⟩⟩
    · have := ha1.store hs
      rwa [set_rep ha.1 hi1] at this
    · exact hf1.trans (Fr.stored hs) (fun q _ hq => hsb q (.inl (by simp [blk, hq])))
    · exact hb1.fr (Fr.stored hs) (fun q hq hq2 => hab g rfl (by rw [hq, hq2]))
  have hi1 : i = n := by simp only [decide_eq_false_iff_not] at h; omega
  subst hi1
  have hva := ha.1
  rw [List.drop_eq_nil_of_le (by omega), List.append_nil] at ha1
  refine ⟨⟨0, rfl, Nat.zero_le _, by simpa using hb1, hf1, ha1⟩, ?_⟩
  rintro _ j w2 ⟨hj, hb2, hf2, ha2⟩
  refine bcase_mk (fun h => ?_) (fun h => ?_)
  · have hj1 : j < i := by simp only [decide_eq_true_eq] at h; omega
    refine ⟨j, rfl, hj1, hb2.wr hj1 fun g hg => ?_⟩
    subst hg
    obtain ⟨hat1, hat2⟩ := hb2.at_store hj1
    refine ⟨rfl, hat1, hat2, fun w3 hs => ⟨inr_i64 (by omega) (by omega), j + 1, by simp, ⟨hj1, ?_, ?_, ?_⟩, by omega⟩⟩
    · have := hb2.store hs
      rwa [set_rep hb.1 hj1] at this
    · exact hf2.trans (Fr.stored hs) (fun q _ hq => hsb q (.inr (by simp [blk, hq])))
    · exact ha2.fr (Fr.stored hs) (fun q hq hq2 => hab q hq (by simp [blk, hq2]))
  have hj1 : j = i := by simp only [decide_eq_false_iff_not] at h; omega
  subst hj1
  have hvb := hb.1
  rw [List.drop_eq_nil_of_le (by omega), List.append_nil] at hb2
  refine ⟨⟨⟨0, a, ca, b, cb⟩, rfl, rfl, rfl, Nat.zero_le _, ⟨ha2, ha2.cells, .inl rfl⟩, ⟨hb2, hb2.cells, .inl rfl⟩, hab, hf2⟩, ?_⟩
  rintro _ ⟨i, x, cx, y, cy⟩ w3 ⟨hi, gx, gy, hxy, hf3⟩
  dsimp only at hi gx gy hxy ⊢
  have h03 := hf3.size
  refine bcase_mk (fun h => ?_) (fun h => ?_)
  · have hi1 : i < 40 := by simp only [decide_eq_true_eq] at h; omega
    intro b1 w4 hn1
    obtain ⟨x', cx', w5, hr, hk, gx', hfx, hbx⟩ := grown_step (ty := 23) elem8 gx hn1 rfl (by omega) h03 hla (by unfold maxLen; omega) (by omega)
    refine ⟨x', cx', w5, hr, hk, fun b2 w6 hn2 => ?_⟩
    have xS : ∀ q, blk x = some q → q < w.heap.size → blk a = some q := fun q hq hl => by
      rcases gx.2.2 with rfl | hh
      · exact hq
      · have := hh q hq; omega
    have yS : ∀ q, blk y = some q → q < w.heap.size → blk b = some q := fun q hq hl => by
      rcases gy.2.2 with rfl | hh
      · exact hq
      · have := hh q hq; omega
    have gy5 := grown_keep gy hfx (fun q hq hq2 => hxy q hq2 hq) (fun q hq hq2 => hab q (xS q hq2 (hlb q hq)) hq)
    have h05 : w.heap.size ≤ w5.heap.size := Nat.le_trans h03 hfx.size
    obtain ⟨y', cy', w7, hr2, hk2, gy', hfy, hby⟩ := grown_step (ty := 23) elem8 gy5 hn2 rfl (by omega) h05 hlb (by unfold maxLen; omega) (by omega)
    have hyx : ∀ q, blk x' = some q → blk y ≠ some q := fun q hq hq2 => by
      rcases hbx q hq with h1 | h1
      · exact hxy q h1 hq2
      · have := gy.1.lt hq2; omega
    have gx7 := grown_keep gx' hfy (fun q hq hq2 => hyx q hq hq2) (fun q hq hq2 => hab q hq (yS q hq2 (hla q hq)))
    refine ⟨y', cy', w7, hr2, hk2, inr_i64 (by omega) (by omega), ⟨i + 1, x', cx', y', cy'⟩, by simp, rfl, rfl, ⟨hi1, gx7, gy', ?_, ?_⟩, by dsimp only; omega⟩
    · dsimp only
      intro q hq hq2
      rcases hby q hq2 with h1 | h1
      · exact hyx q hq h1
      · have := gx'.1.lt hq; omega
    · refine (hf3.trans hfx (fun q hq hq2 => hsb q (.inl (xS q hq2 hq)))).trans hfy (fun q hq hq2 => hsb q (.inr (yS q hq2 hq)))
  have hi1 : i = 40 := by simp only [decide_eq_false_iff_not] at h; omega
  subst hi1
  refine ⟨⟨0, rfl, Nat.zero_le _, Ext.refl _⟩, ?_⟩
  rintro _ i w4 ⟨hi, hw4⟩
  have hf4 : Fr S w w4 := hf3.trans (Fr.of_ext (S := S) hw4) (fun _ _ h => h)
  refine bcase_mk (fun h => ?_) (fun h => ?_)
  · have hi1 : i < j + 40 := by simp only [decide_eq_true_eq] at h; omega
    refine ⟨i, rfl, hi1, (gx.1.ext hw4).get (rep_at hi1) fun b o hb => ⟨_, hb, bcase_mk (fun h => by simp at h) (fun _ => ⟨i, rfl, hi1, (gy.1.ext hw4).get (rep_at hi1) fun b1 o1 hb1 => ⟨_, hb1, bcase_mk (fun h => by simp at h) (fun _ => ?_)⟩⟩)⟩⟩
    exact ⟨inr_i64 (by omega) (by omega), i + 1, by simp, ⟨hi1, hw4⟩, by omega⟩
  refine ⟨⟨0, rfl, Nat.zero_le _, Ext.refl _⟩, ?_⟩
  rintro _ k w5 ⟨hk, hw5⟩
  have hf5 : Fr S w w5 := hf4.trans (Fr.of_ext (S := S) hw5) (fun _ _ h => h)
  refine bcase_mk (fun h => ?_) (fun h => ⟨(), rfl, hf5⟩)
  have hk1 : k < j := by simp only [decide_eq_true_eq] at h; omega
  have hw45 := hw4.trans hw5
  refine ⟨k, rfl, hk1, (gx.2.1.ext hw45).ptr (rep_at hk1) fun b o hb => ⟨_, hb, bcase_mk (fun h => by simp at h) (fun _ => ⟨k, rfl, hk1, (gy.2.1.ext hw45).ptr (rep_at hk1) fun b1 o1 hb1 => ⟨_, hb1, bcase_mk (fun h => by simp at h) (fun _ => ?_)⟩⟩)⟩⟩
  exact ⟨inr_i64 (by omega) (by omega), k + 1, by simp, ⟨hk1, hw5⟩, by omega⟩

theorem fresh32_ok : (sFresh .i32 21).Ok Try.prog 20 := by
  refine fresh32_vc trivial ?_
  rintro ⟨a, b, n, ca, cb, va, vb, one, two⟩ w ⟨ha, hb, hab, hn⟩
  have hsa : ∀ q, GFresh.S ⟨a, b, n, ca, cb, va, vb, one, two⟩ q → blk a = some q ∨ blk b = some q := fun _ h => h
  have hsb : ∀ q, blk a = some q ∨ blk b = some q → GFresh.S ⟨a, b, n, ca, cb, va, vb, one, two⟩ q := fun _ h => h
  generalize GFresh.S ⟨a, b, n, ca, cb, va, vb, one, two⟩ = S at hsa hsb ⊢
  dsimp only at ha hb hab hn ⊢
  have hla : ∀ q, blk a = some q → q < w.heap.size := fun q hq => ha.lt hq
  have hlb : ∀ q, blk b = some q → q < w.heap.size := fun q hq => hb.lt hq
  refine ⟨⟨0, rfl, Nat.zero_le _, by simpa using ha, Fr.refl _ _, hb⟩, ?_⟩
  rintro _ i w1 ⟨hi, ha1, hf1, hb1⟩
  refine bcase_mk (fun h => ?_) (fun h => ?_)
  · have hi1 : i < n := by simp only [decide_eq_true_eq] at h; omega
    refine ⟨i, rfl, hi1, ha1.wr hi1 fun g hg => ?_⟩
    subst hg
    obtain ⟨hat1, hat2⟩ := ha1.at_store hi1
    refine ⟨rfl, hat1, hat2, fun w2 hs => ⟨inr_i64 (by omega) (by omega), i + 1, by simp, ⟨hi1, ?_, ?_, ?_⟩, by omega⟩⟩
    · have := ha1.store hs
      rwa [set_rep ha.1 hi1] at this
    · exact hf1.trans (Fr.stored hs) (fun q _ hq => hsb q (.inl (by simp [blk, hq])))
    · exact hb1.fr (Fr.stored hs) (fun q hq hq2 => hab g rfl (by rw [hq, hq2]))
  have hi1 : i = n := by simp only [decide_eq_false_iff_not] at h; omega
  subst hi1
  have hva := ha.1
  rw [List.drop_eq_nil_of_le (by omega), List.append_nil] at ha1
  refine ⟨⟨0, rfl, Nat.zero_le _, by simpa using hb1, hf1, ha1⟩, ?_⟩
  rintro _ j w2 ⟨hj, hb2, hf2, ha2⟩
  refine bcase_mk (fun h => ?_) (fun h => ?_)
  · have hj1 : j < i := by simp only [decide_eq_true_eq] at h; omega
    refine ⟨j, rfl, hj1, hb2.wr hj1 fun g hg => ?_⟩
    subst hg
    obtain ⟨hat1, hat2⟩ := hb2.at_store hj1
    refine ⟨rfl, hat1, hat2, fun w3 hs => ⟨inr_i64 (by omega) (by omega), j + 1, by simp, ⟨hj1, ?_, ?_, ?_⟩, by omega⟩⟩
    · have := hb2.store hs
      rwa [set_rep hb.1 hj1] at this
    · exact hf2.trans (Fr.stored hs) (fun q _ hq => hsb q (.inr (by simp [blk, hq])))
    · exact ha2.fr (Fr.stored hs) (fun q hq hq2 => hab q hq (by simp [blk, hq2]))
  have hj1 : j = i := by simp only [decide_eq_false_iff_not] at h; omega
  subst hj1
  have hvb := hb.1
  rw [List.drop_eq_nil_of_le (by omega), List.append_nil] at hb2
  refine ⟨⟨⟨0, a, ca, b, cb⟩, rfl, rfl, rfl, Nat.zero_le _, ⟨ha2, ha2.cells, .inl rfl⟩, ⟨hb2, hb2.cells, .inl rfl⟩, hab, hf2⟩, ?_⟩
  rintro _ ⟨i, x, cx, y, cy⟩ w3 ⟨hi, gx, gy, hxy, hf3⟩
  dsimp only at hi gx gy hxy ⊢
  have h03 := hf3.size
  refine bcase_mk (fun h => ?_) (fun h => ?_)
  · have hi1 : i < 40 := by simp only [decide_eq_true_eq] at h; omega
    intro b1 w4 hn1
    obtain ⟨x', cx', w5, hr, hk, gx', hfx, hbx⟩ := grown_step (ty := 22) elem32 gx hn1 rfl (by omega) h03 hla (by unfold maxLen; omega) (by omega)
    refine ⟨x', cx', w5, hr, hk, fun b2 w6 hn2 => ?_⟩
    have xS : ∀ q, blk x = some q → q < w.heap.size → blk a = some q := fun q hq hl => by
      rcases gx.2.2 with rfl | hh
      · exact hq
      · have := hh q hq; omega
    have yS : ∀ q, blk y = some q → q < w.heap.size → blk b = some q := fun q hq hl => by
      rcases gy.2.2 with rfl | hh
      · exact hq
      · have := hh q hq; omega
    have gy5 := grown_keep gy hfx (fun q hq hq2 => hxy q hq2 hq) (fun q hq hq2 => hab q (xS q hq2 (hlb q hq)) hq)
    have h05 : w.heap.size ≤ w5.heap.size := Nat.le_trans h03 hfx.size
    obtain ⟨y', cy', w7, hr2, hk2, gy', hfy, hby⟩ := grown_step (ty := 22) elem32 gy5 hn2 rfl (by omega) h05 hlb (by unfold maxLen; omega) (by omega)
    have hyx : ∀ q, blk x' = some q → blk y ≠ some q := fun q hq hq2 => by
      rcases hbx q hq with h1 | h1
      · exact hxy q h1 hq2
      · have := gy.1.lt hq2; omega
    have gx7 := grown_keep gx' hfy (fun q hq hq2 => hyx q hq hq2) (fun q hq hq2 => hab q hq (yS q hq2 (hla q hq)))
    refine ⟨y', cy', w7, hr2, hk2, inr_i64 (by omega) (by omega), ⟨i + 1, x', cx', y', cy'⟩, by simp, rfl, rfl, ⟨hi1, gx7, gy', ?_, ?_⟩, by dsimp only; omega⟩
    · dsimp only
      intro q hq hq2
      rcases hby q hq2 with h1 | h1
      · exact hyx q hq h1
      · have := gx'.1.lt hq; omega
    · refine (hf3.trans hfx (fun q hq hq2 => hsb q (.inl (xS q hq2 hq)))).trans hfy (fun q hq hq2 => hsb q (.inr (yS q hq2 hq)))
  have hi1 : i = 40 := by simp only [decide_eq_false_iff_not] at h; omega
  subst hi1
  refine ⟨⟨0, rfl, Nat.zero_le _, Ext.refl _⟩, ?_⟩
  rintro _ i w4 ⟨hi, hw4⟩
  have hf4 : Fr S w w4 := hf3.trans (Fr.of_ext (S := S) hw4) (fun _ _ h => h)
  refine bcase_mk (fun h => ?_) (fun h => ?_)
  · have hi1 : i < j + 40 := by simp only [decide_eq_true_eq] at h; omega
    refine ⟨i, rfl, hi1, (gx.1.ext hw4).get (rep_at hi1) fun b o hb => ⟨_, hb, bcase_mk (fun h => by simp at h) (fun _ => ⟨i, rfl, hi1, (gy.1.ext hw4).get (rep_at hi1) fun b1 o1 hb1 => ⟨_, hb1, bcase_mk (fun h => by simp at h) (fun _ => ?_)⟩⟩)⟩⟩
    exact ⟨inr_i64 (by omega) (by omega), i + 1, by simp, ⟨hi1, hw4⟩, by omega⟩
  refine ⟨⟨0, rfl, Nat.zero_le _, Ext.refl _⟩, ?_⟩
  rintro _ k w5 ⟨hk, hw5⟩
  have hf5 : Fr S w w5 := hf4.trans (Fr.of_ext (S := S) hw5) (fun _ _ h => h)
  refine bcase_mk (fun h => ?_) (fun h => ⟨(), rfl, hf5⟩)
  have hk1 : k < j := by simp only [decide_eq_true_eq] at h; omega
  have hw45 := hw4.trans hw5
  refine ⟨k, rfl, hk1, (gx.2.1.ext hw45).ptr (rep_at hk1) fun b o hb => ⟨_, hb, bcase_mk (fun h => by simp at h) (fun _ => ⟨k, rfl, hk1, (gy.2.1.ext hw45).ptr (rep_at hk1) fun b1 o1 hb1 => ⟨_, hb1, bcase_mk (fun h => by simp at h) (fun _ => ?_)⟩⟩)⟩⟩
  exact ⟨inr_i64 (by omega) (by omega), k + 1, by simp, ⟨hk1, hw5⟩, by omega⟩

end Go.Proofs.Ytliihpdhoimmoaa
