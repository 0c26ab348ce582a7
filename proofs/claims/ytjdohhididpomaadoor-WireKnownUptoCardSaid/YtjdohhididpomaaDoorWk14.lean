/-
  Texts joined by program: WkRd, VgI, WkI, Sy, Qb, Uf.
-/
import Derived.Test.YtjdohhididpomaaDoorWk13
import Derived.Test.YtjdohhididpomaaDoorWk10
import Derived.Test.YtjdohhididpomaaDoorWk11
import Derived.Test.YtjdohhididpomaaDoorWk07
import Derived.Test.YtjdohhididpomaaDoorProg
import Derived.KernelRfl
import Derived.Test.YtjdohhididpomaaDoorWk12
import Derived.Test.YtjdohhididpomaaDoorWk06
set_option linter.unusedVariables false
set_option linter.unusedSimpArgs false

section
namespace Go.Proofs.YtjdohhididpomaaDoor
open Go Go.RowKit Vc Ut Tb Cl
theorem uvalid_ok : (sTest validB).Ok Tryd.prog 42 := by
  rintro (s : ByteArray) w ⟨hU, hsm⟩
  refine (Tryd.utf8_ValidString s w (by omega) hU).mono fun e w' ⟨he, hx⟩ => ⟨validB s, ?_, ⟨rfl, hx⟩, KO.below hx (Nat.le_refl _)⟩
  rw [he, validD_eq]; rfl
theorem valid_ok : (sTest validB).Ok Tryd.prog 29 := by
  refine valid_vc ⟨uvalid_ok, trivial⟩ ?_
  rintro s w hp
  refine ⟨s, rfl, hp, ?_⟩
  rintro x w1 ⟨h1, h3⟩
  exact ⟨x, rfl, h1, h3⟩
theorem bytesV_len (s : ByteArray) : (bytesV s).length = s.size := by unfold bytesV; rw [List.length_map, size_list]
theorem bytesV_at {s : ByteArray} {i : Nat} (h : i < s.size) : (bytesV s)[i]? = some (.int .u8 (bt s i : Int)) := by
  have := size_list s
  unfold bytesV bt
  rw [List.getElem?_map, List.getD_eq_getElem?_getD, List.getElem?_eq_getElem (by omega)]; rfl
theorem bytesV_append (a b : ByteArray) : bytesV (a ++ b) = bytesV a ++ bytesV b := by
  unfold bytesV; rw [ByteArray.toList_data_append, List.map_append]
theorem bytesV_drop (s : ByteArray) (k : Nat) : bytesV (s.extract k s.size) = (bytesV s).drop k := by
  unfold bytesV
  have e : (s.extract k s.size).data.toList = s.data.toList.drop k := by
    rw [ByteArray.data_extract, Array.toList_extract]
    show (s.data.toList.drop k).take (s.size - k) = _
    rw [List.take_of_length_le]
    rw [List.length_drop, size_list]; exact Nat.le_refl _
  rw [e, List.map_drop]
theorem bytesV_one (s : ByteArray) : ∀ u ∈ bytesV s, u.oneCell' = true := by
  intro u hu; obtain ⟨x, _, rfl⟩ := List.mem_map.1 hu; rfl
theorem byteAt {w : World} {ad : Option Addr} {s : ByteArray} {i : Nat} {K : Nat → Nat → Prop} (h : CellsAt w ad (bytesV s)) (hi : i < s.size) (hk : ∀ b o, w.cell? ⟨b, o + i, none⟩ = some (.int .u8 (bt s i : Int)) → K b o) : ptrE ad K :=
  h.ptr (bytesV_at hi) hk
theorem tw_len {α : Type} (p : α → Bool) : ∀ (l : List α) (n : Nat), n ≤ l.length → (∀ j x, j < n → l[j]? = some x → p x = true) → (∀ x, l[n]? = some x → p x = false) → (l.takeWhile p).length = n
  | [], n, h, _, _ => by simp at h; subst h; rfl
  | y :: l, 0, _, _, h2 => by
    have := h2 y rfl
    simp [this]
  | y :: l, n + 1, h, h1, h2 => by
    have hy := h1 0 y (by omega) rfl
    rw [List.takeWhile_cons, if_pos hy, List.length_cons, tw_len p l n (by simpa using h) (fun j x hj hx => h1 (j + 1) x (by omega) (by simpa using hx)) (fun x hx => h2 x (by simpa using hx))]
theorem fdN_of {t : ByteArray} {n : Nat} (hn : n ≤ cnt t) (h1 : ∀ j, j < n → wholeB (t.extract (pos t j) t.size) = true) (h2 : n = cnt t ∨ wholeB (t.extract (pos t n) t.size) = false) : fdN t = n := by
  unfold fdN
  refine tw_len _ _ n (by simpa using hn) (fun j x hj hx => ?_) (fun x hx => ?_)
  · obtain ⟨h3, h4⟩ := List.getElem?_eq_some_iff.1 hx
    rw [List.getElem_range] at h4; subst h4; exact h1 _ hj
  · obtain ⟨h3, h4⟩ := List.getElem?_eq_some_iff.1 hx
    rw [List.getElem_range] at h4; subst h4
    rw [List.length_range] at h3
    exact h2.resolve_left (by omega)
set_option maxRecDepth 20000 in
theorem fullB_ok : sFullB.Ok Tryd.prog 34 := by
  refine fullB_vc trivial ?_
  rintro ⟨ad, c, s⟩ w ⟨hU, hcl⟩
  dsimp only at hcl ⊢
  refine bcase_mk (fun h => ?_) (fun h => ?_)
  · have h0 : s.size = 0 := by simp only [beq_iff_eq] at h; omega
    exact ⟨false, rfl, by unfold wholeB; simp [h0], Ext.refl _⟩
  have h0 : ¬ s.size = 0 := by simp only [beq_eq_false_iff_ne, ne_eq] at h; omega
  have hw := wholeB_cases s h0
  have hf := first_sec ⟨bt s 0, bt_lt s 0⟩
  dsimp only at hf
  obtain ⟨hf1, hf2, hf3, hf4⟩ := hf
  have hbd := secN_bd (bt s 0)
  have hc := hU.1 (bt s 0) (bt_lt s 0)
  refine ⟨0, rfl, by omega, byteAt hcl (by omega) fun b o hbo => ⟨_, hbo, bt s 0, rfl, bt_lt s 0, Lib.firstT (bt s 0), by rw [Nat.zero_add]; exact hc, ?_, ?_⟩⟩
  · rw [hf1]; repeat' split
    all_goals exact inr_i64 (by omega) (by omega)
  rw [hf1]
  refine bcase_mk (fun h => ⟨true, rfl, ?_, Ext.refl _⟩) (fun h => ?_)
  · rw [hw, if_pos]
    simp only [ge_iff_le, decide_eq_true_eq] at h
    unfold begS; rw [if_neg h0]
    split at h
    · rename_i h1; rw [if_pos h1]; omega
    · rename_i h1; rw [if_neg h1]
      split at h <;> omega
  simp only [ge_iff_le, decide_eq_false_iff_not] at h
  have h1 : ¬ bt s 0 < 128 := fun hh => by rw [if_pos hh] at h; omega
  rw [if_neg h1] at h
  have h2 : ¬ (secN (bt s 0)).2.2 = 0 := fun hh => by rw [if_pos hh] at h; omega
  rw [if_neg h2] at h
  have hS : begS s = (secN (bt s 0)).2.2 := by unfold begS; rw [if_neg h0, if_neg h1]
  rw [if_neg (by omega)] at hw
  obtain ⟨hlo, hhi⟩ := hf4 h2
  have hacc := hU.2 (Lib.firstT (bt s 0) / 16) hf3
  rw [hlo, hhi] at hacc
  have o1 : 1 < s.size → (okB s 1 ↔ (secN (bt s 0)).1 ≤ bt s 1 ∧ bt s 1 ≤ (secN (bt s 0)).2.1) := fun hh => by unfold okB loB hiB; simp [hh]
  have o2 : 2 < s.size → (okB s 2 ↔ 128 ≤ bt s 2 ∧ bt s 2 ≤ 191) := fun hh => by unfold okB loB hiB; simp [hh]
  refine ⟨Lib.firstT (bt s 0) / 16, hf2, hf3, (secN (bt s 0)).1, by rw [Nat.zero_add, Nat.mul_comm]; exact hacc.1, (secN (bt s 0)).2.1, by rw [Nat.zero_add, Nat.mul_comm]; exact hacc.2, ?_⟩
  intro b w1 hn w2 hd
  have hx : Ext w w2 := Ext.trans hn.ext hd.ext
  have hcl1 := hcl.ext hn.ext
  have hcl2 := hcl.ext hx
  refine bcase_mk (fun h3 => ?_) (fun h3 => ?_)
  · have h3 : 1 < s.size := by simp only [gt_iff_lt, decide_eq_true_eq] at h3; omega
    have o1 := o1 h3
    refine ⟨1, rfl, h3, byteAt hcl1 h3 fun b2 p2 hb2 => ⟨_, hb2, (secN (bt s 0)).1, by rw [hn.cell]; rfl, bcase_mk (fun h4 => ⟨true, rfl, ?_, hx⟩) (fun h4 => ?_)⟩⟩
    · have : ¬ okB s 1 := fun hh => by have := o1.1 hh; have h4' : ((bt s 1 : Nat) : Int) < (((secN (bt s 0)).1 : Nat) : Int) := of_decide_eq_true h4; omega
      rw [hw, if_pos ⟨h3, this⟩]
    refine ⟨(secN (bt s 0)).2.1, by rw [hn.cell]; rfl, 1, rfl, h3, byteAt hcl1 h3 fun b3 p3 hb3 => ⟨_, hb3, bcase_mk (fun h5 => ⟨true, rfl, ?_, hx⟩) (fun h5 => ?_)⟩⟩
    · have : ¬ okB s 1 := fun hh => by have := o1.1 hh; have h5' : (((secN (bt s 0)).2.1 : Nat) : Int) < ((bt s 1 : Nat) : Int) := of_decide_eq_true h5; omega
      rw [hw, if_pos ⟨h3, this⟩]
    have k1 : okB s 1 := o1.2 (by have h4' : ¬ ((bt s 1 : Nat) : Int) < (((secN (bt s 0)).1 : Nat) : Int) := of_decide_eq_false h4; have h5' : ¬ (((secN (bt s 0)).2.1 : Nat) : Int) < ((bt s 1 : Nat) : Int) := of_decide_eq_false h5; omega)
    rw [if_neg (fun hh => hh.2 k1)] at hw
    refine bcase_mk (fun h6 => ?_) (fun h6 => ⟨false, rfl, ?_, hx⟩)
    · have h6 : 2 < s.size := by simp only [gt_iff_lt, decide_eq_true_eq] at h6; omega
      have o2 := o2 h6
      refine ⟨2, rfl, h6, byteAt hcl2 h6 fun b4 p4 hb4 => ⟨_, hb4, ?_⟩⟩
      refine bcase_mk (fun h7 => ⟨true, rfl, ?_, hx⟩) (fun h7 => ⟨2, rfl, h6, byteAt hcl2 h6 fun b5 p5 hb5 => ⟨_, hb5, ?_⟩⟩)
      rotate_left
      refine bcase_mk (fun h8 => ⟨true, rfl, ?_, hx⟩) (fun h8 => ⟨false, rfl, ?_, hx⟩)
      rotate_right
      · have : ¬ okB s 2 := fun hh => by have := o2.1 hh; have h7' : ((bt s 2 : Nat) : Int) < 128 := of_decide_eq_true h7; omega
        rw [hw, if_pos ⟨h6, this⟩]
      · have : ¬ okB s 2 := fun hh => by have := o2.1 hh; have h8' : (191 : Int) < ((bt s 2 : Nat) : Int) := of_decide_eq_true h8; omega
        rw [hw, if_pos ⟨h6, this⟩]
      · have : okB s 2 := o2.2 (by have h7' : ¬ ((bt s 2 : Nat) : Int) < 128 := of_decide_eq_false h7; have h8' : ¬ (191 : Int) < ((bt s 2 : Nat) : Int) := of_decide_eq_false h8; omega)
        rw [hw, if_neg (fun hh => hh.2 this)]
    · have h6 : ¬ 2 < s.size := by simp only [gt_iff_lt, decide_eq_false_iff_not] at h6; omega
      rw [hw, if_neg (fun hh => h6 hh.1)]
  · have h3 : ¬ 1 < s.size := by simp only [gt_iff_lt, decide_eq_false_iff_not] at h3; omega
    refine bcase_mk (fun h6 => by simp only [gt_iff_lt, decide_eq_true_eq] at h6; omega) (fun h6 => ⟨false, rfl, ?_, hx⟩)
    rw [hw, if_neg (fun hh => h3 hh.1), if_neg (by omega)]
theorem decB_ok : sDecB.Ok Tryd.prog 35 := by
  rintro ⟨ad, c, s⟩ w ⟨hU, hcl, h0⟩
  dsimp only at hcl h0
  rcases hcl with hcl | ⟨b, o, rfl, hcl⟩
  · have := bytesV_len s
    rw [hcl] at this; simp at this; omega
  refine (Tryd.utf8_DecodeRune s b o c w hU (fun j hj => ?_)).mono fun e w' ⟨he, hx⟩ => ⟨(nxR s, nxN s), ?_, ⟨rfl, rfl, hx⟩, KO.below hx (Nat.le_refl _)⟩
  · rw [hcl j _ (bytesV_at hj)]
    have e : (s.get! j).toNat = bt s j := by
      unfold bt
      have hl := size_list s
      rw [List.getD_eq_getElem?_getD, List.getElem?_eq_getElem (by omega)]
      show (s.data[j]!).toNat = _
      rw [getElem!_pos s.data j hj]; rfl
    rw [e]
  · have := decodeGo_eq s
    rw [he, this.1, this.2]; rfl
theorem feed_ok : sFeed.Ok Tryd.prog 27 := by
  refine feed_vc ⟨fullB_ok, decB_ok, trivial⟩ ?_
  rintro ⟨rb, ha, hc, h, ad, c, b⟩ w ⟨hU, hr, hb, hs1, hs2⟩ w1 hd
  dsimp only at hr hb hs1 hs2 ⊢
  have hle := hr.le
  refine ⟨ha, h.size, hc, box_cell hr.box, ha, h.size, hc, box_cell hr.box, ha, h.size, hc, box_cell hr.box, h.size, h.size, rfl, rfl, Nat.le_refl _, hle, ?_⟩
  obtain ⟨a', c', w2, hrun, hko, e12, hcl, hlc⟩ := app_cells (P := Tryd.prog) (ty := 30) (cx := c) elem8 (hr.cells.ext hd.ext) (bytesV_len h) (hb.ext hd.ext) (bytesV_len b) (bytesV_one b) (by unfold maxLen; omega) (by omega)
  refine ⟨a', c', w2, hrun, hko, ?_, ?_⟩
  · refine ⟨(0, (a', c'), (none, 0)), ?_, rfl, Nat.zero_le _, fun j hj => by omega, ?_, ?_, Made.nil _ _ _⟩
    · show Value.slice a' (h.size + b.size) c' = Value.slice a' ((h ++ b).size - 0) c'
      rw [ByteArray.size_append, Nat.sub_zero]
    · show CellsAt w2 a' (bytesV ((h ++ b).extract 0 (h ++ b).size))
      rw [ByteArray.extract_zero_size, bytesV_append]; exact hcl
    · show (h ++ b).size - 0 ≤ c'
      rw [ByteArray.size_append]; omega
  have hts : (h ++ b).size = h.size + b.size := ByteArray.size_append
  generalize h ++ b = t at hts ⊢
  have e02 : Ext w w2 := Ext.trans hd.ext e12
  have hct := cnt_le t
  have hrl := runes_len t
  rintro _ ⟨n, ⟨a, ac⟩, ⟨o, oc⟩⟩ w3 ⟨hn, hwh, hcl0, hac, hm⟩
  dsimp only at hn hwh hcl0 hac hm ⊢
  have hcl3 := hcl0.ext hm.ext
  have hpl := pos_le t n
  have hxs : (t.extract (pos t n) t.size).size = t.size - pos t n := size_ext (Nat.le_refl _)
  have e03 := e02.trans hm.ext
  have fin : ∀ {w4 : World}, Ext w3 w4 → fdN t = n → ∃ (a'1 : Option Addr) (c'1 : Nat) (w'3 : World), AppRun Tryd.prog #[30, 30] 30 (.slice none 0 0) (.slice a (t.size - pos t n) ac) w4 a'1 (0 + (t.size - pos t n)) c'1 w'3 ∧ KO w4 w'3 ∧
      true = true ∧ (∃ old, w'3.cell? ⟨rb, 0, none⟩ = some old) ∧ w'3.frozen? ⟨rb, 0, none⟩ = false ∧ ∀ (w11 : World), Stored w'3 ⟨rb, 0, none⟩ (.slice a'1 (0 + (t.size - pos t n)) c'1) w11 →
      ∃ (x2 : (Option Addr × Nat × Nat) × Option Addr × Nat), Value.slice o n oc = Value.slice x2.1.1 x2.1.2.1 x2.1.2.2 ∧ x2.1.2.1 = (fdR t).length ∧ NewRow w w11 21 x2.1.1 x2.1.2.1 ((fdR t).map (Value.int .i32)) x2.1.2.2 ∧ RdIn w11 rb x2.2.1 x2.2.2 (fdH t) ∧
        (∀ q, blk x2.2.1 = some q → w.heap.size ≤ q) ∧ (∀ q, blk x2.1.1 = some q → blk x2.2.1 ≠ some q) ∧ Fr (fun q => q = rb) w w11 := by
    intro w4 e34 hfd
    have e04 := e03.trans e34
    obtain ⟨a2, c2, w5, hrun2, hko2, hrow, hg, hor, _⟩ := (Row.nil w4 5 1).pushS (P := Tryd.prog) (ty := 30) elem8 (by decide) (sa := a) (cx := ac) (m := t.size - pos t n) (news := bytesV (t.extract (pos t n) t.size)) (by rw [bytesV_len]; omega) (hcl3.ext e34) (bytesV_one _) (by unfold maxLen; omega) (.inr (by omega))
    have e45 : Ext w4 w5 := (Fr.grown hg).ext (fun q _ h => by cases h)
    have e05 := e04.trans e45
    have hbx := e05.heap hr.box
    have hrb := heap_lt hr.box
    have nw : ∀ q, blk a2 = some q → w4.heap.size ≤ q := fun q hq => by
      rcases hor with rfl | ⟨rfl, _⟩
      · cases hq
      · simp [blk] at hq; omega
    refine ⟨a2, c2, w5, hrun2, hko2, rfl, box_old hbx, box_free hbx, fun w6 hs6 => ?_⟩
    have hfr : fdR t = (runes t).take n := by unfold fdR; rw [hfd]
    have s02 := e02.size
    have s04 := e04.size
    refine ⟨((o, n, oc), (a2, c2)), rfl, by dsimp only; rw [hfr, List.length_take]; omega, ⟨?_, fun q hq => Nat.le_trans s02 (hm.new q hq)⟩, ⟨?_, ?_, ?_⟩, fun q hq => Nat.le_trans s04 (nw q hq), (fun q hq h => by have := nw q h; have := hm.row.lt hq; have := e34.size; omega), (Fr.of_ext e05).trans (Fr.stored hs6) (fun _ _ h => h)⟩
    · rw [hfr]
      exact (hm.row.ext (e34.trans e45)).keep fun q hq => hs6.other (by show q ≠ rb; have := hm.new q hq; omega)
    · have := hs6.box hbx
      rw [this]; dsimp only
      rw [show fdH t = t.extract (pos t n) t.size from by unfold fdH; rw [hfd], hxs, Nat.zero_add]
    · rw [show fdH t = t.extract (pos t n) t.size from by unfold fdH; rw [hfd]]
      exact hrow.cells.keep fun q hq => hs6.other (by show q ≠ rb; have := nw q hq; omega)
    · rw [show fdH t = t.extract (pos t n) t.size from by unfold fdH; rw [hfd], hxs]
      have := hrow.le.1
      simpa using this
  refine bcase_mk (fun hb1 => ?_) (fun hb1 => ?_)
  · have hp : pos t n < t.size := by simp only [gt_iff_lt, decide_eq_true_eq] at hb1; omega
    have hnc := cnt_lt.2 hp
    refine ⟨⟨a, ac, t.extract (pos t n) t.size⟩, by rw [hxs], ⟨hU.ext e03, hcl3⟩, ?_⟩
    rintro x w4 ⟨rfl, e34⟩
    dsimp only
    have e04 := e03.trans e34
    refine bcase_mk (fun hb2 => ?_) (fun hb2 => fin e34 (fdN_of hn hwh (.inr hb2)))
    refine ⟨⟨a, ac, t.extract (pos t n) t.size⟩, by rw [hxs], ⟨hU.ext e04, hcl3.ext e34, by rw [hxs]; omega⟩, ?_⟩
    rintro ⟨r, m⟩ w5 ⟨hr5, hm5, e45⟩
    dsimp only at hr5 hm5 ⊢
    rw [(drop_next hnc).2] at hr5
    rw [(drop_next hnc).1] at hm5
    subst hr5 hm5
    have e35 := e34.trans e45
    have d1 := dcN_le hp
    intro b6 w6 hn6
    obtain ⟨o2, oc2, w7, hrun2, hko2, hm7, e67, _⟩ := (hm.later e35).pushN (P := Tryd.prog) (ty := 67) elem32 (by decide) (m := 1) (news := [.int .i32 (dcR t (pos t n))]) hn6 rfl (by simp [Value.oneCell']) (by unfold maxLen; omega) (.inr (by omega))
    refine ⟨o2, oc2, w7, hrun2, hko2, dcN t (pos t n), rfl, by omega, fun ad' hsl => ?_⟩
    have hps := pos_succ hp
    refine ⟨(n + 1, (ad', ac - dcN t (pos t n)), (o2, oc2)), ?_, rfl, ⟨hnc, fun j hj => ?_, ?_, ?_, ?_⟩, ?_⟩
    · dsimp only; rw [hps, show t.size - pos t n - dcN t (pos t n) = t.size - (pos t n + dcN t (pos t n)) from by omega]
    · by_cases hjn : j = n
      · subst hjn; exact hb2
      · exact hwh j (by dsimp only at hj; omega)
    · dsimp only
      have := hcl0.drop hsl (by omega) (by rw [bytesV_len, hxs]; omega)
      rw [bytesV_drop, hps]
      rw [bytesV_drop, List.drop_drop, Nat.mul_one] at this
      exact this
    · dsimp only; omega
    · dsimp only
      rw [getD_take_map (by rw [hrl]; exact hnc), runes_at hnc]; exact hm7
    · dsimp only; omega
  · have hp : pos t n = t.size := by simp only [gt_iff_lt, decide_eq_false_iff_not] at hb1; omega
    have hnc : n = cnt t := by
      have : ¬ n < cnt t := fun hh => by have := cnt_lt.1 hh; omega
      omega
    exact fin (Ext.refl _) (fdN_of hn hwh (.inl hnc))
theorem new_ok : sNew.Ok Tryd.prog 26 := by
  refine new_vc trivial ?_
  rintro _ w _ b w1 hn
  exact ⟨b, rfl, hn.size.1, ⟨hn.heap, CellsAt.nil _ _, Nat.le_refl _⟩, hn.ext⟩
theorem ext_ext (t : ByteArray) (p k : Nat) (hp : p ≤ t.size) : (t.extract p t.size).extract k (t.extract p t.size).size = t.extract (p + k) t.size := by
  rw [ByteArray.extract_extract, size_ext (Nat.le_refl _)]
  congr 1
  omega
end Go.Proofs.YtjdohhididpomaaDoor
end

section
set_option linter.unusedVariables false
namespace Go.Proofs.YtjdohhididpomaaDoor
open Go Go.RowKit Vc Ut Tb Cl
set_option maxRecDepth 1000000 in
theorem itPc_vc (hsp : SpecsOk Tryd.prog spItPc) (h : ∀ (g : ByteArray × Nat) (i : ItG) (W : World), W.heap[g.snd]? = some (Obj.cells #[Value.string g.fst] (9 : TypeId)) ∧ U8 W ∧ g.fst.size ≤ 67108864 → ItPre (List.map encPc (pcL g.fst)) (fun (q : Nat) => q = g.snd ∨ q = (0 : Nat) ∨ q = (1 : Nat)) i W → (∃ (x : Nat × (Nat → Prop)), Value.int .i64 0 = Value.int .i64 (↑(bp g.fst x.fst) : Int) ∧ x.fst ≤ ncl g.fst ∧ i.J x.fst x.snd W ∧ Mid W i.D0 x.snd W) ∧ ∀ (u : Nat → Value) (x : Nat × (Nat → Prop)) (w' : World), x.fst ≤ ncl g.fst ∧ i.J x.fst x.snd w' ∧ Mid W i.D0 x.snd w' → ∃ (s : ByteArray), w'.cell? ⟨g.snd, 0, none⟩ = some (Value.string s) ∧ bcase (decide ((↑(bp g.fst x.fst) : Int) < (↑s.size : Int))) (∃ (s1 : ByteArray), w'.cell? ⟨g.snd, 0, none⟩ = some (Value.string s1) ∧ ∃ (k : Nat), (↑(bp g.fst x.fst) : Int) = (↑k : Int) ∧ k ≤ s1.size ∧ s1.size ≤ s1.size ∧ ∃ (g1 : ByteArray), #[Value.string (s1.extract k s1.size)] = #[Value.string g1] ∧ (U8 w' ∧ g1.size ≤ 67108864) ∧ ∀ (x1 : Nat) (w'1 : World), x1 = nextL g1 ∧ Ext w' w'1 → ∃ (s2 : ByteArray), w'1.cell? ⟨g.snd, 0, none⟩ = some (Value.string s2) ∧ InR .i64 ((↑(bp g.fst x.fst) : Int) + (↑x1 : Int)) ∧ ∃ (k1 : Nat), (↑(bp g.fst x.fst) : Int) = (↑k1 : Int) ∧ ∃ (k2 : Nat), (↑(bp g.fst x.fst) : Int) + (↑x1 : Int) = (↑k2 : Int) ∧ k1 ≤ k2 ∧ k2 ≤ s2.size ∧ i.l = i.l ∧ ∃ (q : Nat × (Nat → Prop)), [Value.int .i64 (↑(bp g.fst x.fst) : Int), Value.string (s2.extract k1 k2)] = (List.map encPc (pcL g.fst)).getD q.fst [] ∧ (q.fst < (List.map encPc (pcL g.fst)).length ∧ i.J q.fst q.snd w'1 ∧ Mid W i.D0 q.snd w'1) ∧ ∀ (b : Bool) (w'2 : World), (∃ (D' : Nat → Prop), Step q.snd w'1 w'2 D' ∧ (b = true → i.J (q.fst + 1) D' w'2) ∧ (b = false → i.Jx D' w'2)) → bcase (!b) (ItPost (List.map encPc (pcL g.fst)) i W w'2) (InR .i64 ((↑(bp g.fst x.fst) : Int) + (↑x1 : Int)) ∧ ∃ (y : Nat × (Nat → Prop)), Value.int .i64 ((↑(bp g.fst x.fst) : Int) + (↑x1 : Int)) = Value.int .i64 (↑(bp g.fst y.fst) : Int) ∧ (y.fst ≤ ncl g.fst ∧ i.J y.fst y.snd w'2 ∧ Mid W i.D0 y.snd w'2) ∧ ncl g.fst - y.fst < ncl g.fst - x.fst)) (ItPost (List.map encPc (pcL g.fst)) i W w')) :
    (itPc).Ok Tryd.prog 69 :=
  iter_of_vc itPc annItPc spItPc (fun _ _ _ => rfl) (fun _ _ _ => rfl) hsp (enters_of Tryd.func69 (by kernel_rfl) rfl) Tryd.func69 rfl (n := 1) (fun _ => rfl) (by kernel_rfl) (vcast (by kernel_rfl) h)
set_option maxRecDepth 1000000 in
theorem cpieces_vc (hsp : SpecsOk Tryd.prog []) (h : ∀ (g : ByteArray) (w : World), True → ∀ (b : Nat) (w1 : World), New w (Obj.cells #[Value.string g] (9 : Nat)) b w1 → ∃ (x : Nat), Value.func (Fn.func (69 : Nat)) #[] #[Value.pointer (some ⟨b, 0, none⟩)] = Value.func (Fn.func (69 : Nat)) #[] #[Value.pointer (some ⟨x, 0, none⟩)] ∧ w.heap.size ≤ x ∧ w1.heap[x]? = some (Obj.cells #[Value.string g] (9 : TypeId)) ∧ Ext w w1) :
    ((sIter 69)).Ok Tryd.prog 55 :=
  ok_of_vc (sIter 69) (annOf []) [] (fun _ _ => rfl) (fun _ _ => rfl) hsp Tryd.func55 rfl (n := 1) (fun _ => rfl) (by kernel_rfl) (vcast (by kernel_rfl) h)
set_option maxRecDepth 1000000 in
theorem ends_vc (hsp : SpecsOk Tryd.prog spAllC) (h : ∀ (g : ByteArray) (w : World), U8 w ∧ g.size ≤ 67108864 → ∀ (b : Nat) (w1 : World), New w (Obj.cells #[Value.slice none (0 : Nat) (0 : Nat)] (62 : Nat)) b w1 → ∃ (g1 : ByteArray), #[Value.string g] = #[Value.string g1] ∧ True ∧ ∀ (x : Nat) (w' : World), w1.heap.size ≤ x ∧ w'.heap[x]? = some (Obj.cells #[Value.string g1] (9 : TypeId)) ∧ Ext w1 w' → ∃ (xs : List (Nat × ByteArray)), ∃ (C : Nat → Prop) (D0 : Nat → Prop), IterAt Tryd.prog (Value.func (Fn.func (69 : Nat)) #[] #[Value.pointer (some ⟨x, 0, none⟩)]) (List.map encPc xs) C w' ∧ DomOk w' C D0 ∧ (∃ (a3 : Option Addr) (c : Nat), (D0 = fun (q : Nat) => q = ptrB (Value.pointer (some ⟨b, 0, none⟩)) ∨ blk a3 = some q) ∧ Grow w' (ptrB (Value.pointer (some ⟨b, 0, none⟩))) (62 : TypeId) (3 : TypeId) a3 c (List.map (Value.int IntKind.i64) (List.take (0 : Nat) (endsI g)))) ∧ (Stab w'.heap.size fun (k : Nat) (D : Nat → Prop) (W : World) => ∃ (a : Option Addr) (c : Nat), (D = fun (q : Nat) => q = ptrB (Value.pointer (some ⟨b, 0, none⟩)) ∨ blk a = some q) ∧ Grow W (ptrB (Value.pointer (some ⟨b, 0, none⟩))) (62 : TypeId) (3 : TypeId) a c (List.map (Value.int IntKind.i64) (List.take k (endsI g)))) ∧ (∀ (x1 : Exit), Stab w'.heap.size fun (x : Nat) (D : Nat → Prop) (W : World) => (1 : Nat) = (0 : Nat)) ∧ (∀ (k : Nat) (x1 : Nat × ByteArray) (D : Nat → Prop) (W : World), xs[k]? = some x1 → (∃ (a4 : Option Addr) (c : Nat), (D = fun (q : Nat) => q = ptrB (Value.pointer (some ⟨b, 0, none⟩)) ∨ blk a4 = some q) ∧ Grow W (ptrB (Value.pointer (some ⟨b, 0, none⟩))) (62 : TypeId) (3 : TypeId) a4 c (List.map (Value.int IntKind.i64) (List.take k (endsI g)))) → Mid w' D0 D W → ∃ (a6 : Option Addr) (n : Nat) (c : Nat), W.cell? ⟨b, 0, none⟩ = some (Value.slice a6 n c) ∧ InR .i64 ((↑x1.fst : Int) + (↑x1.snd.size : Int)) ∧ ∀ (b1 : Nat) (w11 : World), New W (Obj.cells #[Value.int .i64 ((↑x1.fst : Int) + (↑x1.snd.size : Int))] (3 : Nat)) b1 w11 → ∃ (a' : Option Addr) (c' : Nat) (w'1 : World), AppRun Tryd.prog #[(62 : Nat), (62 : Nat)] (62 : Nat) (Value.slice a6 n c) (Value.slice (some ⟨b1, 0, none⟩) (1 : Nat) (1 : Nat)) w11 a' (n + 1) c' w'1 ∧ KO w11 w'1 ∧ true = true ∧ (∃ (old : Value), w'1.cell? ⟨b, 0, none⟩ = some old) ∧ w'1.frozen? ⟨b, 0, none⟩ = false ∧ ∀ (w12 : World), Stored w'1 ⟨b, 0, none⟩ (Value.slice a' (n + 1) c') w12 → ∃ (D' : Nat → Prop), Step D W w12 D' ∧ ∃ (a9 : Option Addr) (c1 : Nat), (D' = fun (q : Nat) => q = ptrB (Value.pointer (some ⟨b, 0, none⟩)) ∨ blk a9 = some q) ∧ Grow w12 (ptrB (Value.pointer (some ⟨b, 0, none⟩))) (62 : TypeId) (3 : TypeId) a9 c1 (List.map (Value.int IntKind.i64) (List.take (k + 1) (endsI g)))) ∧ (∀ (D : Nat → Prop) (W : World), (∃ (a3 : Option Addr) (c : Nat), (D = fun (q : Nat) => q = ptrB (Value.pointer (some ⟨b, 0, none⟩)) ∨ blk a3 = some q) ∧ Grow W (ptrB (Value.pointer (some ⟨b, 0, none⟩))) (62 : TypeId) (3 : TypeId) a3 c (List.map (Value.int IntKind.i64) (List.take (lenX xs) (endsI g)))) → Mid w' D0 D W →
 ∃ (a5 : Option Addr) (n : Nat) (c : Nat), W.cell? ⟨b, 0, none⟩ = some (Value.slice a5 n c) ∧ ∀ (w2 : World), Turn w.heap.size W w2 → ∃ (x1 : Option Addr × Nat × Nat), Value.slice a5 n c = Value.slice x1.fst x1.snd.fst x1.snd.snd ∧ x1.snd.fst = (endsI g).length ∧ Made w w2 (3 : TypeId) (1 : Nat) x1.fst x1.snd.fst (List.map (Value.int IntKind.i64) (endsI g)) x1.snd.snd) ∧ True) :
    ((sSL .i64 3 endsI)).Ok Tryd.prog 43 :=
  ok_of_vc (sSL .i64 3 endsI) annEnds spAllC (fun _ _ => rfl) (fun _ _ => rfl) hsp Tryd.func43 rfl (n := 1) (fun _ => rfl) (by kernel_rfl) (vcast (by kernel_rfl) h)
set_option maxRecDepth 1000000 in
theorem ccount_vc (hsp : SpecsOk Tryd.prog spCnt) (h : ∀ (g : ByteArray) (w : World), U8 w ∧ g.size ≤ 67108864 → ∃ (g1 : ByteArray), #[Value.string g] = #[Value.string g1] ∧ (U8 w ∧ g1.size ≤ 67108864) ∧ ∀ (x : Option Addr × Nat × Nat) (w' : World), x.snd.fst = (endsI g1).length ∧ Made w w' (3 : TypeId) (1 : Nat) x.fst x.snd.fst (List.map (Value.int IntKind.i64) (endsI g1)) x.snd.snd → ∃ (x1 : Nat), Value.int .i64 (↑x.snd.fst : Int) = Value.int .i64 (↑x1 : Int) ∧ x1 = ncl g ∧ Ext w w') :
    ((sSN ncl)).Ok Tryd.prog 30 :=
  ok_of_vc (sSN ncl) (annOf spCnt) spCnt (fun _ _ => rfl) (fun _ _ => rfl) hsp Tryd.func30 rfl (n := 1) (fun _ => rfl) (by kernel_rfl) (vcast (by kernel_rfl) h)
end Go.Proofs.YtjdohhididpomaaDoor
end

section
namespace Go.Proofs.YtjdohhididpomaaDoor
open Go Go.RowKit Vc Ut Tb Cl Orb
theorem pc_get {s : ByteArray} {k : Nat} (h : k < ncl s) : (pcL s)[k]? = some (pcP s k) := by
  unfold pcL; rw [List.getElem?_map, List.getElem?_range h]; rfl
theorem pc_len (s : ByteArray) : (pcL s).length = ncl s := by simp [pcL]
theorem pcr_get {s : ByteArray} {k : Nat} (h : k < ncl s) : (pcR s)[k]? = some (pcP s (ncl s - 1 - k)) := by
  unfold pcR; rw [List.getElem?_map, List.getElem?_range h]; rfl
theorem pcr_len (s : ByteArray) : (pcR s).length = ncl s := by simp [pcR]
theorem xs_of {l : List (Nat × ByteArray)} {k : Nat} {p : Nat × ByteArray} (h : l[k]? = some p) : (l.map encPc).getD k [] = encPc p := by
  simp only [List.getD_eq_getElem?_getD, List.getElem?_map, h]; rfl
theorem next_drop {s : ByteArray} {i : Nat} (hi : i ≤ ncl s) : nextL (s.extract (bp s i) s.size) + bp s i = bp s (i + 1) := bp_drop hi 1
theorem itPc_ok : itPc.Ok Tryd.prog 69 := by
  refine itPc_vc ⟨cnext_ok, trivial⟩ ?_
  rintro ⟨s, bx⟩ i W ⟨hb, hU, hsm⟩ hi
  dsimp only at hb hU hsm hi ⊢
  have hlen : ((pcL s).map encPc).length = ncl s := by rw [List.length_map, pc_len]
  refine ⟨⟨(0, i.D0), rfl, Nat.zero_le _, hi.j0, Mid.start (Ext.refl _) hi.d0⟩, ?_⟩
  rintro _ ⟨k, D⟩ w1 ⟨hk, hJ, hM⟩
  dsimp only at hk hJ hM ⊢
  have hUw : U8 w1 := hU.fr hM.fr (hi.cd _ (.inr (.inl rfl))) (hi.cd _ (.inr (.inr rfl)))
  have hbw : w1.heap[bx]? = some (.cells #[.string s] 9) := (hM.old (heap_lt hb) (hi.cd bx (.inl rfl))).trans hb
  have hle := bp_le s k
  refine ⟨s, box_cell hbw, ?_⟩
  refine bcase_mk (fun h => ?_) (fun h => ?_)
  · have hlt : k < ncl s := bp_lt.2 (by have := of_decide_eq_true h; omega)
    refine ⟨s, box_cell hbw, bp s k, rfl, hle, Nat.le_refl _, _, rfl, ⟨hUw, ext_size (n := bk s k) hsm⟩, ?_⟩
    rintro _ w2 ⟨rfl, hw2⟩
    have hnd := next_drop hk
    have hle1 := bp_le s (k + 1)
    have hbw2 := hw2.heap hbw
    have e3 : (bp s k : Int) + (nextL (s.extract (bp s k) s.size) : Int) = (bp s (k + 1) : Int) := by omega
    rw [e3]
    have hJ2 := hi.stab.use hJ hw2.size (fun q hq => hw2.block q (hq.elim (fun h => Nat.lt_of_lt_of_le h hM.fr.size) (hM.lt q)))
    have hM2 := hM.own (Fr.of_ext (S := fun _ => False) hw2) (fun q hq => hq.elim)
    refine ⟨s, box_cell hbw2, inr_i64 (by omega) (by omega), bp s k, rfl, bp s (k + 1), rfl, by omega, hle1, rfl, (k, D), ?_, ⟨by dsimp only; rw [hlen]; exact hlt, hJ2, hM2⟩, ?_⟩
    · rw [xs_of (pc_get hlt)]; rfl
    rintro b1 w3 ⟨D', hst, h1, h2⟩
    dsimp only at hst h1 h2
    have hM3 := hM2.step hst
    refine bcase_mk (fun hb1 => ?_) (fun hb1 => ?_)
    · exact ⟨D', hM3, .inr (h2 (by simpa using hb1))⟩
    · exact ⟨inr_i64 (by omega) (by omega), (k + 1, D'), rfl, ⟨hlt, h1 (by simpa using hb1), hM3⟩, by dsimp only; omega⟩
  · have hk2 : k = ncl s := by
      by_cases hc : k < ncl s
      · have := bp_lt.1 hc; have := of_decide_eq_false h; omega
      · omega
    subst hk2
    exact ⟨D, hM, .inl (by rw [hlen]; exact hJ)⟩
theorem cpieces_ok : (sIter 69).Ok Tryd.prog 55 := by
  refine cpieces_vc trivial ?_
  rintro s w _ b w1 hn
  exact ⟨b, rfl, by have := hn.1; omega, hn.heap, hn.ext⟩
def cC (x : Nat) : Nat → Prop := fun q => q = x ∨ q = 0 ∨ q = 1
theorem cC_lt {x : Nat} {w : World} (hx : x < w.heap.size) (hU : U8 w) : ∀ q, cC x q → q < w.heap.size := by
  rintro q (rfl | rfl | rfl)
  · exact hx
  · exact hU.lt.1
  · exact hU.lt.2
theorem pc_iter {s : ByteArray} {b : Nat} {w : World} (h : w.heap[b]? = some (.cells #[.string s] 9)) (hU : U8 w) (hs : s.size ≤ 67108864) : IterAt Tryd.prog (itV 69 b) ((pcL s).map encPc) (cC b) w := by
  refine itPc_ok (s, b) w ⟨h, hU, hs⟩ (cC_lt (heap_lt h) hU) (fun W hW hq => ⟨(hq b (.inl rfl)).trans h, ?_, hs⟩)
  have k : ∀ (g o : Nat) (v : Value), itPc.C (s, b) g → w.cell? ⟨g, o, none⟩ = some v → W.cell? ⟨g, o, none⟩ = some v := fun g o v hg hc =>
    (World.cell?_of_block (w := w) (hq g hg)).trans hc
  exact ⟨fun c hc => k _ _ _ (.inr (.inl rfl)) (hU.1 c hc), fun i hi => ⟨k _ _ _ (.inr (.inr rfl)) (hU.2 i hi).1, k _ _ _ (.inr (.inr rfl)) (hU.2 i hi).2⟩⟩
def cB (g : GBk) : Nat → Prop := fun q => q = g.bl ∨ q = g.bs ∨ blk g.a = some q
theorem cB_lt {g : GBk} {w : World} (h : BkAt g w) : ∀ q, cB g q → q < w.heap.size := by
  rintro q (rfl | rfl | hq)
  · exact heap_lt h.1
  · exact heap_lt h.2.2
  · exact h.2.1.lt hq
theorem ends_len (s : ByteArray) : (endsI s).length = ncl s := by simp [endsI]
theorem ends_at {s : ByteArray} {i : Nat} (h : i < ncl s) : (endsI s)[i]? = some (bp s (i + 1) : Int) := by
  unfold endsI
  rw [List.getElem?_map, List.getElem?_range h]; rfl
theorem ends_ok : (sSL .i64 3 endsI).Ok Tryd.prog 43 := by
  refine ends_vc ⟨cpieces_ok, trivial⟩ ?_
  rintro (s : ByteArray) w ⟨hU, hsm⟩ b w1 hn1
  have hb1 := hn1.size
  have hncl := ncl_le s
  have hut := hU.lt
  refine ⟨s, rfl, trivial, ?_⟩
  rintro x w2 ⟨hx, hxs, e12⟩
  have e02 := hn1.ext.trans e12
  have hU2 := hU.ext e02
  dsimp only [ptrB]
  have h41 : (62 : TypeId) ≠ 3 := by decide
  have hbw := e12.heap hn1.heap
  refine ⟨pcL s, cC x, (fun q => q = b ∨ blk none = some q), pc_iter hxs hU2 hsm, ⟨?_, ?_⟩, ⟨none, 0, rfl, (⟨hbw, Row.nil _ _ _⟩ : Grow w2 b _ _ none 0 [])⟩, ?_, ?_, ?_, ?_, trivial⟩
  · rintro q (rfl | h)
    · exact heap_lt hbw
    · cases h
  · intro q hq
    refine ⟨cC_lt (heap_lt hxs) hU2 q hq, ?_⟩
    rintro (h | h)
    · rcases hq with h' | h' | h' <;> omega
    · cases h
  · rintro k D W W' ⟨a, c, rfl, hg⟩ hsz hq
    exact ⟨a, c, rfl, hg.keep fun q hq' => hg.kept hq' (hq q · (.inr hq'))⟩
  · rintro _ k D W W' h hsz hq
    exact h
  · rintro k p D W hp ⟨a, c, rfl, hg⟩ hM
    have hkl : k < ncl s := by have := (List.getElem?_eq_some_iff.1 hp).1; rwa [pc_len] at this
    rw [pc_get hkl] at hp
    cases hp
    have hle := bp_le s (k + 1)
    have hmo := bp_mono s (show k ≤ k + 1 by omega)
    have hsz : ((pcP s k).1 : Int) + ((pcP s k).2.size : Int) = (bp s (k + 1) : Int) := by unfold pcP; dsimp only; rw [ext_sz hle hmo]; omega
    rw [hsz]
    have hln : (((endsI s).take k).map (Value.int .i64)).length ≤ ncl s := by simp [ends_len]; omega
    refine ⟨a, _, c, box_cell hg.hb, inr_i64 (by omega) (by omega), fun b1 w4 hn4 => ?_⟩
    obtain ⟨a', c', w5, hr, hko, ho, hfz, hpost⟩ := hg.push (P := Tryd.prog) (tt := 62) (ty := 62) elem64 h41 hn4 rfl (by unfold maxLen; omega) (by omega)
    refine ⟨a', c', w5, hr, hko, rfl, ho, hfz, fun w6 hs6 => ?_⟩
    obtain ⟨hg6, hfr, hnew⟩ := hpost hs6
    refine ⟨_, ⟨hfr, ?_⟩, a', c', rfl, ?_⟩
    · rintro q (rfl | hq)
      · exact ⟨heap_lt hg6.hb, .inl (.inl rfl)⟩
      · exact ⟨hg6.row.lt hq, (hnew q hq).elim (fun h => .inl (.inr h)) .inr⟩
    · rw [take_snoc (ends_at hkl)]; exact hg6
  · rintro D W ⟨a, c, rfl, hg⟩ hM
    rw [lenX_eq, pc_len, List.take_of_length_le (by rw [ends_len]; exact Nat.le_refl _)] at hg
    refine ⟨a, _, c, box_cell hg.hb, fun w3 ht => ⟨(a, (endsI s).length, c), by rw [List.length_map], rfl, ?_⟩⟩
    have eW : Ext w W := hM.ext e02 (fun q hq => by rcases hq with rfl | h; omega; cases h)
    have hrow := hg.row
    rw [List.length_map] at hrow
    refine ⟨hrow.turn ht, fun q hq => ?_, Ext.turn eW ht⟩
    have := (hM.dom q (.inr hq)).2
    have hs2 := e02.size
    rcases this with (h | h) | h
    · omega
    · cases h
    · omega
theorem ccount_ok : (sSN ncl).Ok Tryd.prog 30 := by
  refine ccount_vc ⟨ends_ok, trivial⟩ ?_
  rintro (s : ByteArray) w ⟨hU, hsm⟩
  refine ⟨s, rfl, ⟨hU, hsm⟩, ?_⟩
  rintro ⟨a, n, c⟩ w1 ⟨hn, hm⟩
  dsimp only at hn hm ⊢
  exact ⟨ncl s, by rw [hn, ends_len], rfl, hm.ext⟩
theorem ones_one {a q : Nat} : ones [a] q ↔ q = a := by simp [ones]
theorem ones_two {a b q : Nat} : ones [a, b] q ↔ q = a ∨ q = b := by simp [ones]
theorem clamp_min (s : ByteArray) (p : Int) : (if (s.size : Int) < (if (0 : Int) > p then (0 : Int) else p) then (s.size : Int) else if (0 : Int) > p then (0 : Int) else p) = (clampN s p : Int) := by
  unfold clampN
  split <;> split <;> (try split) <;> (try split) <;> omega
theorem bord_cons (s : ByteArray) : bordI s = 0 :: endsI s := by
  unfold bordI endsI
  rw [List.range_succ_eq_map, List.map_cons, List.map_map]
  rfl
end Go.Proofs.YtjdohhididpomaaDoor
end

section
namespace Go.Proofs.YtjdohhididpomaaDoor
open Go Vc Ut Tb Cl Orb
theorem numL (x : Nat) : ∀ j, (numS x j).length = j
  | 0 => rfl
  | j + 1 => by simp only [numS, List.length_cons, numL x j]
theorem strZ (l : List UInt8) : (strL l).size = l.length := by simp [strL, ByteArray.size]
theorem name_size (x : Nat) : (nameS x).size ≤ 8 := by
  unfold nameS
  rw [ByteArray.size_append, ByteArray.size_append, strZ, strZ, strZ, numL]
  have hj : numJ x ≤ 6 := by unfold numJ digN; split <;> (try split) <;> (try split) <;> (try split) <;> (try split) <;> omega
  show 1 + numJ x + 1 ≤ 8
  omega
theorem wideR_le (r : Int) (b : Bool) : (wideR r b).toNat ≤ 2 := by
  have h0 := widR_nonneg r
  unfold wideR
  split
  · omega
  · split <;> decide
theorem blank_size (n : Nat) : (blankS n).size = n := by simp [blankS, ByteArray.size]
theorem cut_size (k : ByteArray) : (cutS k).size ≤ k.size := by
  unfold cutS
  split
  · have := pos_le k 31; rw [size_ext this]; omega
  · exact Nat.le_refl _
theorem one_w (k : ByteArray) (col : Int) (l : Lk) : (oneC k col l).2 ≤ 16 ∧ (oneC k col l).1.size ≤ k.size + 16 := by
  have h1 := tab_bd l.tab
  have h2 := stop_bd col l.tab
  have h3 := name_size (sg k 0).toNat
  have h4 := wideR_le (sg k 0) l.wide
  have h5 := cut_size k
  have h6 : (ByteArray.mk #[]).size = 0 := rfl
  have h7 : (badS (bt k 0)).size = 4 := rfl
  have h8 : (ctlS (sg k 0)).size = 2 := rfl
  have h9 := blank_size (stopN col l.tab)
  unfold oneC
  split
  · dsimp only; omega
  · split
    · dsimp only; omega
    · split
      · dsimp only; omega
      · split
        · dsimp only; omega
        · split
          · split
            · dsimp only; omega
            · dsimp only; omega
          · split
            · dsimp only; rw [ByteArray.size_append]
              have : (ByteArray.mk #[226, 151, 140]).size = 3 := rfl
              omega
            · split
              · dsimp only; omega
              · split
                · dsimp only; omega
                · dsimp only; omega
theorem oneC_col {k : ByteArray} {c c' : Int} {l : Lk} (h : c.toNat % tabN l.tab = c'.toNat % tabN l.tab) : oneC k c l = oneC k c' l := by
  have e : stopN c l.tab = stopN c' l.tab := by unfold stopN; rw [h]
  unfold oneC
  rw [e]
theorem wdU_le (s : ByteArray) (c : Int) (l : Lk) : ∀ k, wdU s c l k ≤ 16 * k
  | 0 => Nat.le_refl _
  | k + 1 => by
    have := wdU_le s c l k
    have h := (one_w (pcP s k).2 (c + wdU s c l k) l).1
    simp only [wdU]
    omega
theorem wdU_mono (s : ByteArray) (c : Int) (l : Lk) {i j : Nat} (h : i ≤ j) : wdU s c l i ≤ wdU s c l j := by
  induction j with
  | zero => have : i = 0 := by omega
            subst this; exact Nat.le_refl _
  | succ j ih =>
    rcases Nat.lt_or_ge j i with h1 | h1
    · have : i = j + 1 := by omega
      subst this; exact Nat.le_refl _
    · have := ih h1
      simp only [wdU]; omega
theorem piece_one {s : ByteArray} {i : Nat} (hi : i < ncl s) : ncl (pcP s i).2 = 1 ∧ bp (pcP s i).2 1 = (pcP s i).2.size ∧ 0 < (pcP s i).2.size := by
  obtain ⟨t, h1, h2, h3⟩ := pc_own hi
  rw [h1]
  obtain ⟨g1, g2, g3, _⟩ := own_laws h2 h3
  refine ⟨g1, g2, ?_⟩
  exact Nat.lt_of_lt_of_le g3 (cnt_le _)
theorem self_piece {k : ByteArray} (h2 : bp k 1 = k.size) : (pcP k 0).2 = k := by
  unfold pcP
  rw [show (0 : Nat) + 1 = 1 from rfl, h2, bp_zero]; exact ByteArray.extract_zero_size
theorem self_text {k : ByteArray} (h2 : bp k 1 = k.size) (h3 : 0 < k.size) (col : Int) (l : Lk) : textC k col l = oneC k col l := by
  unfold textC
  rw [if_neg (by omega), self_piece h2]
theorem piece_text {s : ByteArray} {i : Nat} (hi : i < ncl s) (col : Int) (l : Lk) : textC (pcP s i).2 col l = oneC (pcP s i).2 col l := by
  obtain ⟨h1, h2, h3⟩ := piece_one hi
  exact self_text h2 h3 col l
theorem cut_at {s : ByteArray} {w : Int} {l : Lk} {i : Nat} (hi : i < ncl s) (hn : ∀ j, j < i → ¬ w < (wdU s 0 l (j + 1) : Int)) (h : w < (wdU s 0 l (i + 1) : Int)) : cutI s w l = i := by
  unfold cutI
  have : (List.range (ncl s)).find? (fun i => decide (w < (wdU s 0 l (i + 1) : Int))) = some i := by
    rw [List.find?_range_eq_some]
    exact ⟨decide_eq_true h, List.mem_range.2 hi, fun j hj => by simpa using hn j hj⟩
  rw [this]; rfl
theorem cut_none {s : ByteArray} {w : Int} {l : Lk} (hn : ∀ j, j < ncl s → ¬ w < (wdU s 0 l (j + 1) : Int)) : cutI s w l = ncl s := by
  unfold cutI
  have : (List.range (ncl s)).find? (fun i => decide (w < (wdU s 0 l (i + 1) : Int))) = none := by
    rw [List.find?_eq_none]
    intro x hx
    simpa using hn x (List.mem_range.1 hx)
  rw [this]; rfl
theorem cutP_at {s : ByteArray} {w : Int} {l : Lk} {i : Nat} (hi : i < ncl s) (hn : ∀ j, j < i → ¬ w < (wdU s 0 l (j + 1) : Int)) (h : w < (wdU s 0 l (i + 1) : Int)) : cutP s w l = bp s i := by
  unfold cutP; rw [cut_at hi hn h, if_pos hi]
theorem cutP_none {s : ByteArray} {w : Int} {l : Lk} (hn : ∀ j, j < ncl s → ¬ w < (wdU s 0 l (j + 1) : Int)) : cutP s w l = if w < 0 then 0 else s.size := by
  unfold cutP; rw [cut_none hn, if_neg (Nat.lt_irrefl _)]
theorem plainU_size (s : ByteArray) : ∀ k, (plainU s k).size ≤ bp s k + 16 * k
  | 0 => Nat.zero_le _
  | k + 1 => by
    have h := plainU_size s k
    have h1 := (one_w (pcP s k).2 0 rawL).2
    have h2 : (pcP s k).2.size = bp s (k + 1) - bp s k := size_ext (bp_le s _)
    have h3 := bp_mono s (show k ≤ k + 1 by omega)
    have h4 : (plainP (pcP s k).2).size ≤ (pcP s k).2.size + 16 := by
      unfold plainP
      split
      · exact Nat.le_trans (show (4 : Nat) ≤ 16 by decide) (Nat.le_add_left _ _)
      · split
        · exact Nat.le_trans (show (2 : Nat) ≤ 16 by decide) (Nat.le_add_left _ _)
        · split
          · exact Nat.le_trans (show (2 : Nat) ≤ 16 by decide) (Nat.le_add_left _ _)
          · exact h1
    simp only [plainU]
    rw [ByteArray.size_append]
    omega
end Go.Proofs.YtjdohhididpomaaDoor
end

section
namespace Go.Proofs.YtjdohhididpomaaDoor
open Go Vc Ut Tb Cl Orb
theorem goN_upto {s : ByteArray} {k j : Nat} (hk : k ≤ cnt s) : ∀ f n, j + n ≤ k → k ≤ j + goN s j f n → k ≤ j + n + f → goN (s.extract 0 (pos s k)) j f n = k - j
  | 0, n, h1, h2, h3 => by simp only [goN]; omega
  | f + 1, n, h1, h2, h3 => by
    simp only [goN] at h2 ⊢
    by_cases hn : j + n < k
    · rw [goB_take hk hn]
      by_cases hg : goB s j n = true
      · rw [if_pos hg] at h2
        rw [if_pos hg]
        exact goN_upto hk f (n + 1) (by omega) h2 (by omega)
      · rw [if_neg hg] at h2; omega
    · have he : goB (s.extract 0 (pos s k)) j n = false := by
        unfold goB
        rw [cnt_take hk, decide_eq_false (by omega)]; rfl
      rw [if_neg (by rw [he]; decide)]
      omega
theorem ncl_one {k : ByteArray} (h0 : 0 < cnt k) (h : firstN k 0 = cnt k) : ncl k = 1 := by
  have hk : bk k 1 = cnt k := by
    have h1 := bk_succ (s := k) (i := 0) (bk_lt.2 (by show 0 < cnt k; exact h0))
    rw [show bk k 0 = 0 from rfl] at h1
    simp only [Nat.zero_add] at h1
    omega
  have h1 : ¬ 1 < ncl k := fun h => by have := bk_lt.1 h; omega
  have h2 : 0 < ncl k := bk_lt.2 (by show 0 < cnt k; exact h0)
  omega
theorem head_one {k : ByteArray} (h : ncl k = 1) (hcr : crB k 0 = false) {j : Nat} (h1 : 1 ≤ j) (hj : j ≤ cnt k) : ncl (k.extract 0 (pos k j)) = 1 := by
  obtain ⟨h0, hf, _⟩ := one_first h
  have hc := cnt_take hj
  refine ncl_one (by omega) ?_
  rw [hc]
  unfold firstN at hf ⊢
  have hb : isBad (k.extract 0 (pos k j)) 0 = isBad k 0 := bad_take (by omega) hj
  have hs : sg (k.extract 0 (pos k j)) 0 = sg k 0 := sg_take (by omega) hj
  have hcr2 : crB (k.extract 0 (pos k j)) 0 = false := by
    unfold crB at hcr ⊢
    rw [hs, hc]
    by_cases h2 : 1 < j
    · rw [sg_take h2 hj, decide_eq_true (show 0 + 1 < j by omega)]
      rw [decide_eq_true (show 0 + 1 < cnt k by omega)] at hcr
      exact hcr
    · rw [decide_eq_false (show ¬ 0 + 1 < j by omega)]
      simp
  rw [hb, hs, hcr2]
  rw [hcr] at hf
  by_cases hbad : isBad k 0 = true
  · rw [if_pos hbad] at hf ⊢; omega
  · rw [if_neg hbad] at hf ⊢
    rw [if_neg (by decide)] at hf ⊢
    by_cases ha : aloneB (sg k 0) = true
    · rw [if_pos ha] at hf ⊢; omega
    · rw [if_neg ha] at hf ⊢
      have := goN_upto (j := 0) hj 32 1 (by omega) (by omega) (by have := one_le h; omega)
      omega
structure PlainK (k : ByteArray) (wd : Bool) : Prop where
  val : validB k = true
  one : ncl k = 1
  bad : isBad k 0 = false
  n9 : ¬ sg k 0 = 9
  nl : ¬ (sg k 0 = 10 ∨ secR k = 10)
  ctl : ¬ (sg k 0 < 32 ∨ sg k 0 = 127)
  fmt : fmtB (sg k 0) = false
  mark : ¬ (kindR (sg k 0) = 2 ∨ joinB (sg k 0) = true)
  wid : ¬ wideR (sg k 0) wd = 0 ∨ (regB (sg k 0) = true ∧ regB (secR k) = true)
def twoK (k : ByteArray) (wd : Bool) : Prop := (regB (sg k 0) = true ∧ regB (secR k) = true) ∨ (kindR (sg k 0) = 7 ∧ wideR (sg k 0) wd = 1 ∧ secR k = 65039)
instance (k : ByteArray) (wd : Bool) : Decidable (twoK k wd) := by unfold twoK; exact inferInstance
theorem valid_bad {k : ByteArray} (h : validB k = true) (h0 : 0 < cnt k) : isBad k 0 = false := by
  unfold validB at h
  rw [List.all_eq_true] at h
  have := h 0 (List.mem_range.2 h0)
  simpa using this
theorem one_text {k : ByteArray} (h : ncl k = 1) (c : Int) (l : Lk) : textC k c l = oneC k c l := self_text (one_first h).2.2 (one_bt h) c l
theorem plain_oneC {k : ByteArray} {wd : Bool} (h : PlainK k wd) : oneC k 0 (lkW wd) = (k, if twoK k wd then 2 else (wideR (sg k 0) wd).toNat) := by
  by_cases h2 : twoK k wd
  · rw [if_pos h2]
    exact oneC_two h.bad h.n9 h.nl h.ctl h.fmt h.mark h2
  · rw [if_neg h2]
    rw [oneC_wid (l := lkW wd) h.bad h.n9 h.nl h.ctl h.fmt h.mark h2, if_neg]
    · rfl
    · rcases h.wid with hw | hw
      · exact hw
      · exact absurd (.inl hw) h2
end Go.Proofs.YtjdohhididpomaaDoor
end

section
namespace Go.Proofs.YtjdohhididpomaaDoor.Ut
open Go Vc
theorem bt_app {s u : ByteArray} {i : Nat} (h : i < s.size) : bt (s ++ u) i = bt s i := by
  have hl := size_list s
  unfold bt
  rw [ByteArray.toList_data_append, List.getD_eq_getElem?_getD, List.getD_eq_getElem?_getD, List.getElem?_append_left (by omega)]
theorem okB_app {s u : ByteArray} {n : Nat} (h0 : 0 < s.size) (h : n < s.size) : okB (s ++ u) n ↔ okB s n := by
  have e1 : loB (s ++ u) n = loB s n := by unfold loB; rw [bt_app h0]
  have e2 : hiB (s ++ u) n = hiB s n := by unfold hiB; rw [bt_app h0]
  have hs : (s ++ u).size = s.size + u.size := ByteArray.size_append
  unfold okB
  rw [e1, e2, bt_app h]
  constructor
  · exact fun hh => ⟨h, hh.2⟩
  · exact fun hh => ⟨by omega, hh.2⟩
theorem runB_app {s u : ByteArray} (h0 : 0 < s.size) : ∀ (f n : Nat), n ≤ s.size → (runB s f n ≠ s.size ∨ runB s f n = n + f) → runB (s ++ u) f n = runB s f n
  | 0, n, _, _ => rfl
  | f + 1, n, hn, h => by
    unfold runB at h ⊢
    by_cases k : okB s n
    · rw [if_pos k] at h ⊢
      rw [if_pos ((okB_app h0 k.1).2 k)]
      exact runB_app h0 f (n + 1) k.1 (h.imp id (fun h => by omega))
    · rw [if_neg k] at h ⊢
      have hlt : n < s.size := by omega
      rw [if_neg (fun hh => k ((okB_app h0 hlt).1 hh))]
theorem numP_app {s u : ByteArray} (k : Nat) : ∀ (n : Nat), n < s.size → numP (s ++ u) k n = numP s k n
  | 0, h => by unfold numP; rw [bt_app h]
  | n + 1, h => by simp only [numP]; rw [numP_app k n (by omega), bt_app h]
theorem next_app {s u : ByteArray} (h : wholeB s = true) : nextR (s ++ u) = nextR s := by
  unfold wholeB at h
  simp only [decide_eq_true_eq] at h
  obtain ⟨h0, h1⟩ := h
  have hp : 0 < s.size := by omega
  have hs : (s ++ u).size = s.size + u.size := ByteArray.size_append
  have hle := begN_le s
  have hS : begS (s ++ u) = begS s := by unfold begS; rw [if_neg (by omega), if_neg h0, bt_app hp]
  have hN : begN (s ++ u) = begN s := by
    unfold begN at h1 ⊢
    unfold begS at h1
    rw [if_neg h0] at h1 ⊢
    rw [if_neg (by omega), bt_app hp]
    rw [if_neg h0] at h1
    by_cases h2 : bt s 0 < 128
    · rw [if_pos h2, if_pos h2]
    · rw [if_neg h2] at h1 ⊢
      rw [if_neg h2] at h1 ⊢
      by_cases h3 : (secN (bt s 0)).2.2 = 0
      · rw [if_pos h3, if_pos h3]
      · rw [if_neg h3] at h1 ⊢
        rw [if_neg h3]
        exact runB_app hp _ 1 (by omega) (h1.imp id (fun h => by omega))
  unfold nextR
  rw [if_neg (by omega), if_neg h0, hS, hN]
  by_cases h4 : begN s = 0 ∨ begN s < begS s
  · rw [if_pos h4, if_pos h4]
  · rw [if_neg h4, if_neg h4]
    have : numR (s ++ u) (begS s) = numR s (begS s) := numP_app _ _ (by omega)
    rw [this]
theorem nx_app {s u : ByteArray} (h : wholeB s = true) : nxN (s ++ u) = nxN s ∧ nxR (s ++ u) = nxR s := by
  have h1 := nextR_nx (s ++ u)
  have h2 := nextR_nx s
  rw [next_app h] at h1
  exact ⟨h1.2.symm.trans h2.2, h1.1.symm.trans h2.1⟩
theorem runes_cons {s : ByteArray} (h : s.size ≠ 0) : runes s = nxR s :: runes (s.extract (nxN s) s.size) := by
  have hc : 0 < cnt s := cnt_lt.2 (by simp only [pos]; omega)
  have hp : pos s 1 = nxN s := by
    rw [pos_succ (n := 0) (by simp only [pos]; omega)]
    unfold nxN; rw [if_neg h]; simp [pos]
  have h1 := cnt_drop (s := s) (k := 1) (by omega)
  rw [← hp]
  refine runes_ext (by rw [List.length_cons, runes_len, runes_len]; omega) fun i hi => ?_
  rw [runes_len] at hi
  rw [runes_at hi]
  cases i with
  | zero => rw [List.getD_cons_zero]; unfold nxR; rw [if_neg h]; simp [pos]
  | succ i =>
    rw [List.getD_cons_succ, runes_at (by omega)]
    unfold dcR; rw [dc_drop, Nat.add_comm 1 i]
theorem extract_ext (t : ByteArray) (p k : Nat) (hp : p ≤ t.size) : (t.extract p t.size).extract k (t.extract p t.size).size = t.extract (p + k) t.size := by
  rw [ByteArray.extract_extract, size_ext (Nat.le_refl _)]
  congr 1
  omega
theorem drop_app (s u : ByteArray) (k : Nat) (h : k ≤ s.size) : (s ++ u).extract k (s ++ u).size = s.extract k s.size ++ u := by
  have hs : (s ++ u).size = s.size + u.size := ByteArray.size_append
  rw [ByteArray.extract_append, hs, show k - s.size = 0 from by omega, show s.size + u.size - s.size = u.size from by omega, ByteArray.extract_zero_size]
  congr 1
  refine ByteArray.ext (Array.ext' ?_)
  have hl := size_list s
  rw [ByteArray.data_extract, ByteArray.data_extract, Array.toList_extract, Array.toList_extract]
  show (s.data.toList.drop k).take _ = (s.data.toList.drop k).take _
  rw [List.take_of_length_le (by rw [List.length_drop]; omega), List.take_of_length_le (by rw [List.length_drop]; omega)]
theorem tell_step {t u : ByteArray} : ∀ (n : Nat), n ≤ cnt t → (∀ j, j < n → wholeB (t.extract (pos t j) t.size) = true) → runes (t ++ u) = (runes t).take n ++ runes (t.extract (pos t n) t.size ++ u)
  | 0, _, _ => by simp [pos, ByteArray.extract_zero_size]
  | n + 1, hn, h => by
    rw [tell_step n (by omega) (fun j hj => h j (by omega))]
    have hw := h n (by omega)
    have hp := cnt_lt.1 (show n < cnt t by omega)
    have hz : (t.extract (pos t n) t.size).size = t.size - pos t n := size_ext (Nat.le_refl _)
    obtain ⟨d1, d2⟩ := drop_next (s := t) (k := n) (by omega)
    have hd := dcN_le hp
    have hr := runes_len t
    have e1 : runes (t.extract (pos t n) t.size ++ u) = dcR t (pos t n) :: runes (t.extract (pos t (n + 1)) t.size ++ u) := by
      have hs : (t.extract (pos t n) t.size ++ u).size = (t.extract (pos t n) t.size).size + u.size := ByteArray.size_append
      rw [runes_cons (by omega), (nx_app hw).1, (nx_app hw).2, d1, d2, drop_app _ _ _ (by omega), extract_ext t _ _ (by omega), pos_succ hp]
    rw [e1, List.take_add_one, List.getElem?_eq_getElem (by omega)]
    have e2 : (runes t)[n]'(by omega) = dcR t (pos t n) := by
      have := runes_at (s := t) (n := n) (by omega)
      rw [List.getD_eq_getElem?_getD, List.getElem?_eq_getElem (by omega)] at this
      exact this
    rw [e2]; simp
theorem runB_all {s : ByteArray} : ∀ (f n i : Nat), n ≤ i → i < runB s f n → okB s i
  | 0, n, i, h1, h2 => by simp only [runB] at h2; omega
  | f + 1, n, i, h1, h2 => by
    unfold runB at h2
    split at h2
    · rename_i k
      by_cases e : i = n
      · subst e; exact k
      · exact runB_all f (n + 1) i (by omega) h2
    · omega
theorem runes_cont : ∀ (n : Nat) (s : ByteArray), s.size = n → (∀ i, i < s.size → 128 ≤ bt s i ∧ bt s i < 192) → runes s = List.replicate n 65533
  | 0, s, h, _ => List.eq_nil_of_length_eq_zero (by rw [runes_len]; have := cnt_le s; omega)
  | n + 1, s, h, hb => by
    have h0 : s.size ≠ 0 := by omega
    have hb0 := hb 0 (by omega)
    have hsec : (secN (bt s 0)).2.2 = 0 := by
      unfold secN
      rw [if_neg (by omega), if_neg (by omega), if_neg (by omega), if_neg (by omega), if_neg (by omega), if_neg (by omega), if_neg (by omega)]
    have hN : begN s = 0 := by unfold begN; rw [if_neg h0, if_neg (by omega), if_pos hsec]
    have hx : nextR s = (65533, 1) := by unfold nextR; rw [if_neg h0, if_pos (.inl hN)]
    have h1 := nextR_nx s
    rw [hx] at h1
    have hz : (s.extract 1 s.size).size = s.size - 1 := size_ext (Nat.le_refl _)
    rw [runes_cons h0, ← h1.1, ← h1.2, runes_cont n (s.extract 1 s.size) (by omega) (fun i hi => by rw [bt_ext (by omega)]; exact hb (1 + i) (by omega)), List.replicate_succ]
    rfl
theorem runes_held {s : ByteArray} (h : wholeB s = false) : s.size ≤ 3 ∧ runes s = List.replicate s.size 65533 := by
  by_cases h0 : s.size = 0
  · exact ⟨by omega, List.eq_nil_of_length_eq_zero (by rw [runes_len, cnt_zero.2 h0]) |>.trans (by rw [h0]; rfl)⟩
  unfold wholeB at h
  simp only [decide_eq_false_iff_not, not_and, not_or] at h
  obtain ⟨h1, h2⟩ := h h0
  have h1 : begN s = s.size := by omega
  have hle := begN_le s
  have hb : ¬ bt s 0 < 128 := fun hh => h2 (by unfold begN begS; rw [if_neg h0, if_neg h0, if_pos hh, if_pos hh])
  have hS : begS s = (secN (bt s 0)).2.2 := by unfold begS; rw [if_neg h0, if_neg hb]
  have h3 : ¬ (secN (bt s 0)).2.2 = 0 := fun hh => by omega
  have hN : begN s = runB s ((secN (bt s 0)).2.2 - 1) 1 := by unfold begN; rw [if_neg h0, if_neg hb, if_neg h3]
  have hx : nextR s = (65533, 1) := by unfold nextR; rw [if_neg h0, if_pos (.inr (by omega))]
  have h4 := nextR_nx s
  rw [hx] at h4
  have hz : (s.extract 1 s.size).size = s.size - 1 := size_ext (Nat.le_refl _)
  have hsec : 128 ≤ (secN (bt s 0)).1 ∧ (secN (bt s 0)).2.1 ≤ 191 := by
    revert h3
    unfold secN
    repeat' split
    all_goals simp
  refine ⟨by omega, ?_⟩
  rw [runes_cons h0, ← h4.1, ← h4.2, runes_cont (s.size - 1) (s.extract 1 s.size) (by omega) (fun i hi => ?_)]
  · obtain ⟨n, hn⟩ : ∃ n, s.size = n + 1 := ⟨s.size - 1, by omega⟩
    rw [hn, List.replicate_succ]; rfl
  · rw [bt_ext (by omega)]
    have hk := runB_all (s := s) _ 1 (1 + i) (by omega) (by rw [← hN]; omega)
    obtain ⟨_, k1, k2⟩ := hk
    unfold loB at k1; unfold hiB at k2
    split at k1 <;> simp_all <;> omega
end Go.Proofs.YtjdohhididpomaaDoor.Ut
end
