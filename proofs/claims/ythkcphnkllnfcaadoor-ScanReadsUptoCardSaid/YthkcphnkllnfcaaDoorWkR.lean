/-
  Chapter 1: readers, the program's and the document's.
-/
import Derived.Test.YthkcphnkllnfcaaDoorVgM
import Derived.Test.YthkcphnkllnfcaaDoorWkD
import Derived.Test.YthkcphnkllnfcaaDoorGa
import Derived.Test.YthkcphnkllnfcaaDoorUs
set_option linter.unusedVariables false
set_option linter.unusedSimpArgs false
namespace Go.Proofs.YthkcphnkllnfcaaDoor
open Go Go.RowKit Vc Ut

theorem bytesV_len (s : ByteArray) : (bytesV s).length = s.size := by unfold bytesV; rw [List.length_map, size_list]
theorem bytesV_at {s : ByteArray} {i : Nat} (h : i < s.size) : (bytesV s)[i]? = some (.int .u8 (bt s i : Int)) := by
  have := size_list s
  unfold bytesV bt
  rw [List.getElem?_map, List.getD_eq_getElem?_getD, List.getElem?_eq_getElem (by omega)]; rfl
theorem bytesV_append (a b : ByteArray) : bytesV (a ++ b) = bytesV a ++ bytesV b := by
  unfold bytesV; rw [ByteArray.toList_data_append, List.map_append]
theorem bytesV_drop (s : ByteArray) (k : Nat) : bytesV (s.extract k s.size) = (bytesV s).drop k := by
  unfold bytesV
  have e : (s.extract k s.size).data.toList = s.data.toList.drop k := by
    rw [ByteArray.data_extract, Array.toList_extract]
    show (s.data.toList.drop k).take (s.size - k) = _
    rw [List.take_of_length_le]
    rw [List.length_drop, size_list]; exact Nat.le_refl _
  rw [e, List.map_drop]
theorem bytesV_one (s : ByteArray) : ∀ u ∈ bytesV s, u.oneCell' = true := by
  intro u hu; obtain ⟨x, _, rfl⟩ := List.mem_map.1 hu; rfl
theorem byteAt {w : World} {ad : Option Addr} {s : ByteArray} {i : Nat} {K : Nat → Nat → Prop} (h : CellsAt w ad (bytesV s)) (hi : i < s.size) (hk : ∀ b o, w.cell? ⟨b, o + i, none⟩ = some (.int .u8 (bt s i : Int)) → K b o) : ptrE ad K :=
  h.ptr (bytesV_at hi) hk

theorem tw_len {α : Type} (p : α → Bool) : ∀ (l : List α) (n : Nat), n ≤ l.length → (∀ j x, j < n → l[j]? = some x → p x = true) → (∀ x, l[n]? = some x → p x = false) → (l.takeWhile p).length = n
  | [], n, h, _, _ => by simp at h; subst h; rfl
  | y :: l, 0, _, _, h2 => by
    have := h2 y rfl
    simp [this]
  | y :: l, n + 1, h, h1, h2 => by
    have hy := h1 0 y (by omega) rfl
    rw [List.takeWhile_cons, if_pos hy, List.length_cons, tw_len p l n (by simpa using h) (fun j x hj hx => h1 (j + 1) x (by omega) (by simpa using hx)) (fun x hx => h2 x (by simpa using hx))]
theorem fdN_of {t : ByteArray} {n : Nat} (hn : n ≤ cnt t) (h1 : ∀ j, j < n → wholeB (t.extract (pos t j) t.size) = true) (h2 : n = cnt t ∨ wholeB (t.extract (pos t n) t.size) = false) : fdN t = n := by
  unfold fdN
  refine tw_len _ _ n (by simpa using hn) (fun j x hj hx => ?_) (fun x hx => ?_)
  · obtain ⟨h3, h4⟩ := List.getElem?_eq_some_iff.1 hx
    rw [List.getElem_range] at h4; subst h4; exact h1 _ hj
  · obtain ⟨h3, h4⟩ := List.getElem?_eq_some_iff.1 hx
    rw [List.getElem_range] at h4; subst h4
    rw [List.length_range] at h3
    exact h2.resolve_left (by omega)

set_option maxRecDepth 20000 in
theorem fullB_ok : sFullB.Ok Tryd.prog 57 := by
  refine fullB_vc trivial ?_
  rintro ⟨ad, c, s⟩ w ⟨hU, hcl⟩
  dsimp only at hcl ⊢
  refine bcase_mk (fun h => ?_) (fun h => ?_)
  · have h0 : s.size = 0 := by simp only [beq_iff_eq] at h; omega
    exact ⟨false, rfl, by unfold wholeB; simp [h0], Ext.refl _⟩
  have h0 : ¬ s.size = 0 := by simp only [beq_eq_false_iff_ne, ne_eq] at h; omega
  have hw := wholeB_cases s h0
  have hf := first_sec ⟨bt s 0, bt_lt s 0⟩
  dsimp only at hf
  obtain ⟨hf1, hf2, hf3, hf4⟩ := hf
  have hbd := secN_bd (bt s 0)
  have hc := hU.1 (bt s 0) (bt_lt s 0)
  refine ⟨0, rfl, by omega, byteAt hcl (by omega) fun b o hbo => ⟨_, hbo, bt s 0, rfl, bt_lt s 0, Lib.firstT (bt s 0), by rw [Nat.zero_add]; exact hc, ?_, ?_⟩⟩
  · rw [hf1]; repeat' split
    all_goals exact inr_i64 (by omega) (by omega)
  rw [hf1]
  refine bcase_mk (fun h => ⟨true, rfl, ?_, Ext.refl _⟩) (fun h => ?_)
  · rw [hw, if_pos]
    simp only [ge_iff_le, decide_eq_true_eq] at h
    unfold begS; rw [if_neg h0]
    split at h
    · rename_i h1; rw [if_pos h1]; omega
    · rename_i h1; rw [if_neg h1]
      split at h <;> omega
  simp only [ge_iff_le, decide_eq_false_iff_not] at h
  have h1 : ¬ bt s 0 < 128 := fun hh => by rw [if_pos hh] at h; omega
  rw [if_neg h1] at h
  have h2 : ¬ (secN (bt s 0)).2.2 = 0 := fun hh => by rw [if_pos hh] at h; omega
  rw [if_neg h2] at h
  have hS : begS s = (secN (bt s 0)).2.2 := by unfold begS; rw [if_neg h0, if_neg h1]
  rw [if_neg (by omega)] at hw
  obtain ⟨hlo, hhi⟩ := hf4 h2
  have hacc := hU.2 (Lib.firstT (bt s 0) / 16) hf3
  rw [hlo, hhi] at hacc
  have o1 : 1 < s.size → (okB s 1 ↔ (secN (bt s 0)).1 ≤ bt s 1 ∧ bt s 1 ≤ (secN (bt s 0)).2.1) := fun hh => by unfold okB loB hiB; simp [hh]
  have o2 : 2 < s.size → (okB s 2 ↔ 128 ≤ bt s 2 ∧ bt s 2 ≤ 191) := fun hh => by unfold okB loB hiB; simp [hh]
  refine ⟨Lib.firstT (bt s 0) / 16, hf2, hf3, (secN (bt s 0)).1, by rw [Nat.zero_add, Nat.mul_comm]; exact hacc.1, (secN (bt s 0)).2.1, by rw [Nat.zero_add, Nat.mul_comm]; exact hacc.2, ?_⟩
  intro b w1 hn w2 hd
  have hx : Ext w w2 := Ext.trans hn.ext hd.ext
  have hcl1 := hcl.ext hn.ext
  have hcl2 := hcl.ext hx
  refine bcase_mk (fun h3 => ?_) (fun h3 => ?_)
  · have h3 : 1 < s.size := by simp only [gt_iff_lt, decide_eq_true_eq] at h3; omega
    have o1 := o1 h3
    refine ⟨1, rfl, h3, byteAt hcl1 h3 fun b2 p2 hb2 => ⟨_, hb2, (secN (bt s 0)).1, by rw [hn.cell]; rfl, bcase_mk (fun h4 => ⟨true, rfl, ?_, hx⟩) (fun h4 => ?_)⟩⟩
    · have : ¬ okB s 1 := fun hh => by have := o1.1 hh; have h4' : ((bt s 1 : Nat) : Int) < (((secN (bt s 0)).1 : Nat) : Int) := of_decide_eq_true h4; omega
      rw [hw, if_pos ⟨h3, this⟩]
    refine ⟨(secN (bt s 0)).2.1, by rw [hn.cell]; rfl, 1, rfl, h3, byteAt hcl1 h3 fun b3 p3 hb3 => ⟨_, hb3, bcase_mk (fun h5 => ⟨true, rfl, ?_, hx⟩) (fun h5 => ?_)⟩⟩
    · have : ¬ okB s 1 := fun hh => by have := o1.1 hh; have h5' : (((secN (bt s 0)).2.1 : Nat) : Int) < ((bt s 1 : Nat) : Int) := of_decide_eq_true h5; omega
      rw [hw, if_pos ⟨h3, this⟩]
    have k1 : okB s 1 := o1.2 (by have h4' : ¬ ((bt s 1 : Nat) : Int) < (((secN (bt s 0)).1 : Nat) : Int) := of_decide_eq_false h4; have h5' : ¬ (((secN (bt s 0)).2.1 : Nat) : Int) < ((bt s 1 : Nat) : Int) := of_decide_eq_false h5; omega)
    rw [if_neg (fun hh => hh.2 k1)] at hw
    refine bcase_mk (fun h6 => ?_) (fun h6 => ⟨false, rfl, ?_, hx⟩)
    · have h6 : 2 < s.size := by simp only [gt_iff_lt, decide_eq_true_eq] at h6; omega
      have o2 := o2 h6
      refine ⟨2, rfl, h6, byteAt hcl2 h6 fun b4 p4 hb4 => ⟨_, hb4, ?_⟩⟩
      refine bcase_mk (fun h7 => ⟨true, rfl, ?_, hx⟩) (fun h7 => ⟨2, rfl, h6, byteAt hcl2 h6 fun b5 p5 hb5 => ⟨_, hb5, ?_⟩⟩)
      rotate_left
      refine bcase_mk (fun h8 => ⟨true, rfl, ?_, hx⟩) (fun h8 => ⟨false, rfl, ?_, hx⟩)
      rotate_right
      · have : ¬ okB s 2 := fun hh => by have := o2.1 hh; have h7' : ((bt s 2 : Nat) : Int) < 128 := of_decide_eq_true h7; omega
        rw [hw, if_pos ⟨h6, this⟩]
      · have : ¬ okB s 2 := fun hh => by have := o2.1 hh; have h8' : (191 : Int) < ((bt s 2 : Nat) : Int) := of_decide_eq_true h8; omega
        rw [hw, if_pos ⟨h6, this⟩]
      · have : okB s 2 := o2.2 (by have h7' : ¬ ((bt s 2 : Nat) : Int) < 128 := of_decide_eq_false h7; have h8' : ¬ (191 : Int) < ((bt s 2 : Nat) : Int) := of_decide_eq_false h8; omega)
        rw [hw, if_neg (fun hh => hh.2 this)]
    · have h6 : ¬ 2 < s.size := by simp only [gt_iff_lt, decide_eq_false_iff_not] at h6; omega
      rw [hw, if_neg (fun hh => h6 hh.1)]
  · have h3 : ¬ 1 < s.size := by simp only [gt_iff_lt, decide_eq_false_iff_not] at h3; omega
    refine bcase_mk (fun h6 => by simp only [gt_iff_lt, decide_eq_true_eq] at h6; omega) (fun h6 => ⟨false, rfl, ?_, hx⟩)
    rw [hw, if_neg (fun hh => h3 hh.1), if_neg (by omega)]

theorem decB_ok : sDecB.Ok Tryd.prog 58 := by
  rintro ⟨ad, c, s⟩ w ⟨hU, hcl, h0⟩
  dsimp only at hcl h0
  rcases hcl with hcl | ⟨b, o, rfl, hcl⟩
  · have := bytesV_len s
    rw [hcl] at this; simp at this; omega
  refine (Tryd.utf8_DecodeRune s b o c w hU (fun j hj => ?_)).mono fun e w' ⟨he, hx⟩ => ⟨(nxR s, nxN s), ?_, ⟨rfl, rfl, hx⟩, KO.below hx (Nat.le_refl _)⟩
  · rw [hcl j _ (bytesV_at hj)]
    have e : (s.get! j).toNat = bt s j := by
      unfold bt
      have hl := size_list s
      rw [List.getD_eq_getElem?_getD, List.getElem?_eq_getElem (by omega)]
      show (s.data[j]!).toNat = _
      rw [getElem!_pos s.data j hj]; rfl
    rw [e]
  · have := decodeGo_eq s
    rw [he, this.1, this.2]; rfl

theorem feed_ok : sFeed.Ok Tryd.prog 40 := by
  refine feed_vc ⟨fullB_ok, decB_ok, trivial⟩ ?_
  rintro ⟨rb, ha, hc, h, ad, c, b⟩ w ⟨hU, hr, hb, hs1, hs2⟩ w1 hd
  dsimp only at hr hb hs1 hs2 ⊢
  have hle := hr.le
  refine ⟨ha, h.size, hc, box_cell hr.box, ha, h.size, hc, box_cell hr.box, ha, h.size, hc, box_cell hr.box, h.size, h.size, rfl, rfl, Nat.le_refl _, hle, ?_⟩
  obtain ⟨a', c', w2, hrun, hko, e12, hcl, hlc⟩ := app_cells (P := Tryd.prog) (ty := 47) (cx := c) elem8 (hr.cells.ext hd.ext) (bytesV_len h) (hb.ext hd.ext) (bytesV_len b) (bytesV_one b) (by unfold maxLen; omega) (by omega)
  refine ⟨a', c', w2, hrun, hko, ?_, ?_⟩
  · refine ⟨(0, (a', c'), (none, 0)), ?_, rfl, Nat.zero_le _, fun j hj => by omega, ?_, ?_, Made.nil _ _ _⟩
    · show Value.slice a' (h.size + b.size) c' = Value.slice a' ((h ++ b).size - 0) c'
      rw [ByteArray.size_append, Nat.sub_zero]
    · show CellsAt w2 a' (bytesV ((h ++ b).extract 0 (h ++ b).size))
      rw [ByteArray.extract_zero_size, bytesV_append]; exact hcl
    · show (h ++ b).size - 0 ≤ c'
      rw [ByteArray.size_append]; omega
  have hts : (h ++ b).size = h.size + b.size := ByteArray.size_append
  generalize h ++ b = t at hts ⊢
  have e02 : Ext w w2 := Ext.trans hd.ext e12
  have hct := cnt_le t
  have hrl := runes_len t
  rintro _ ⟨n, ⟨a, ac⟩, ⟨o, oc⟩⟩ w3 ⟨hn, hwh, hcl0, hac, hm⟩
  dsimp only at hn hwh hcl0 hac hm ⊢
  have hcl3 := hcl0.ext hm.ext
  have hpl := pos_le t n
  have hxs : (t.extract (pos t n) t.size).size = t.size - pos t n := size_ext (Nat.le_refl _)
  have e03 := e02.trans hm.ext
  have fin : ∀ {w4 : World}, Ext w3 w4 → fdN t = n → ∃ (a'1 : Option Addr) (c'1 : Nat) (w'3 : World), AppRun Tryd.prog #[47, 47] 47 (.slice none 0 0) (.slice a (t.size - pos t n) ac) w4 a'1 (0 + (t.size - pos t n)) c'1 w'3 ∧ KO w4 w'3 ∧
      true = true ∧ (∃ old, w'3.cell? ⟨rb, 0, none⟩ = some old) ∧ w'3.frozen? ⟨rb, 0, none⟩ = false ∧ ∀ (w11 : World), Stored w'3 ⟨rb, 0, none⟩ (.slice a'1 (0 + (t.size - pos t n)) c'1) w11 →
      ∃ (x2 : (Option Addr × Nat × Nat) × Option Addr × Nat), Value.slice o n oc = Value.slice x2.1.1 x2.1.2.1 x2.1.2.2 ∧ x2.1.2.1 = (fdR t).length ∧ NewRow w w11 21 x2.1.1 x2.1.2.1 ((fdR t).map (Value.int .i32)) x2.1.2.2 ∧ RdIn w11 rb x2.2.1 x2.2.2 (fdH t) ∧
        (∀ q, blk x2.2.1 = some q → w.heap.size ≤ q) ∧ (∀ q, blk x2.1.1 = some q → blk x2.2.1 ≠ some q) ∧ Fr (fun q => q = rb) w w11 := by
    intro w4 e34 hfd
    have e04 := e03.trans e34
    obtain ⟨a2, c2, w5, hrun2, hko2, hrow, hg, hor, _⟩ := (Row.nil w4 5 1).pushS (P := Tryd.prog) (ty := 47) elem8 (by decide) (sa := a) (cx := ac) (m := t.size - pos t n) (news := bytesV (t.extract (pos t n) t.size)) (by rw [bytesV_len]; omega) (hcl3.ext e34) (bytesV_one _) (by unfold maxLen; omega) (.inr (by omega))
    have e45 : Ext w4 w5 := (Fr.grown hg).ext (fun q _ h => by cases h)
    have e05 := e04.trans e45
    have hbx := e05.heap hr.box
    have hrb := heap_lt hr.box
    have nw : ∀ q, blk a2 = some q → w4.heap.size ≤ q := fun q hq => by
      rcases hor with rfl | ⟨rfl, _⟩
      · cases hq
      · simp [blk] at hq; omega
    refine ⟨a2, c2, w5, hrun2, hko2, rfl, box_old hbx, box_free hbx, fun w6 hs6 => ?_⟩
    have hfr : fdR t = (runes t).take n := by unfold fdR; rw [hfd]
    have s02 := e02.size
    have s04 := e04.size
    refine ⟨((o, n, oc), (a2, c2)), rfl, by dsimp only; rw [hfr, List.length_take]; omega, ⟨?_, fun q hq => Nat.le_trans s02 (hm.new q hq)⟩, ⟨?_, ?_, ?_⟩, fun q hq => Nat.le_trans s04 (nw q hq), (fun q hq h => by have := nw q h; have := hm.row.lt hq; have := e34.size; omega), (Fr.of_ext e05).trans (Fr.stored hs6) (fun _ _ h => h)⟩
    · rw [hfr]
      exact (hm.row.ext (e34.trans e45)).keep fun q hq => hs6.other (by show q ≠ rb; have := hm.new q hq; omega)
    · have := hs6.box hbx
      rw [this]; dsimp only
      rw [show fdH t = t.extract (pos t n) t.size from by unfold fdH; rw [hfd], hxs, Nat.zero_add]
    · rw [show fdH t = t.extract (pos t n) t.size from by unfold fdH; rw [hfd]]
      exact hrow.cells.keep fun q hq => hs6.other (by show q ≠ rb; have := nw q hq; omega)
    · rw [show fdH t = t.extract (pos t n) t.size from by unfold fdH; rw [hfd], hxs]
      have := hrow.le.1
      simpa using this
  refine bcase_mk (fun hb1 => ?_) (fun hb1 => ?_)
  · have hp : pos t n < t.size := by simp only [gt_iff_lt, decide_eq_true_eq] at hb1; omega
    have hnc := cnt_lt.2 hp
    refine ⟨⟨a, ac, t.extract (pos t n) t.size⟩, by rw [hxs], ⟨hU.ext e03, hcl3⟩, ?_⟩
    rintro x w4 ⟨rfl, e34⟩
    dsimp only
    have e04 := e03.trans e34
    refine bcase_mk (fun hb2 => ?_) (fun hb2 => fin e34 (fdN_of hn hwh (.inr hb2)))
    refine ⟨⟨a, ac, t.extract (pos t n) t.size⟩, by rw [hxs], ⟨hU.ext e04, hcl3.ext e34, by rw [hxs]; omega⟩, ?_⟩
    rintro ⟨r, m⟩ w5 ⟨hr5, hm5, e45⟩
    dsimp only at hr5 hm5 ⊢
    rw [(drop_next hnc).2] at hr5
    rw [(drop_next hnc).1] at hm5
    subst hr5 hm5
    have e35 := e34.trans e45
    have d1 := dcN_le hp
    intro b6 w6 hn6
    obtain ⟨o2, oc2, w7, hrun2, hko2, hm7, e67, _⟩ := (hm.later e35).pushN (P := Tryd.prog) (ty := 26) elem32 (by decide) (m := 1) (news := [.int .i32 (dcR t (pos t n))]) hn6 rfl (by simp [Value.oneCell']) (by unfold maxLen; omega) (.inr (by omega))
    refine ⟨o2, oc2, w7, hrun2, hko2, dcN t (pos t n), rfl, by omega, fun ad' hsl => ?_⟩
    have hps := pos_succ hp
    refine ⟨(n + 1, (ad', ac - dcN t (pos t n)), (o2, oc2)), ?_, rfl, ⟨hnc, fun j hj => ?_, ?_, ?_, ?_⟩, ?_⟩
    · dsimp only; rw [hps, show t.size - pos t n - dcN t (pos t n) = t.size - (pos t n + dcN t (pos t n)) from by omega]
    · by_cases hjn : j = n
      · subst hjn; exact hb2
      · exact hwh j (by dsimp only at hj; omega)
    · dsimp only
      have := hcl0.drop hsl (by omega) (by rw [bytesV_len, hxs]; omega)
      rw [bytesV_drop, hps]
      rw [bytesV_drop, List.drop_drop, Nat.mul_one] at this
      exact this
    · dsimp only; omega
    · dsimp only
      rw [getD_take_map (by rw [hrl]; exact hnc), runes_at hnc]; exact hm7
    · dsimp only; omega
  · have hp : pos t n = t.size := by simp only [gt_iff_lt, decide_eq_false_iff_not] at hb1; omega
    have hnc : n = cnt t := by
      have : ¬ n < cnt t := fun hh => by have := cnt_lt.1 hh; omega
      omega
    exact fin (Ext.refl _) (fdN_of hn hwh (.inl hnc))

end Go.Proofs.YthkcphnkllnfcaaDoor
