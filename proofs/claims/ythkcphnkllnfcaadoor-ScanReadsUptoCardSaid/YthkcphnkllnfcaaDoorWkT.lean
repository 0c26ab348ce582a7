/-
  Chapter 1: the law on pieces.
-/
import Derived.Test.YthkcphnkllnfcaaDoorVgT
import Derived.Test.YthkcphnkllnfcaaDoorWkS
import Derived.Test.YthkcphnkllnfcaaDoorUf
import Derived.Test.YthkcphnkllnfcaaDoorGg
set_option linter.unusedVariables false
set_option linter.unusedSimpArgs false
namespace Go.Proofs.YthkcphnkllnfcaaDoor
open Go Go.RowKit Vc Ut

theorem tw_spec {α : Type} (p : α → Bool) : ∀ (l : List α), (l.takeWhile p).length ≤ l.length ∧ (∀ j x, j < (l.takeWhile p).length → l[j]? = some x → p x = true) ∧ (∀ x, l[(l.takeWhile p).length]? = some x → p x = false)
  | [] => by simp
  | y :: l => by
    obtain ⟨h1, h2, h3⟩ := tw_spec p l
    cases hy : p y
    · simp [hy]
    · rw [List.takeWhile_cons, if_pos hy]
      refine ⟨by simpa using h1, fun j x hj hx => ?_, fun x hx => h3 x (by simpa using hx)⟩
      cases j with
      | zero => simp at hx; subst hx; exact hy
      | succ j => exact h2 j x (by simpa using hj) (by simpa using hx)
theorem fdN_spec (t : ByteArray) : fdN t ≤ cnt t ∧ (∀ j, j < fdN t → wholeB (t.extract (pos t j) t.size) = true) ∧ (fdN t = cnt t ∨ wholeB (t.extract (pos t (fdN t)) t.size) = false) := by
  obtain ⟨h1, h2, h3⟩ := tw_spec (fun n => wholeB (t.extract (pos t n) t.size)) (List.range (cnt t))
  rw [List.length_range] at h1
  refine ⟨h1, fun j hj => h2 j j hj (by unfold fdN at hj; rw [List.getElem?_eq_getElem (by rw [List.length_range]; omega), List.getElem_range]), ?_⟩
  by_cases h : fdN t = cnt t
  · exact .inl h
  · exact .inr (h3 _ (by unfold fdN at h; rw [List.getElem?_eq_getElem (by rw [List.length_range]; omega), List.getElem_range]; rfl))
theorem tell_all (t u : ByteArray) : runes (t ++ u) = fdR t ++ runes (fdH t ++ u) := by
  obtain ⟨h1, h2, _⟩ := fdN_spec t
  exact tell_step (fdN t) h1 h2
theorem held_all (t : ByteArray) : (fdH t).size ≤ 3 ∧ runes (fdH t) = badsL (fdH t).size := by
  obtain ⟨h1, h2, h3⟩ := fdN_spec t
  rcases h3 with h3 | h3
  · have h0 : (fdH t).size = 0 := by
      unfold fdH; rw [h3, pos_cnt, size_ext (Nat.le_refl _), Nat.sub_self]
    refine ⟨by omega, ?_⟩
    rw [h0]
    exact List.eq_nil_of_length_eq_zero (by rw [runes_len, cnt_zero.2 h0])
  · exact runes_held h3

theorem RdIn.fr {S : Nat → Prop} {w w' : World} {rb hc : Nat} {ha : Option Addr} {h : ByteArray} (hr : RdIn w rb ha hc h) (hf : Fr S w w') (h1 : ¬ S rb) (h2 : ∀ q, blk ha = some q → ¬ S q) : RdIn w' rb ha hc h :=
  ⟨(hf.block _ (heap_lt hr.box) h1).trans hr.box, hr.cells.fr hf h2, hr.le⟩
theorem RdIn.ext {w w' : World} {rb hc : Nat} {ha : Option Addr} {h : ByteArray} (hr : RdIn w rb ha hc h) (hx : Ext w w') : RdIn w' rb ha hc h :=
  hr.fr (Fr.of_ext (S := fun _ => False) hx) (fun h => h) (fun _ _ h => h)
theorem RdIn.of_nil {w : World} {rb : Nat} (h : w.heap[rb]? = some (.cells #[.slice none 0 0] 71)) : RdIn w rb none 0 ⟨#[]⟩ := ⟨h, CellsAt.nil _ _, Nat.le_refl _⟩
theorem bytesV_part (s : ByteArray) (l h : Nat) (hh : h ≤ s.size) : bytesV (s.extract l h) = ((bytesV s).drop l).take (h - l) := by
  unfold bytesV
  rw [ByteArray.data_extract, Array.toList_extract, List.map_drop.symm, ← List.map_take]

theorem round_ok : sRound.Ok Tryd.prog 47 := by
  refine round_vc trivial ?_
  rintro ⟨k, n⟩ w ⟨h0, h1⟩
  dsimp only at h0 h1 ⊢
  have hn : (0 : Int) < (n : Int) := by omega
  have hlt := Int.tmod_lt_of_pos k hn
  have hgt : -(n : Int) < k.tmod n := by
    have := Int.lt_tmod_of_pos k hn
    exact this
  refine ⟨by omega, bcase_mk (fun h => ?_) (fun h => ?_)⟩
  · have h : k.tmod n < 0 := by simpa using h
    exact ⟨inr_i64 (by omega) (by omega), (k.tmod n + n).toNat, by rw [Int.toNat_of_nonneg (by omega)], by omega, rfl⟩
  · have h : ¬ k.tmod n < 0 := by simpa using h
    exact ⟨(k.tmod n).toNat, by rw [Int.toNat_of_nonneg (by omega)], by omega, rfl⟩

/-- One piece more. -/
theorem piece_on {s h p r : ByteArray} {n at_ : Nat} (hi : (runes s).take n ++ runes (h ++ s.extract at_ s.size) = runes s) (hn : n ≤ cnt s) (hp : s.extract at_ s.size = p ++ r) :
    n + (fdR (h ++ p)).length ≤ cnt s ∧ (runes s).take (n + (fdR (h ++ p)).length) = (runes s).take n ++ fdR (h ++ p) ∧ (runes s).take (n + (fdR (h ++ p)).length) ++ runes (fdH (h ++ p) ++ r) = runes s := by
  have hl := runes_len s
  rw [hp, ← ByteArray.append_assoc, tell_all, ← List.append_assoc] at hi
  have hx : ((runes s).take n ++ fdR (h ++ p)).length = n + (fdR (h ++ p)).length := by rw [List.length_append, List.length_take]; omega
  have ht : (runes s).take (n + (fdR (h ++ p)).length) = (runes s).take n ++ fdR (h ++ p) := by
    conv => lhs; rw [← hi]
    exact List.take_left' hx
  refine ⟨?_, ht, by rw [ht]; exact hi⟩
  have := congrArg List.length hi
  rw [List.length_append, hx, hl] at this
  omega

theorem lawPc_ok : sLawPc.Ok Tryd.prog 13 := by
  refine lawPc_vc ⟨new_ok, feed_ok, held_ok, end_ok, round_ok, runes_ok, same_ok, wakes_ok, trivial⟩ ?_
  rintro ⟨⟨ad, c, s⟩, l⟩ w ⟨hU, hb, hl, hs, hsc, hn⟩
  dsimp only at hb hl hs hsc hn ⊢
  have hcn := cnt_le s
  have hrl := runes_len s
  refine ⟨(), rfl, trivial, ?_⟩
  rintro rb w1 ⟨hrb, hr1, e01⟩
  dsimp only [ptrB]
  refine ⟨⟨⟨0, 0, 0, none, 0, ⟨#[]⟩, none, 0⟩, rfl, rfl, rfl, Nat.zero_le _, Nat.zero_le _, Nat.zero_le _, Nat.zero_le _, ?_, hr1, ?_⟩, ?_⟩
  · dsimp only
    rw [List.take_zero, List.nil_append, ByteArray.extract_zero_size]
    have : (⟨#[]⟩ : ByteArray) ++ s = s := ByteArray.empty_append
    rw [this]
  · exact ⟨Row.nil _ _ _, (fun q hq => by cases hq), e01⟩
  rintro _ ⟨i, at_, n, a, ac, h, ha, hc⟩ w2 ⟨hi, hat, hnc, hh, heq, hr2, hm⟩
  dsimp only at hi hat hnc hh heq hr2 hm ⊢
  have e02 := hm.ext
  have hb2 := hb.ext e02
  have hU2 := hU.ext e02
  have hrb2 := heap_lt hr2.box
  -- one feed and the append behind it
  have feed : ∀ {p r : ByteArray} {ad' : Option Addr} {cp : Nat} {w3 : World} {x : (Option Addr × Nat × Nat) × Option Addr × Nat}, s.extract at_ s.size = p ++ r → x.1.2.1 = (fdR (h ++ p)).length → NewRow w2 w3 21 x.1.1 x.1.2.1 ((fdR (h ++ p)).map (Value.int .i32)) x.1.2.2 →
      RdIn w3 rb x.2.1 x.2.2 (fdH (h ++ p)) → (∀ q, blk x.2.1 = some q → w2.heap.size ≤ q) → Fr (fun q => q = rb) w2 w3 →
      ∃ a' c' w4, AppRun Tryd.prog #[26, 26] 26 (.slice a n ac) (.slice x.1.1 x.1.2.1 x.1.2.2) w3 a' (n + x.1.2.1) c' w4 ∧ KO w3 w4 ∧ RdIn w4 rb x.2.1 x.2.2 (fdH (h ++ p)) ∧
        Made w w4 21 1 a' (n + x.1.2.1) (((runes s).take (n + x.1.2.1)).map (Value.int .i32)) c' := by
    rintro p r ad' cp w3 ⟨⟨oa, on, oc⟩, ⟨ha', hc'⟩⟩ hp hon hnr hr3 hnew hf3
    dsimp only at hon hnr hr3 hnew ⊢
    obtain ⟨q1, q2, q3⟩ := piece_on heq hnc hp
    have hoff := hm.row.off hr2.box (by decide)
    have hrow3 := hm.row.fr hf3 (fun q hq h => by rw [h] at hq; exact hoff hq)
    have hm3 : Made w w3 21 1 a n (((runes s).take n).map (Value.int .i32)) ac := ⟨hrow3, hm.new, Ext.fr_new e02 hf3 (fun q hq => by omega)⟩
    subst hon
    obtain ⟨a', c', w4, hrun, hko, hrow, hg, hor, _⟩ := hrow3.pushS (P := Tryd.prog) (ty := 26) (sa := oa) (cx := oc) elem32 (by decide) (m := (fdR (h ++ p)).length) (news := (fdR (h ++ p)).map (Value.int .i32)) (by simp) hnr.row.cells (one_ints _ _) (by unfold maxLen; omega) (.inr (by omega))
    have hm4 := hm3.grown hrow hg hor
    rw [← List.map_append, ← q2] at hm4
    refine ⟨a', c', w4, hrun, hko, hr3.fr (Fr.grown hg) (hrow3.off hr3.box (by decide)) (fun q hq hh => ?_), hm4⟩
    have := hm.row.lt hh
    have := hnew q hq
    omega
  refine bcase_mk (fun hb1 => ?_) (fun hb1 => ?_)
  · simp only [Bool.and_eq_true, decide_eq_true_eq] at hb1
    have hlt : i < l.xs.length := by omega
    refine ⟨i, rfl, hlt, (hl.ext e02).int hlt fun b o hbo => ⟨_, hbo, inr_i64 (by omega) (by omega), inr_i64 (by omega) (by omega), ⟨l.xs.getD i 0, s.size - at_ + 1⟩, ?_, ⟨by dsimp only; omega, by dsimp only; omega⟩, ?_⟩⟩
    · dsimp only
      rw [show ((s.size - at_ + 1 : Nat) : Int) = (s.size : Int) - (at_ : Int) + 1 from by omega]
    rintro m w3 ⟨hmn, hw3⟩
    replace hw3 := hw3.symm
    subst hw3
    dsimp only at hmn ⊢
    refine ⟨inr_i64 (by omega) (by omega), at_, at_ + m, rfl, by simp, by omega, by omega, fun ad' hsl => ?_⟩
    have hpz : (s.extract at_ (at_ + m)).size = m := by rw [size_ext (by omega)]; omega
    have hpr : s.extract at_ s.size = s.extract at_ (at_ + m) ++ s.extract (at_ + m) s.size := by
      rw [ByteArray.extract_append_extract]; congr 1 <;> omega
    have hcl : CellsAt w2 ad' (bytesV (s.extract at_ (at_ + m))) := by
      have h1 := hb2.drop hsl (by omega) (by rw [bytesV_len]; omega)
      rw [Nat.mul_one] at h1
      rw [bytesV_part s at_ (at_ + m) (by omega)]
      exact h1.take _
    refine ⟨⟨rb, ha, hc, h, ad', c - at_, s.extract at_ (at_ + m)⟩, by dsimp only; rw [hpz, Nat.add_sub_cancel_left], ⟨hU2, hr2, hcl, by dsimp only; omega, by dsimp only; omega⟩, ?_⟩
    rintro x w3 ⟨x1, x2, x3, x4, _, x5⟩
    dsimp only at x1 x2 x3 x4 x5
    obtain ⟨a', c', w4, hrun, hko, hr4, hm4⟩ := feed (ad' := ad') (cp := c) hpr x1 x2 x3 x4 x5
    obtain ⟨q1, q2, q3⟩ := piece_on heq hnc hpr
    obtain ⟨z1, z2⟩ := held_all (h ++ s.extract at_ (at_ + m))
    refine ⟨a', c', w4, hrun, hko, ⟨rb, x.2.1, x.2.2, fdH (h ++ s.extract at_ (at_ + m))⟩, rfl, hr4, ?_⟩
    rintro y w5 ⟨hy, hw5⟩
    replace hw5 := hw5.symm
    subst hw5
    refine ⟨⟨rb, x.2.1, x.2.2, fdH (h ++ s.extract at_ (at_ + m))⟩, rfl, hr4, ?_⟩
    rintro y2 w6 ⟨hy2, hw6⟩
    replace hw6 := hw6.symm
    subst hw6
    dsimp only at hy hy2
    refine bcase_mk (fun h => by simp only [gt_iff_lt, decide_eq_true_eq] at h; omega) (fun _ => ?_)
    refine ⟨inr_i64 (by omega) (by omega), ⟨i + 1, at_ + m, n + x.1.2.1, a', c', fdH (h ++ s.extract at_ (at_ + m)), x.2.1, x.2.2⟩, by simp, by simp, rfl, ⟨hlt, by dsimp only; omega, by dsimp only; rw [x1]; exact q1, z1, ?_, hr4, hm4⟩, by dsimp only; omega⟩
    dsimp only
    rw [x1]; exact q3
  · refine ⟨at_, rfl, hat, fun ad' hsl => ?_⟩
    have hpz : (s.extract at_ s.size).size = s.size - at_ := size_ext (Nat.le_refl _)
    have hpr : s.extract at_ s.size = s.extract at_ s.size ++ ByteArray.empty := ByteArray.append_empty.symm
    have hcl : CellsAt w2 ad' (bytesV (s.extract at_ s.size)) := by
      have h1 := hb2.drop hsl (by omega) (by rw [bytesV_len]; omega)
      rw [Nat.mul_one] at h1
      rw [bytesV_drop]; exact h1
    refine ⟨⟨rb, ha, hc, h, ad', c - at_, s.extract at_ s.size⟩, by dsimp only; rw [hpz], ⟨hU2, hr2, hcl, by dsimp only; omega, by dsimp only; omega⟩, ?_⟩
    rintro x w3 ⟨x1, x2, x3, x4, _, x5⟩
    dsimp only at x1 x2 x3 x4 x5
    obtain ⟨a', c', w4, hrun, hko, hr4, hm4⟩ := feed (ad' := ad') (cp := c) hpr x1 x2 x3 x4 x5
    obtain ⟨q1, q2, q3⟩ := piece_on heq hnc hpr
    obtain ⟨z1, z2⟩ := held_all (h ++ s.extract at_ s.size)
    rw [show fdH (h ++ s.extract at_ s.size) ++ ByteArray.empty = fdH (h ++ s.extract at_ s.size) from ByteArray.append_empty, z2, ← x1] at q3
    generalize hH : fdH (h ++ s.extract at_ s.size) = H at z1 z2 q3 hr4
    refine ⟨a', c', w4, hrun, hko, ⟨rb, x.2.1, x.2.2, H⟩, rfl, hr4, ?_⟩
    rintro y w5 ⟨hy, hw5⟩
    replace hw5 := hw5.symm
    subst hw5
    dsimp only at hy
    refine ⟨⟨rb, x.2.1, x.2.2, H⟩, rfl, ⟨hr4, by dsimp only; omega⟩, ?_⟩
    rintro ⟨oa, on, oc⟩ w6 ⟨y1, y2, y3, y4⟩
    dsimp only at y1 y2 y3 y4 ⊢
    have hr6 := RdIn.of_nil y3
    have hoff4 := hm4.row.off hr4.box (by decide)
    have hrow6 := hm4.row.fr y4 (fun q hq h => by rw [h] at hq; exact hoff4 hq)
    have e06 := Ext.fr_new hm4.ext y4 (fun q hq => by omega)
    have hm6 : Made w w6 21 1 a' (n + x.1.2.1) (((runes s).take (n + x.1.2.1)).map (Value.int .i32)) c' := ⟨hrow6, hm4.new, e06⟩
    subst y1
    have hbl := badsL_len (H).size
    have hlen := congrArg List.length q3
    rw [List.length_append, List.length_take, hbl, hrl] at hlen
    obtain ⟨a2, c2, w7, hrun2, hko2, hrow7, hg7, hor7, _⟩ := hrow6.pushS (P := Tryd.prog) (ty := 26) (sa := oa) (cx := oc) elem32 (by decide) (m := (H).size) (news := (badsL (H).size).map (Value.int .i32)) (by simp [hbl]) y2.row.cells (one_ints _ _) (by unfold maxLen; omega) (.inr (by omega))
    have hm7 := hm6.grown hrow7 hg7 hor7
    rw [← List.map_append, q3] at hm7
    have hr7 := hr6.fr (Fr.grown hg7) (hrow6.off hr6.box (by decide)) (fun q hq => by cases hq)
    have e07 := hm7.ext
    refine ⟨a2, c2, w7, hrun2, hko2, s, bytesIn_of rfl (hb.ext e07), s, rfl, ⟨hU.ext e07, by omega⟩, ?_⟩
    rintro ⟨ra, rn, rc⟩ w8 ⟨hrn, hm8⟩
    dsimp only at hrn hm8 ⊢
    subst hrn
    have hcn2 : n + x.1.2.1 + (H).size = (runes s).length := by rw [x1] at hlen ⊢; omega
    rw [hcn2] at hm7 ⊢
    refine ⟨⟨⟨a2, c2, runes s⟩, ⟨ra, rc, runes s⟩⟩, rfl, ⟨⟨hm7.row.cells.ext hm8.ext, by dsimp only; omega⟩, ⟨hm8.row.cells, by dsimp only; omega⟩⟩, ?_⟩
    rintro t w9 ⟨ht, e89⟩
    simp only [decide_true] at ht
    subst ht
    refine bcase_mk (fun _ => ?_) (fun h => by cases h)
    refine bcase_mk (fun _ => ?_) (fun h => by rw [hy] at h; simp at h)
    have e79 := hm8.ext.trans e89
    have hr9 := hr7.ext e79
    refine ⟨⟨rb, none, 0, ⟨#[]⟩⟩, rfl, hr9, ?_⟩
    rintro k w10 ⟨hk, hw10⟩
    replace hw10 := hw10.symm
    subst hw10
    refine bcase_mk (fun _ => ?_) (fun h => by subst hk; cases h)
    refine ⟨⟨rb, none, 0, ⟨#[]⟩⟩, rfl, ⟨hr9, Nat.zero_le _⟩, ?_⟩
    rintro ⟨za, zn, zc⟩ w11 ⟨hz, _, _, hf11⟩
    dsimp only at hz hf11 ⊢
    have e011 := Ext.fr_new (e07.trans e79) hf11 (fun q hq => by omega)
    refine bcase_mk (fun _ => ?_) (fun h => by subst hz; cases h)
    refine ⟨(), rfl, hU.ext e011, ?_⟩
    rintro _ w12 e12
    exact ⟨(), rfl, e011.trans e12⟩

end Go.Proofs.YthkcphnkllnfcaaDoor
