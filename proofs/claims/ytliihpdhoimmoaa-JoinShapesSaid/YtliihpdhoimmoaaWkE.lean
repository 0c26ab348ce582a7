/-
  Chapter 11: shaped lists, and the law's own helpers, meet their specifications.
-/
import Derived.Test.YtliihpdhoimmoaaWkD
set_option linter.unusedVariables false
set_option linter.unusedSimpArgs false
namespace Go.Proofs.Ytliihpdhoimmoaa
open Go Go.RowKit Vc Tb

theorem lent_ok : sLent.Ok Try.prog 11 := by
  refine lent_vc trivial ?_
  rintro ⟨ad, c, xs⟩ w ⟨hc, hlen⟩
  dsimp only at hc hlen ⊢
  refine ⟨inr_i64 (by omega) (by omega), 0, xs.length + 2, rfl, by simp, by omega, by omega, by omega, fun b w1 hn => ?_⟩
  have hm0 : Made w w1 21 1 (some ⟨b, 0, none⟩) 0 [] (xs.length + 2) := by
    refine ⟨?_, ?_, hn.ext⟩
    · have hr := Row.made (s := 1) (n := 0) (c := xs.length + 2) hn (Nat.zero_le _) (by unfold maxLen; omega) (by simp [Value.cells, mkRow_one])
      simpa using hr
    · intro g hg; simp [blk] at hg; subst hg; have := hn.size; omega
  obtain ⟨a1, c1, w2, hr1, hk1, hm1, hcc1⟩ := hm0.pushS (P := Try.prog) (ty := 22) (sa := ad) (cx := c) elem32 (by decide) (m := xs.length) (news := xs.map (Value.int .i32)) (by simp) (hc.ext hn.ext) (one_ints _ _) (by unfold maxLen; omega) (.inl (by omega))
  refine ⟨a1, c1, w2, hr1, hk1, fun b1 w3 hn1 => ?_⟩
  obtain ⟨rfl, rfl⟩ := hcc1 (by omega)
  obtain ⟨a2, c2, w4, hr2, hk2, hm2, _, hcc2⟩ := hm1.pushN (P := Try.prog) (ty := 22) elem32 (by decide) (m := 2) (news := [.int .i32 (-9), .int .i32 (-9)]) hn1 rfl (by simp [Value.oneCell']) (by unfold maxLen; omega) (.inl (by omega))
  obtain ⟨rfl, rfl⟩ := hcc2 (by omega)
  refine ⟨_, _, w4, hr2, hk2, xs.length, rfl, by omega, (b, xs.length), rfl, rfl, ?_⟩
  simpa using hm2

theorem kept_ok : sKept.Ok Try.prog 14 := by
  refine kept_vc trivial ?_
  rintro ⟨a, ⟨ad, c, xs⟩⟩ w ⟨ha, hc, hlen⟩
  dsimp only at ha hc hlen ⊢
  refine ⟨inr_i64 (by omega) (by omega), xs.length + 2, by simp, by omega, ⟨0, rfl, by omega, Ext.refl _⟩, ?_⟩
  rintro _ i w1 ⟨hi, hw1⟩
  have next : ∀ w2, Drew w1 w2 → i < xs.length + 2 → InR IntKind.i64 ((i : Int) + 1) ∧ ∃ y : Nat, Value.int IntKind.i64 ((i : Int) + 1) = Value.int IntKind.i64 (y : Int) ∧ (y ≤ xs.length + 2 ∧ Ext w w2) ∧ xs.length + 2 - y < xs.length + 2 - i :=
    fun w2 hd hi => ⟨inr_i64 (by omega) (by omega), i + 1, by simp, ⟨by omega, hw1.trans hd.ext⟩, by omega⟩
  refine bcase_mk (fun h w2 hd => ?_) (fun h => ⟨(), by simp, hw1⟩)
  have hi2 : i < xs.length + 2 := by simp only [decide_eq_true_eq] at h; omega
  refine bcase_mk (fun h => ?_) (fun h => ?_)
  · have hi3 : i < xs.length := by simp only [decide_eq_true_eq] at h; omega
    have e1 : ((xs ++ [-9, -9]).map (Value.int .i32))[i]? = some (.int .i32 (xs.getD i 0)) := by
      rw [List.getElem?_map, List.getElem?_append_left hi3, List.getD_eq_getElem?_getD, List.getElem?_eq_getElem hi3]; rfl
    refine ⟨i, rfl, hi2, (ha.ext hw1).ptr e1 fun b o hb => ⟨_, hb, i, rfl, hi3, (hc.ext hw1).int hi3 fun b1 o1 hb1 => ⟨_, hb1, bcase_mk (fun h => ?_) (fun h => bcase_mk (fun h' => ?_) (fun _ => next w2 hd hi2))⟩⟩⟩
    · simp at h
    · simp only [ge_iff_le, decide_eq_true_eq] at h'; omega
  · have hi3 : xs.length ≤ i := by simp only [decide_eq_false_iff_not] at h; omega
    refine bcase_mk (fun h' => ?_) (fun _ => next w2 hd hi2)
    have e1 : ((xs ++ [-9, -9]).map (Value.int .i32))[i]? = some (.int .i32 (-9)) := by
      rw [List.getElem?_map, List.getElem?_append_right hi3]
      have : i - xs.length = 0 ∨ i - xs.length = 1 := by omega
      rcases this with e | e <;> rw [e] <;> rfl
    refine ⟨i, rfl, hi2, (ha.ext hw1).ptr e1 fun b o hb => ⟨_, hb, bcase_mk (fun h => ?_) (fun _ => next w2 hd hi2)⟩⟩
    simp at h

theorem getD_take_map {k : IntKind} {xs : List Int} {i : Nat} (h : i < xs.length) : ((xs.take (i + 1)).map (Value.int k)) = ((xs.take i).map (Value.int k)) ++ [.int k (xs.getD i 0)] := by
  rw [take_succ0 h]; simp

theorem shapedR_at {xs : List Int} {i : Nat} (h : i < xs.length) : (shapedR xs).getD i 0 = shapeOf (xs.getD i 0) ((formsR xs).getD i 0) := by
  have h1 : i < (formsR xs).length := by simp [formsR_len, h]
  simp only [shapedR, List.getD_eq_getElem?_getD, List.getElem?_zipWith, List.getElem?_eq_getElem h, List.getElem?_eq_getElem h1]
  rfl

theorem rshaped_ok : (sList .i32 .i32 21 shapedR).Ok Try.prog 17 := by
  refine rshaped_vc ⟨rforms_ok, rshape_ok, trivial⟩ ?_
  rintro ⟨ad, c, xs⟩ w ⟨hc, hlen⟩
  dsimp only at hc hlen ⊢
  refine ⟨⟨ad, c, xs⟩, rfl, ⟨hc, hlen⟩, ?_⟩
  rintro ⟨fa, fn, fc⟩ w1 ⟨hfn, hm⟩
  dsimp only at hfn hm ⊢
  have hfl : (formsR xs).length = xs.length := formsR_len xs
  refine ⟨⟨(0, none, 0), rfl, rfl, Nat.zero_le _, Made.nil _ _ _⟩, ?_⟩
  rintro _ ⟨i, a, cc⟩ w2 ⟨hi, hm2⟩
  dsimp only at hi hm2 ⊢
  refine bcase_mk (fun h w3 hd => ?_) (fun h => ?_)
  · have hi1 : i < xs.length := by simpa using h
    refine ⟨i, rfl, hi1, (hc.ext (hm.ext.trans hm2.ext)).int hi1 fun b o hb => ⟨_, hb, i, rfl, by omega, (hm.row.cells.ext hm2.ext).int (by omega) fun b1 o1 hb1 => ⟨_, hb1, (_, _), rfl, trivial, ?_⟩⟩⟩
    rintro y w4 ⟨hy, hw4⟩
    replace hy : y = shapeOf (xs.getD i 0) ((formsR xs).getD i 0) := hy
    refine ⟨hw4, fun b2 w5 hn => ⟨hn.ext, ?_⟩⟩
    obtain ⟨a', c', w6, hr, hk, hm3, _⟩ := (hm2.later (Ext.trans hd.ext hw4)).pushN (P := Try.prog) (ty := 22) elem32 (by decide) (m := 1) (news := [.int .i32 y]) hn rfl (by simp [Value.oneCell']) (by unfold maxLen; omega) (.inr (by omega))
    refine ⟨a', c', w6, hr, hk, inr_i64 (by omega) (by omega), (i + 1, a', c'), by simp, rfl, ⟨hi1, ?_⟩, by dsimp only; omega⟩
    dsimp only
    rw [getD_take_map (by rw [shapedR_len]; exact hi1), shapedR_at hi1, ← hy]
    exact hm3
  · have hi1 : i = xs.length := by simp only [decide_eq_false_iff_not] at h; omega
    subst hi1
    rw [List.take_of_length_le (by rw [shapedR_len]; exact Nat.le_refl _)] at hm2
    exact ⟨(a, xs.length, cc), rfl, by simp [shapedR_len], hm2.earlier hm.ext⟩

theorem shaped_ok : (sList .i32 .i32 21 shapedR).Ok Try.prog 18 := by
  refine shaped_vc ⟨jforms_ok, shape_ok, trivial⟩ ?_
  rintro ⟨ad, c, xs⟩ w ⟨hc, hlen⟩
  dsimp only at hc hlen ⊢
  refine ⟨xs.length, xs.length, rfl, rfl, Nat.le_refl _, by omega, by omega, fun b w1 hn => ?_⟩
  have hr0 : Row w1 21 1 (some ⟨b, 0, none⟩) xs.length ((List.replicate xs.length 0).map (Value.int .i32)) xs.length := by
    have hr := Row.made (s := 1) (n := xs.length) (c := xs.length) hn (Nat.le_refl _) (by unfold maxLen; omega) (by simp [Value.cells, mkRow_one])
    simpa [Value.cells, mkRow_one] using hr
  have hb := hn.size
  refine ⟨⟨ad, c, xs⟩, rfl, ⟨hc.ext hn.ext, hlen⟩, ?_⟩
  rintro ⟨fa, fn, fc⟩ w2 ⟨hfn, hm⟩
  dsimp only at hfn hm ⊢
  have hfl : (formsR xs).length = xs.length := formsR_len xs
  have hfb : ∀ g, blk fa = some g → g ≠ b := fun g hg e => by have := hm.new g hg; omega
  have hxb : ∀ g, blk ad = some g → g < w.heap.size → g ≠ b := fun g hg hl e => by omega
  refine ⟨⟨0, rfl, Nat.zero_le _, b, rfl, Fr.refl _ _, by simpa using hr0.ext hm.ext⟩, ?_⟩
  rintro _ i w3 ⟨hi, b', hb', hfr, hrow⟩
  obtain rfl : b = b' := by simpa using hb'
  refine bcase_mk (fun h => ?_) (fun h => ?_)
  · have hi1 : i < xs.length := by simp only [decide_eq_true_eq] at h; omega
    have hc3 : CellsAt w3 ad (xs.map (Value.int .i32)) := by
      rcases hc with h0 | ⟨b0, o0, h1, h2⟩
      · exact .inl h0
      · refine .inr ⟨b0, o0, h1, fun j v hj => ?_⟩
        have hcell := h2 j v hj
        have hlt : b0 < w.heap.size := World.block_lt_of_cell? w _ hcell
        have h3 := (hn.ext.trans hm.ext).cell hcell
        exact (World.cell?_of_block (w := w2) (hfr.block b0 (World.block_lt_of_cell? w2 _ h3) (by omega))).trans h3
    have hf3 : CellsAt w3 fa ((formsR xs).map (Value.int .i8)) := hm.row.cells.keep fun g hg => hfr.block g (hm.row.lt hg) (hfb g hg)
    refine ⟨i, rfl, by omega, hf3.int (by omega) fun b1 o1 hb1 => ⟨_, hb1, i, rfl, hi1, hc3.int hi1 fun b2 o2 hb2 => ⟨_, hb2, (_, _), rfl, trivial, ?_⟩⟩⟩
    rintro y w4 ⟨hy, hw4⟩
    replace hy : y = shapeOf (xs.getD i 0) ((formsR xs).getD i 0) := hy
    have hrow4 := hrow.ext hw4
    obtain ⟨hat1, hat2⟩ := hrow4.at_store hi1
    refine ⟨i, rfl, hi1, rfl, hat1, hat2, fun w5 hs => ⟨inr_i64 (by omega) (by omega), i + 1, by simp, ⟨hi1, b, rfl, ?_, ?_⟩, by omega⟩⟩
    · exact (hfr.trans (Fr.of_ext (S := fun q => q = b) hw4) (fun _ _ h => h)).trans (Fr.stored hs) (fun _ _ h => h)
    · have hrow5 := hrow4.store hs
      have e : ((shapedR xs).take (i + 1) ++ List.replicate (xs.length - (i + 1)) 0).map (Value.int .i32) = (((shapedR xs).take i ++ List.replicate (xs.length - i) 0).map (Value.int .i32)).set i (.int .i32 y) := by
        rw [← List.map_set, take_succ0 (by rw [shapedR_len]; exact hi1), shapedR_at hi1, ← hy]
        congr 1
        rw [List.set_append_right _ _ (by simp [shapedR_len]; omega)]
        rw [show xs.length - i = xs.length - (i + 1) + 1 from by omega, List.replicate_succ]
        simp [shapedR_len, Nat.min_eq_left (Nat.le_of_lt hi1)]
      rw [e]
      exact hrow5
  · have hi1 : i = xs.length := by simp only [decide_eq_false_iff_not] at h; omega
    subst hi1
    refine ⟨(_, _, _), rfl, by simp [shapedR_len], ?_, ?_, ?_⟩
    · rw [List.take_of_length_le (by rw [shapedR_len]; exact Nat.le_refl _)] at hrow
      simpa using hrow
    · intro g hg; simp [blk] at hg; omega
    · exact Below.trans (hn.ext.trans hm.ext) (hfr.below (Nat.le_trans hn.ext.size hm.ext.size) (fun q hq e => by omega))

theorem plainR_len (r : Int) : (plainR r).length ≤ 2 := by
  unfold plainR; split
  · simp
  · split <;> simp

theorem flat_len (xs : List Int) : (xs.flatMap plainR).length ≤ 2 * xs.length := by
  induction xs with
  | nil => simp
  | cons x xs ih => have := plainR_len x; simp only [List.flatMap_cons, List.length_append, List.length_cons]; omega

theorem plainl_ok : (sListU .i32 .i32 21 (fun xs => xs.flatMap plainR)).Ok Try.prog 25 := by
  refine plainl_vc ⟨plain_ok, trivial⟩ ?_
  rintro ⟨ad, c, xs⟩ w ⟨⟨hc, hlen⟩, hsm⟩
  dsimp only at hc hlen hsm ⊢
  refine ⟨⟨(0, none, 0), rfl, rfl, Nat.zero_le _, Made.nil _ _ _⟩, ?_⟩
  rintro _ ⟨i, a, cc⟩ w1 ⟨hi, hm⟩
  dsimp only at hi hm ⊢
  refine bcase_mk (fun h => ?_) (fun h => ?_)
  · have hi1 : i < xs.length := by simp only [decide_eq_true_eq] at h; omega
    refine ⟨i, rfl, hi1, (hc.ext hm.ext).int hi1 fun b o hb => ⟨_, hb, _, rfl, trivial, ?_⟩⟩
    rintro ⟨pa, pn, pc⟩ w2 ⟨hpn, hp⟩
    replace hp : Made w1 w2 21 1 pa pn ((plainR (xs.getD i 0)).map (Value.int .i32)) pc := hp
    replace hpn : pn = (plainR (xs.getD i 0)).length := hpn
    have hl1 := flat_len (xs.take i)
    have hl2 := plainR_len (xs.getD i 0)
    have hl3 : (xs.take i).length ≤ xs.length := by rw [List.length_take]; omega
    obtain ⟨a', c', w3, hr, hk, hm3, _⟩ := (hm.later hp.ext).pushS (P := Try.prog) (ty := 22) (sa := pa) (cx := pc) elem32 (by decide) (m := pn) (news := (plainR (xs.getD i 0)).map (Value.int .i32)) (by simp [hpn]) hp.row.cells (one_ints _ _) (by unfold maxLen; omega) (.inr (by omega))
    have e : (xs.take (i + 1)).flatMap plainR = (xs.take i).flatMap plainR ++ plainR (xs.getD i 0) := by rw [take_succ0 hi1, List.flatMap_append]; simp
    refine ⟨a', c', w3, hr, hk, inr_i64 (by omega) (by omega), (i + 1, a', c'), by simp, ?_, ⟨hi1, ?_⟩, by dsimp only; omega⟩
    · dsimp only; rw [e, List.length_append, hpn]
    · dsimp only; rw [e, List.length_append, List.map_append, ← hpn]; exact hm3
  · have hi1 : i = xs.length := by simp only [decide_eq_false_iff_not] at h; omega
    subst hi1
    rw [List.take_length] at hm
    exact ⟨(a, _, cc), by rw [List.take_length], rfl, hm⟩

theorem at_box {w w1 : World} {k : IntKind} {e : TypeId} {b : Nat} {xs : List Int} {cs : Array Value} (h : New w (.cells cs e) b w1) (hcs : cs = (xs.map (Value.int k)).toArray) (hl : xs.length ≤ 35184372087808) : GSl.at k ⟨some ⟨b, 0, none⟩, xs.length, xs⟩ w1 := by
  subst hcs
  exact ⟨CellsAt.new h, hl⟩
theorem GSl.at_ext {k : IntKind} {g : GSl} {w w1 : World} (h : g.at k w) (hx : Ext w w1) : g.at k w1 := ⟨h.1.ext hx, h.2⟩
theorem at_made {w w1 : World} {k : IntKind} {e : TypeId} {a : Option Addr} {n c : Nat} {xs : List Int} (h : Made w w1 e 1 a n (xs.map (Value.int k)) c) (hl : xs.length ≤ 35184372087808) : GSl.at k ⟨a, c, xs⟩ w1 := ⟨h.row.cells, hl⟩

theorem works_ok : sYes.Ok Try.prog 16 := by
  refine works_vc ⟨jforms_ok, same8_ok, shape_ok, shaped_ok, same32_ok, plain_ok, trivial⟩ ?_
  intro _ w _ b w1 hn1
  refine ⟨⟨_, 4, [1576, 1611, 1575, 1576]⟩, rfl, at_box hn1 rfl (by decide), ?_⟩
  rintro ⟨a, n, c⟩ w2 ⟨rfl, hm2⟩ b2 w3 hn3
  dsimp only at hm2 ⊢
  refine ⟨⟨⟨a, c, formsR [1576, 1611, 1575, 1576]⟩, ⟨_, 4, [1, 0, 3, 0]⟩⟩, rfl, ⟨GSl.at_ext (at_made hm2 (by rw [formsR_len]; decide)) hn3.ext, at_box hn3 rfl (by decide)⟩, ?_⟩
  rintro x w4 ⟨hx, hw4⟩
  obtain rfl : x = true := by rw [show x = decide (formsR [1576, 1611, 1575, 1576] = [1, 0, 3, 0]) from hx]; decide +kernel
  have e4 : Ext w w4 := ((hn1.ext.trans hm2.ext).trans hn3.ext).trans hw4
  refine bcase_mk (fun _ => ?_) (fun h => by cases h)
  refine ⟨(1576, 2), rfl, trivial, ?_⟩
  rintro x w5 ⟨hx, hw5⟩
  obtain rfl : x = 65170 := by rw [hx]; decide +kernel
  refine bcase_mk (fun _ => ?_) (fun h => by simp at h)
  intro b6 w6 hn6
  refine ⟨⟨_, 2, [1604, 1575]⟩, rfl, at_box hn6 rfl (by decide), ?_⟩
  rintro ⟨a, n, c⟩ w7 ⟨rfl, hm7⟩ b8 w8 hn8
  dsimp only at hm7 ⊢
  refine ⟨⟨⟨a, c, shapedR [1604, 1575]⟩, ⟨_, 2, [65247, 65166]⟩⟩, rfl, ⟨GSl.at_ext (at_made hm7 (by rw [shapedR_len]; decide)) hn8.ext, at_box hn8 rfl (by decide)⟩, ?_⟩
  rintro x w9 ⟨hx, hw9⟩
  obtain rfl : x = true := by rw [show x = decide (shapedR [1604, 1575] = [65247, 65166]) from hx]; decide +kernel
  have e9 : Ext w w9 := (((((e4.trans hw5).trans hn6.ext).trans hm7.ext).trans hn8.ext)).trans hw9
  refine bcase_mk (fun _ => ?_) (fun h => by cases h)
  refine ⟨65275, rfl, trivial, ?_⟩
  rintro ⟨a, n, c⟩ w10 ⟨rfl, hm10⟩ b11 w11 hn11
  dsimp only at hm10 ⊢
  refine ⟨⟨⟨a, c, plainR 65275⟩, ⟨_, 2, [1604, 1575]⟩⟩, rfl, ⟨GSl.at_ext (at_made hm10 (by have := plainR_len 65275; omega)) hn11.ext, at_box hn11 rfl (by decide)⟩, ?_⟩
  rintro x w12 ⟨hx, hw12⟩
  obtain rfl : x = true := by rw [show x = decide (plainR 65275 = [1604, 1575]) from hx]; decide +kernel
  have e12 : Ext w w12 := ((e9.trans hm10.ext).trans hn11.ext).trans hw12
  refine bcase_mk (fun _ => ?_) (fun h => by cases h)
  refine ⟨97, rfl, trivial, ?_⟩
  rintro ⟨a, n, c⟩ w13 ⟨rfl, hm13⟩ b14 w14 hn14
  dsimp only at hm13 ⊢
  refine ⟨⟨⟨a, c, plainR 97⟩, ⟨_, 1, [97]⟩⟩, rfl, ⟨GSl.at_ext (at_made hm13 (by have := plainR_len 97; omega)) hn14.ext, at_box hn14 rfl (by decide)⟩, ?_⟩
  rintro x w15 ⟨hx, hw15⟩
  obtain rfl : x = true := by rw [show x = decide (plainR 97 = [97]) from hx]; decide +kernel
  exact ⟨(), rfl, ((e12.trans hm13.ext).trans hn14.ext).trans hw15⟩

end Go.Proofs.Ytliihpdhoimmoaa
