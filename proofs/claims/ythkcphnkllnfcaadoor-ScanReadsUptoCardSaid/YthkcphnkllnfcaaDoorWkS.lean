/-
  Chapter 1: readers: their ends, what they hold; the document's.
-/
import Derived.Test.YthkcphnkllnfcaaDoorWkR
set_option linter.unusedVariables false
set_option linter.unusedSimpArgs false
namespace Go.Proofs.YthkcphnkllnfcaaDoor
open Go Go.RowKit Vc Ut

theorem badsL_len (n : Nat) : (badsL n).length = n := by simp [badsL]
theorem badsL_succ (n : Nat) : (badsL (n + 1)).map (Value.int .i32) = (badsL n).map (Value.int .i32) ++ [.int .i32 65533] := by
  unfold badsL; rw [List.replicate_succ', List.map_append]; rfl

theorem end_ok : sEnd.Ok Tryd.prog 41 := by
  refine end_vc trivial ?_
  rintro ⟨rb, ha, hc, h⟩ w ⟨hr, hs⟩
  dsimp only at hr hs ⊢
  have hrb := heap_lt hr.box
  refine ⟨ha, h.size, hc, box_cell hr.box, 0, h.size, rfl, rfl, Nat.zero_le _, by omega, by omega, ?_⟩
  intro b w1 hn1
  have hr1 := hn1.ext.heap hr.box
  have hb1 := hn1.size
  refine ⟨ha, h.size, hc, box_cell hr1, ?_, ?_⟩
  · refine ⟨(0, some ⟨b, 0, none⟩, h.size), rfl, rfl, Nat.zero_le _, ?_⟩
    have hsz : (mkRow (Value.int .i32 0).cells h.size).size = h.size * 1 := by
      show (mkRow #[Value.int .i32 0] h.size).size = _
      rw [mkRow_one]; simp
    have hrow := Row.made (n := 0) (s := 1) hn1 (Nat.zero_le _) (show h.size ≤ maxLen by unfold maxLen; omega) hsz
    rw [Nat.zero_mul, List.take_zero] at hrow
    exact ⟨hrow, fun g hg => by simp [blk] at hg; omega, hn1.ext⟩
  rintro _ ⟨n, o, oc⟩ w2 ⟨hn, hm⟩
  dsimp only at hn hm ⊢
  refine bcase_mk (fun hb => ?_) (fun hb => ?_)
  · have hlt : n < h.size := by simp only [decide_eq_true_eq] at hb; omega
    intro b3 w3 hn3
    obtain ⟨o2, oc2, w4, hrun, hko, hm4, _⟩ := hm.pushN (P := Tryd.prog) (ty := 26) elem32 (by decide) (m := 1) (news := [.int .i32 65533]) hn3 rfl (by simp [Value.oneCell']) (by unfold maxLen; omega) (.inr (by omega))
    refine ⟨o2, oc2, w4, hrun, hko, inr_i64 (by omega) (by omega), (n + 1, o2, oc2), by simp, rfl, ⟨hlt, ?_⟩, by dsimp only; omega⟩
    dsimp only
    rw [badsL_succ]; exact hm4
  · have hlt : n = h.size := by simp only [decide_eq_false_iff_not] at hb; omega
    subst hlt
    have hr2 := hm.ext.heap hr.box
    have hs2 := hm.ext.size
    refine ⟨rfl, box_old hr2, box_free hr2, fun w3 hs3 => ⟨(o, h.size, oc), rfl, rfl, ⟨hm.row.keep fun q hq => hs3.other (by show q ≠ rb; have := hm.new q hq; omega), hm.new⟩, hs3.box hr2, (Fr.of_ext hm.ext).trans (Fr.stored hs3) (fun _ _ h => h)⟩⟩

theorem held_ok : sHeldN.Ok Tryd.prog 42 := by
  refine held_vc trivial ?_
  rintro ⟨rb, ha, hc, h⟩ w hr
  exact ⟨ha, h.size, hc, box_cell hr.box, _, rfl, rfl, rfl⟩
theorem new_ok : sNew.Ok Tryd.prog 44 := by
  refine new_vc trivial ?_
  rintro _ w _ b w1 hn
  exact ⟨b, rfl, hn.size.1, ⟨hn.heap, CellsAt.nil _ _, Nat.le_refl _⟩, hn.ext⟩
theorem rheld_ok : sRHeld.Ok Tryd.prog 46 := by
  refine rheld_vc trivial ?_
  rintro ⟨rb, h⟩ w hr
  exact ⟨h, box_cell hr, _, rfl, rfl, rfl⟩

theorem ext_ext (t : ByteArray) (p k : Nat) (hp : p ≤ t.size) : (t.extract p t.size).extract k (t.extract p t.size).size = t.extract (p + k) t.size := by
  rw [ByteArray.extract_extract, size_ext (Nat.le_refl _)]
  congr 1
  omega

theorem rfeed_ok : sRFeed.Ok Tryd.prog 59 := by
  refine rfeed_vc ⟨rwhole_ok, rnext_ok, trivial⟩ ?_
  rintro ⟨rb, h, ad, c, b⟩ w ⟨hU, hr, hb, hs⟩ w1 hd
  dsimp only at hr hb hs ⊢
  have hts : (h ++ b).size = h.size + b.size := ByteArray.size_append
  refine ⟨h, box_cell hr, b, bytesIn_of rfl (hb.ext hd.ext), Ext.refl _, by omega, ?_, ?_⟩
  · refine ⟨(0, none, 0), ?_, rfl, Nat.zero_le _, fun j hj => by omega, Made.nil _ _ _⟩
    show Value.string (h ++ b) = Value.string ((h ++ b).extract 0 (h ++ b).size)
    rw [ByteArray.extract_zero_size]
  generalize h ++ b = t at hts hs ⊢
  have hct := cnt_le t
  have hrl := runes_len t
  rintro _ ⟨n, o, oc⟩ w3 ⟨hn, hwh, hm⟩
  dsimp only at hn hwh hm ⊢
  have hpl := pos_le t n
  have hxs : (t.extract (pos t n) t.size).size = t.size - pos t n := size_ext (Nat.le_refl _)
  have e03 := Ext.trans hd.ext hm.ext
  refine ⟨_, rfl, ⟨hU.ext e03, by rw [hxs]; omega⟩, ?_⟩
  rintro x w4 ⟨rfl, e34⟩
  have e04 := e03.trans e34
  refine bcase_mk (fun hb2 => ?_) (fun hb2 => ?_)
  · have hp : pos t n < t.size := by
      rcases Nat.lt_or_ge (pos t n) t.size with h1 | h1
      · exact h1
      · exfalso
        have h0 : (t.extract (pos t n) t.size).size = 0 := by omega
        unfold wholeB at hb2
        simp [h0] at hb2
    have hnc := cnt_lt.2 hp
    have d1 := dcN_le hp
    refine ⟨_, rfl, ⟨hU.ext e04, by rw [hxs]; omega⟩, ?_⟩
    rintro ⟨r, m⟩ w5 ⟨hr5, hm5, e45⟩
    dsimp only at hr5 hm5 ⊢
    rw [(drop_next hnc).2] at hr5
    rw [(drop_next hnc).1] at hm5
    subst hr5 hm5
    intro b6 w6 hn6
    obtain ⟨o2, oc2, w7, hrun2, hko2, hm7, e67, _⟩ := (hm.later (e34.trans e45)).pushN (P := Tryd.prog) (ty := 26) elem32 (by decide) (m := 1) (news := [.int .i32 (dcR t (pos t n))]) hn6 rfl (by simp [Value.oneCell']) (by unfold maxLen; omega) (.inr (by omega))
    refine ⟨o2, oc2, w7, hrun2, hko2, dcN t (pos t n), rfl, by rw [hxs]; omega, Nat.le_refl _, (n + 1, o2, oc2), ?_, rfl, ⟨hnc, fun j hj => ?_, ?_⟩, ?_⟩
    · dsimp only; rw [ext_ext t _ _ hpl, pos_succ hp]
    · by_cases hjn : j = n
      · subst hjn; exact hb2
      · exact hwh j (by dsimp only at hj; omega)
    · dsimp only
      rw [getD_take_map (by rw [hrl]; exact hnc), runes_at hnc]; exact hm7
    · dsimp only; omega
  · have hfd := fdN_of hn hwh (.inr hb2)
    have hfr : fdR t = (runes t).take n := by unfold fdR; rw [hfd]
    have hr4 := e04.heap hr
    have hrb := heap_lt hr
    have hdz := hd.ext.size
    refine ⟨rfl, box_old hr4, box_free hr4, fun w5 hs5 => ⟨(o, n, oc), rfl, by dsimp only; rw [hfr, List.length_take]; omega, ⟨?_, fun q hq => Nat.le_trans hdz (hm.new q hq)⟩, ?_, (Fr.of_ext e04).trans (Fr.stored hs5) (fun _ _ h => h)⟩⟩
    · rw [hfr]
      exact (hm.row.ext e34).keep fun q hq => hs5.other (by show q ≠ rb; have := hm.new q hq; omega)
    · unfold RfIn fdH
      rw [hfd]; exact hs5.box hr4

theorem rend_ok : sREnd.Ok Tryd.prog 60 := by
  refine rend_vc trivial ?_
  rintro ⟨rb, h⟩ w ⟨hr, hs⟩
  dsimp only at hr hs ⊢
  have hrb := heap_lt hr
  refine ⟨⟨(0, none, 0), rfl, rfl, Nat.zero_le _, Made.nil _ _ _⟩, ?_⟩
  rintro _ ⟨n, o, oc⟩ w2 ⟨hn, hm⟩
  dsimp only at hn hm ⊢
  have hr2 := hm.ext.heap hr
  refine ⟨h, box_cell hr2, ?_⟩
  refine bcase_mk (fun hb => ?_) (fun hb => ?_)
  · have hlt : n < h.size := by simp only [decide_eq_true_eq] at hb; omega
    intro b3 w3 hn3
    obtain ⟨o2, oc2, w4, hrun, hko, hm4, _⟩ := hm.pushN (P := Tryd.prog) (ty := 26) elem32 (by decide) (m := 1) (news := [.int .i32 65533]) hn3 rfl (by simp [Value.oneCell']) (by unfold maxLen; omega) (.inr (by omega))
    refine ⟨o2, oc2, w4, hrun, hko, inr_i64 (by omega) (by omega), (n + 1, o2, oc2), by simp, rfl, ⟨hlt, ?_⟩, by dsimp only; omega⟩
    dsimp only
    rw [badsL_succ]; exact hm4
  · have hlt : n = h.size := by simp only [decide_eq_false_iff_not] at hb; omega
    subst hlt
    refine ⟨rfl, box_old hr2, box_free hr2, fun w3 hs3 => ⟨(o, h.size, oc), rfl, rfl, ⟨hm.row.keep fun q hq => hs3.other (by show q ≠ rb; have := hm.new q hq; omega), hm.new⟩, hs3.box hr2, (Fr.of_ext hm.ext).trans (Fr.stored hs3) (fun _ _ h => h)⟩⟩

end Go.Proofs.YthkcphnkllnfcaaDoor
