/-
  Chapter 1: the law on readers.
-/
import Derived.Test.YthkcphnkllnfcaaDoorVgU
import Derived.Test.YthkcphnkllnfcaaDoorWkT
set_option linter.unusedVariables false
set_option linter.unusedSimpArgs false
namespace Go.Proofs.YthkcphnkllnfcaaDoor
open Go Go.RowKit Vc Ut

theorem blk_slN {a : Option Addr} {n c g : Nat} : slN (.slice a n c) g ↔ blk a = some g := by
  cases a with
  | none => simp [slN, blk]
  | some p => simp only [slN, blk, Option.map_some, Option.some.injEq]; exact eq_comm

/-- Bytes lie in no variable of another kind. -/
theorem bytes_fr {S : Nat → Prop} {w w' : World} {ad : Option Addr} {s : ByteArray} (h : CellsAt w ad (bytesV s)) (hf : Fr S w w') (hS : ∀ q, S q → ∀ o n, w.cell? ⟨q, o, none⟩ ≠ some (.int .u8 n)) : CellsAt w' ad (bytesV s) := by
  rcases h with h | ⟨b, o, h1, h2⟩
  · exact .inl h
  · refine .inr ⟨b, o, h1, fun j v hv => ?_⟩
    have hc := h2 j v hv
    have hb : b < w.heap.size := World.block_lt_of_cell? w _ hc
    obtain ⟨hj, hv'⟩ := List.getElem?_eq_some_iff.1 hv
    rw [bytesV_len] at hj
    rw [bytesV_at hj] at hv
    injection hv with hv
    subst hv
    exact (World.cell?_of_block (w := w) (hf.block b hb (fun hs => hS b hs _ _ hc))).trans hc
theorem no_u8 {w : World} {q : Nat} {v : Value} {t : TypeId} (h : w.heap[q]? = some (.cells #[v] t)) (hv : ∀ n, v ≠ .int .u8 n) : ∀ o n, w.cell? ⟨q, o, none⟩ ≠ some (.int .u8 n) := by
  intro o n hc
  rw [cell_of_heap h] at hc
  cases o with
  | zero => simp at hc; exact hv n hc
  | succ o => simp at hc
theorem RdIn.fr2 {S : Nat → Prop} {w w' : World} {rb hc : Nat} {ha : Option Addr} {h : ByteArray} (hr : RdIn w rb ha hc h) (hf : Fr S w w') (h1 : ¬ S rb) (hS : ∀ q, S q → ∀ o n, w.cell? ⟨q, o, none⟩ ≠ some (.int .u8 n)) : RdIn w' rb ha hc h :=
  ⟨(hf.block _ (heap_lt hr.box) h1).trans hr.box, bytes_fr hr.cells hf hS, hr.le⟩
theorem RfIn.fr {S : Nat → Prop} {w w' : World} {fb : Nat} {h : ByteArray} (hr : RfIn w fb h) (hf : Fr S w w') (h1 : ¬ S fb) : RfIn w' fb h := (hf.block _ (heap_lt hr) h1).trans hr
theorem RdIn.no {w : World} {rb hc : Nat} {ha : Option Addr} {h : ByteArray} (hr : RdIn w rb ha hc h) : ∀ o n, w.cell? ⟨rb, o, none⟩ ≠ some (.int .u8 n) := no_u8 hr.box (fun n e => by cases e)
theorem RfIn.no {w : World} {fb : Nat} {h : ByteArray} (hr : RfIn w fb h) : ∀ o n, w.cell? ⟨fb, o, none⟩ ≠ some (.int .u8 n) := no_u8 hr (fun n e => by cases e)
theorem U8.off {w : World} {q : Nat} (h : U8 w) (hq : ∀ o n, w.cell? ⟨q, o, none⟩ ≠ some (.int .u8 n)) : 0 ≠ q ∧ 1 ≠ q :=
  ⟨fun e => by subst e; exact hq _ _ (h.1 0 (by decide)), fun e => by subst e; exact hq _ _ (h.2 0 (by decide)).1⟩
theorem rd_ne_rf {w : World} {rb hc fb : Nat} {ha : Option Addr} {h h' : ByteArray} (hr : RdIn w rb ha hc h) (hf : RfIn w fb h') : rb ≠ fb := by
  rintro rfl
  have := hr.box.symm.trans hf
  simp at this

theorem much_ok : sMuch.Ok Tryd.prog 43 := by
  refine much_vc trivial ?_
  rintro ⟨ad, c, l⟩ w ⟨⟨hc, hl⟩, hn⟩
  dsimp only at hc hl hn ⊢
  refine ⟨⟨(0, 0), rfl, rfl, rfl, Nat.zero_le _, Nat.zero_le _⟩, ?_⟩
  rintro _ ⟨i, n⟩ w1 ⟨hw, hi, hn1⟩
  replace hw := hw.symm
  subst hw
  dsimp only at hi hn1 ⊢
  refine bcase_mk (fun h => ?_) (fun _ => ⟨false, rfl, rfl⟩)
  have hlt : i < l.length := by simp only [decide_eq_true_eq] at h; omega
  have hx : l[i]? = some (l[i]) := List.getElem?_eq_getElem hlt
  have hz := (hl _ (List.getElem_mem hlt)).2
  refine ⟨inr_i64 (by omega) (by omega), i, rfl, hlt, hc.fld (k := i) (s := 2) (j := 1) (v := .slice (l[i]).ad (l[i]).s.size (l[i]).c) (by rw [flat_at (f := stV) (s := 2) (fun _ => rfl) hx (by omega)]; rfl) fun b o hb => ⟨_, _, _, hb, inr_i64 (by omega) (by omega), ?_⟩⟩
  refine bcase_mk (fun _ => ⟨true, rfl, rfl⟩) (fun h => ?_)
  have h : ¬ ((n : Int) + 1 + ((l[i]).s.size : Int) > 16777216) := by simpa using h
  exact ⟨inr_i64 (by omega) (by omega), (i + 1, n + 1 + (l[i]).s.size), by simp, by simp, ⟨rfl, hlt, by dsimp only; omega⟩, by dsimp only; omega⟩

theorem step_ok : sStep.Ok Tryd.prog 45 := by
  refine step_vc ⟨rfeed_ok, feed_ok, sameR_ok, rend_ok, end_ok, held_ok, rheld_ok, trivial⟩ ?_
  rintro ⟨rb, ha, hc, fb, h, ⟨d, ad, c, s⟩⟩ w ⟨hU, hr, hf, hb, hh, hs⟩ b w1 hn1
  dsimp only at hr hf hb hh hs ⊢
  have hne := rd_ne_rf hr hf
  have hrb := heap_lt hr.box
  have hfb := heap_lt hf
  have hut := hU.lt
  have hz1 := hn1.size
  have hbx : w1.cell? ⟨b, 0, none⟩ = some (.int .i64 d) := by rw [hn1.cell]; rfl
  have hbs : w1.cell? ⟨b, 1, none⟩ = some (.slice ad s.size c) := by rw [hn1.cell]; rfl
  have hU1 := hU.ext hn1.ext
  have hr1 := hr.ext hn1.ext
  have hf1 : RfIn w1 fb h := hn1.ext.heap hf
  have hb1 := hb.ext hn1.ext
  have hts : (h ++ s).size = h.size + s.size := ByteArray.size_append
  have fr01 : Fr (two rb fb) w w1 := Fr.of_ext hn1.ext
  refine ⟨d, hbx, bcase_mk (fun _ => ?_) (fun _ => ?_)⟩
  · -- Feed
    intro b1 w2 hn2
    refine ⟨ad, s.size, c, hn2.ext.cell hbs, ?_⟩
    have hm2 := Made.box (n := 0) (s := 1) hn2 (Ext.refl w1) rfl (Nat.zero_le _)
    obtain ⟨a2, c2, w3, hrun2, hko2, hm3, _⟩ := hm2.pushS (P := Tryd.prog) (ty := 47) (sa := ad) (cx := c) elem8 (by decide) (m := s.size) (news := bytesV s) (by rw [bytesV_len]; omega) (hb1.ext hn2.ext) (bytesV_one s) (by unfold maxLen; omega) (.inr (by omega))
    refine ⟨a2, c2, w3, hrun2, hko2, fun b2 w4 hn4 => ?_⟩
    obtain ⟨a3, c3, w5, hrun3, hko3, hm5, _⟩ := hm3.pushN (P := Tryd.prog) (ty := 47) elem8 (by decide) (m := 2) (news := [.int .u8 165, .int .u8 165]) hn4 rfl (by simp [Value.oneCell']) (by unfold maxLen; omega) (.inr (by omega))
    have e15 := hm5.ext
    have e05 := hn1.ext.trans e15
    have hz5 := e15.size
    have hle5 := hm5.row.le.1
    refine ⟨a3, c3, w5, hrun3, hko3, ad, s.size, c, e15.cell hbs, s.size, rfl, by omega, ad, s.size, c, e15.cell hbs, ?_⟩
    have hU5 := hU1.ext e15
    have hf5 : RfIn w5 fb h := e15.heap hf1
    have hb5 := hb1.ext e15
    refine ⟨⟨fb, h, ad, c, s⟩, rfl, ⟨hU5, hf5, hb5, by dsimp only; omega⟩, ?_⟩
    rintro ⟨xa, xn, xc⟩ w6 ⟨hxn, hxr, hf6, fr6⟩
    dsimp only at hxn hxr hf6 fr6 ⊢
    subst hxn
    have hr5 := hr1.ext e15
    have hr6 := hr5.fr2 fr6 hne (fun q hq => by subst hq; exact hf5.no)
    have hU6 := hU5.fr fr6 (hU5.off hf5.no).1 (hU5.off hf5.no).2
    have lo3 : ∀ q, blk a3 = some q → w1.heap.size ≤ q := hm5.new
    have hi3 : ∀ q, blk a3 = some q → q < w5.heap.size := fun q hq => hm5.row.lt hq
    have hrow6 := hm5.row.fr fr6 (fun q hq h => by have := lo3 q hq; omega)
    have hcut : (([] : List Value) ++ bytesV s ++ [Value.int .u8 165, Value.int .u8 165]).take s.size = bytesV s := by
      rw [List.nil_append]; exact List.take_left' (bytesV_len s)
    have mine : ∀ {w' : World} {vs : List Value} {cc : Nat}, Row w' 5 1 a3 (0 + s.size + 2) vs cc → vs = ([] : List Value) ++ bytesV s ++ [Value.int .u8 165, Value.int .u8 165] → CellsAt w' a3 (bytesV s) := fun hh e => by
      subst e
      have := hh.cells.take s.size
      rwa [hcut] at this
    refine ⟨⟨rb, ha, hc, h, a3, c3, s⟩, rfl, ⟨hU6, hr6, mine hrow6 rfl, by dsimp only; omega, by dsimp only; omega⟩, ?_⟩
    rintro ⟨⟨oa, on, oc⟩, ⟨ha', hc'⟩⟩ w7 ⟨hon, hor, hr7, hnew7, hdis, fr7⟩
    dsimp only at hon hor hr7 hnew7 hdis fr7 ⊢
    subst hon
    have hz6 := fr6.size
    have hz7 := fr7.size
    have hz8 := hr7.box
    obtain ⟨hsz3, _⟩ := held_all (h ++ s)
    generalize h ++ s = t at hts hxr hf6 hor hr7 hsz3 ⊢
    have hf7 := hf6.fr fr7 (fun e => hne e.symm)
    have hrow7 := hrow6.fr fr7 (fun q hq h => by have := lo3 q hq; omega)
    have hx7 := hxr.row.fr fr7 (fun q hq h => by have := hxr.new q hq; omega)
    have hbx5 : w5.heap[b]? = some _ := e15.heap hn1.heap
    have hbx7 : w7.heap[b]? = some _ := (fr7.block b (by have := heap_lt hbx5; omega) (by omega)).trans ((fr6.block b (heap_lt hbx5) (by omega)).trans hbx5)
    have hbs7 : w7.cell? ⟨b, 1, none⟩ = some (.slice ad s.size c) := by rw [cell_of_heap hbx7]; rfl
    have hb7 := bytes_fr (bytes_fr hb5 fr6 (fun q hq => by subst hq; exact hf5.no)) fr7 (fun q hq => by subst hq; exact hr6.no)
    have hrl := runes_len t
    have hcl := cnt_le t
    have hlt : (fdR t).length ≤ 1048580 := by unfold fdR; rw [List.length_take]; omega
    refine ⟨?_, ?_⟩
    · refine ⟨⟨⟨oa, oc, fdR t⟩, ⟨xa, xc, fdR t⟩⟩, rfl, ⟨⟨hor.row.cells, by dsimp only; omega⟩, ⟨hx7.cells, by dsimp only; omega⟩⟩, ?_⟩
      rintro y w8 ⟨hy, e78⟩
      simp only [decide_true] at hy
      subst hy
      refine bcase_mk (fun _ => ?_) (fun h => by cases h)
      have hbs8 := e78.cell hbs7
      refine ⟨s, bytesIn_of rfl (mine (hrow7.ext e78) rfl), ad, s.size, c, hbs8, s, bytesIn_of rfl (hb7.ext e78), ?_⟩
      refine bcase_mk (fun _ => ?_) (fun h => by simp at h)
      have at2 : ∀ j, j < 2 → (([] : List Value) ++ bytesV s ++ [Value.int .u8 165, Value.int .u8 165])[s.size + j]? = some (.int .u8 165) := fun j hj => by
        rw [List.nil_append, List.getElem?_append_right (by rw [bytesV_len]; omega), bytesV_len, Nat.add_sub_cancel_left]
        match j, hj with
        | 0, _ => rfl
        | 1, _ => rfl
      refine ⟨ad, s.size, c, hbs8, s.size, rfl, by omega, (hrow7.ext e78).cells.ptr (at2 0 (by omega)) fun b3 o3 hb3 => ⟨_, hb3, ?_⟩⟩
      refine bcase_mk (fun _ => ?_) (fun h => by simp at h)
      exact ⟨ad, s.size, c, hbs8, inr_i64 (by omega) (by omega), s.size + 1, by simp, by omega, (hrow7.ext e78).cells.ptr (at2 1 (by omega)) fun b4 o4 hb4 => ⟨_, hb4, (), rfl, e78⟩⟩
    intro _ _ w8 e78
    have hn2 : 0 + s.size + 2 = s.size + 2 := by omega
    have hrow8 := hrow7.ext e78
    rw [hn2] at hrow8 ⊢
    refine ⟨⟨0, rfl, Nat.zero_le _, ⟨a3, c3, _, rfl, hrow8⟩, Fr.refl _ _⟩, ?_⟩
    rintro _ i w9 ⟨hi, ⟨a9, c9, vs, he, hrow9⟩, fr9⟩
    injection he with h1 _ h3
    subst h1 h3
    refine bcase_mk (fun h => ?_) (fun _ => ?_)
    · have hlt : i < s.size + 2 := by simp only [decide_eq_true_eq] at h; omega
      refine ⟨i, rfl, hlt, hrow9.wr hlt fun g hg => ?_⟩
      subst hg
      have hst := hrow9.at_store hlt
      refine ⟨rfl, hst.1, hst.2, ?_⟩
      intro w10 hs10
      refine ⟨inr_i64 (by omega) (by omega), i + 1, by simp, ⟨hlt, ⟨_, _, _, rfl, hrow9.store hs10⟩, fr9.trans (Fr.stored hs10) (fun x _ hx => ?_)⟩, by omega⟩
      subst hx; exact blk_slN.2 rfl
    have hz9 := fr9.size
    have hz78 := e78.size
    have ngot : ∀ q, blk oa = some q → ¬ slN (.slice a3 (s.size + 2) c3) q := fun q hq h => by have := hor.new q hq; have := hi3 q (blk_slN.1 h); omega
    have hor9 := (hor.row.ext e78).fr fr9 ngot
    refine ⟨⟨0, rfl, Nat.zero_le _, ⟨oa, oc, _, rfl, hor9⟩, Fr.refl _ _⟩, ?_⟩
    rintro _ j w10 ⟨hj, ⟨a10, c10, us, he, hrow10⟩, fr10⟩
    injection he with h1 _ h3
    subst h1 h3
    refine bcase_mk (fun h => ?_) (fun _ => ?_)
    · have hlt : j < (fdR t).length := by simp only [decide_eq_true_eq] at h; omega
      refine ⟨j, rfl, hlt, hrow10.wr hlt fun g hg => ?_⟩
      subst hg
      have hst := hrow10.at_store hlt
      refine ⟨rfl, hst.1, hst.2, ?_⟩
      intro w11 hs11
      refine ⟨inr_i64 (by omega) (by omega), j + 1, by simp, ⟨hlt, ⟨_, _, _, rfl, hrow10.store hs11⟩, fr10.trans (Fr.stored hs11) (fun x _ hx => ?_)⟩, by omega⟩
      subst hx; exact blk_slN.2 rfl
    have lo10 : ∀ q, blk oa = some q → w6.heap.size ≤ q := hor.new
    refine ⟨(fdH t, ha', hc'), rfl, hsz3, ?_, ?_, ?_⟩
    · refine ((hr7.ext e78).fr fr9 (fun h => ?_) (fun q hq h => ?_)).fr fr10 (fun h => ?_) (fun q hq h => hdis q (blk_slN.1 h) hq)
      · have := lo3 rb (blk_slN.1 h); omega
      · have := hnew7 q hq; have := hi3 q (blk_slN.1 h); omega
      · have := lo10 rb (blk_slN.1 h); omega
    · have hf8 : RfIn w8 fb (fdH t) := e78.heap hf7
      refine (hf8.fr fr9 (fun h => ?_)).fr fr10 (fun h => ?_)
      · have := lo3 fb (blk_slN.1 h); omega
      · have := lo10 fb (blk_slN.1 h); omega
    · have f06 : Fr (two rb fb) w w6 := (Fr.of_ext e05).trans fr6 (fun x _ hx => .inr hx)
      have f07 := f06.trans fr7 (fun x _ hx => .inl hx)
      have f08 := f07.trans (Fr.of_ext (S := two rb fb) e78) (fun _ _ h => h)
      have f09 := f08.trans fr9 (fun x hx h => by have := lo3 x (blk_slN.1 h); omega)
      exact f09.trans fr10 (fun x hx h => by have := lo10 x (blk_slN.1 h); omega)
  · refine bcase_mk (fun _ => ?_) (fun _ => ?_)
    · -- End
      refine ⟨⟨fb, h⟩, rfl, ⟨hf1, by dsimp only; omega⟩, ?_⟩
      rintro ⟨xa, xn, xc⟩ w2 ⟨hxn, hxr, hf2, fr2⟩
      dsimp only at hxn hxr hf2 fr2 ⊢
      subst hxn
      have hr2 := hr1.fr2 fr2 hne (fun q hq => by subst hq; exact hf1.no)
      refine ⟨⟨rb, ha, hc, h⟩, rfl, ⟨hr2, by dsimp only; omega⟩, ?_⟩
      rintro ⟨oa, on, oc⟩ w3 ⟨hon, hor, hr3, fr3⟩
      dsimp only at hon hor hr3 fr3 ⊢
      subst hon
      have hz2 := fr2.size
      have hx3 := hxr.row.fr fr3 (fun q hq h => by have := hxr.new q hq; omega)
      have hbl := badsL_len h.size
      refine ⟨⟨⟨oa, oc, badsL h.size⟩, ⟨xa, xc, badsL h.size⟩⟩, by rw [hbl], ⟨⟨hor.row.cells, by dsimp only; omega⟩, ⟨hx3.cells, by dsimp only; omega⟩⟩, ?_⟩
      rintro y w4 ⟨hy, e34⟩
      simp only [decide_true] at hy
      subst hy
      refine ⟨(⟨#[]⟩, none, 0), rfl, Nat.zero_le _, (RdIn.of_nil hr3).ext e34, ?_, ?_⟩
      · have := hf2.fr fr3 (fun e => hne e.symm)
        exact e34.heap this
      · exact ((fr01.trans fr2 (fun x _ hx => .inr hx)).trans fr3 (fun x _ hx => .inl hx)).trans (Fr.of_ext (S := two rb fb) e34) (fun _ _ h => h)
    · refine bcase_mk (fun _ => ?_) (fun _ => ⟨(h, ha, hc), rfl, hh, hr1, hf1, fr01⟩)
      refine ⟨⟨rb, ha, hc, h⟩, rfl, hr1, ?_⟩
      rintro n w2 ⟨hn, hw⟩
      replace hw := hw.symm
      subst hw
      refine ⟨⟨fb, h⟩, rfl, hf1, ?_⟩
      rintro m w2 ⟨hm, hw⟩
      replace hw := hw.symm
      subst hw
      dsimp only at hn hm
      subst hn hm
      exact ⟨(h, ha, hc), by simp, hh, hr1, hf1, fr01⟩

theorem lawRs_ok : sLawRs.Ok Tryd.prog 12 := by
  refine lawRs_vc ⟨much_ok, new_ok, step_ok, held_ok, rheld_ok, wakes_ok, trivial⟩ ?_
  rintro ⟨⟨aad, ac, al⟩, ⟨bad, bc, bl⟩⟩ w ⟨hU, hA, hB, hna, hnb⟩
  dsimp only at hA hB hna hnb ⊢
  have hut := hU.lt
  refine ⟨⟨aad, ac, al⟩, rfl, ⟨hA, hna⟩, ?_⟩
  rintro x w1 hw
  replace hw := hw.symm
  subst hw
  refine bcase_mk (fun _ => ⟨(), rfl, Ext.refl _⟩) (fun _ => ?_)
  refine ⟨⟨bad, bc, bl⟩, rfl, ⟨hB, hnb⟩, ?_⟩
  rintro x w1 hw
  replace hw := hw.symm
  subst hw
  refine bcase_mk (fun _ => ⟨(), rfl, Ext.refl _⟩) (fun _ => ?_)
  refine ⟨(), rfl, trivial, ?_⟩
  rintro r1 w1 ⟨hr1, hd1, e01⟩
  refine ⟨(), rfl, trivial, ?_⟩
  rintro r2 w2 ⟨hr2, hd2, e12⟩
  intro f1 w3 hn3 f2 w4 hn4
  have z3 := hn3.size
  have z4 := hn4.size
  have hl1 := heap_lt hd1.box
  have hl2 := heap_lt hd2.box
  have e24 := hn3.ext.trans hn4.ext
  have e04 := (e01.trans e12).trans e24
  dsimp only [ptrB]
  refine ⟨⟨(0, ⟨none, 0, ⟨#[]⟩⟩, ⟨none, 0, ⟨#[]⟩⟩), rfl, Nat.zero_le _, Nat.zero_le _, Nat.zero_le _, (hd1.ext e12).ext e24, hd2.ext e24, hn4.ext.heap hn3.heap, hn4.heap, e04⟩, ?_⟩
  rintro _ ⟨i, ⟨ha, hc, h⟩, ⟨ka, kc, k⟩⟩ w5 ⟨hi, hh, hk, q1, q2, q3, q4, e05⟩
  dsimp only at hi hh hk q1 q2 q3 q4 ⊢
  have hU5 := hU.ext e05
  have ne12 : r1 ≠ r2 := by omega
  have one : ∀ {g : GSt} {w' : World} {j : Nat} {K : Nat → Nat → Prop}, StAt w g → Ext w w' → (hj : j < g.l.length) →
      (∀ b o, w'.cell? ⟨b, o + j * 2, none⟩ = some (.int .i64 (g.l[j]).d) → w'.cell? ⟨b, o + j * 2 + 1, none⟩ = some (.slice (g.l[j]).ad (g.l[j]).s.size (g.l[j]).c) → K b o) → ptrE g.ad K := by
    intro g w' j K hg e hj hK
    have hx : g.l[j]? = some (g.l[j]) := List.getElem?_eq_getElem hj
    refine (hg.1.ext e).elem (k := j) (s := 2) (by decide) (by rw [flat_len' (f := stV) (s := 2) (fun _ => rfl)]; omega) fun b o hb => hK b o ?_ ?_
    · exact hb 0 _ (by rw [flat_at (f := stV) (s := 2) (fun _ => rfl) hx (by omega)]; rfl)
    · exact hb 1 _ (by rw [flat_at (f := stV) (s := 2) (fun _ => rfl) hx (by omega)]; rfl)
  have z5 := e05.size
  refine bcase_mk (fun hb => ?_) (fun hb => ?_)
  · simp only [Bool.or_eq_true, decide_eq_true_eq] at hb
    refine ⟨?_, ?_⟩
    · refine bcase_mk (fun hb1 => ?_) (fun _ => ⟨⟨ha, hc, h⟩, hh, q1, q3, Fr.refl _ _⟩)
      have hlt : i < al.length := by simp only [decide_eq_true_eq] at hb1; omega
      obtain ⟨hx1, hx2⟩ := hA.2 _ (List.getElem_mem hlt)
      refine ⟨i, rfl, hlt, one (g := ⟨aad, ac, al⟩) hA e05 hlt fun b o hb0 hb2 => ⟨_, hb0, _, _, _, hb2, ⟨r1, ha, hc, f1, h, al[i]⟩, rfl, ⟨hU5, q1, q3, hx1.ext e05, hh, hx2⟩, ?_⟩⟩
      rintro ⟨h', ha', hc'⟩ w6 ⟨p1, p2, p3, p4⟩
      exact ⟨⟨ha', hc', h'⟩, p1, p2, p3, p4⟩
    rintro _ ⟨ha', hc', h'⟩ w6 ⟨p1, p2, p3, p4⟩
    dsimp only at p1 p2 p3 p4 ⊢
    have hno : ∀ q, two r1 f1 q → ∀ o n, w5.cell? ⟨q, o, none⟩ ≠ some (.int .u8 n) := fun q hq => by
      rcases hq with rfl | rfl
      · exact q1.no
      · exact q3.no
    have e06 := Ext.fr_new e05 p4 (fun q hq => by rcases hq with rfl | rfl <;> have := e01.size <;> have := e12.size <;> omega)
    have hU6 := hU.ext e06
    have s2 : RdIn w6 r2 ka kc k := q2.fr2 p4 (fun hh => by rcases hh with h | h <;> omega) hno
    have s4 : RfIn w6 f2 k := q4.fr p4 (fun hh => by rcases hh with h | h <;> omega)
    refine bcase_mk (fun hb1 => ?_) (fun _ => ?_)
    · have hlt : i < bl.length := by simp only [decide_eq_true_eq] at hb1; omega
      obtain ⟨hx1, hx2⟩ := hB.2 _ (List.getElem_mem hlt)
      refine ⟨i, rfl, hlt, one (g := ⟨bad, bc, bl⟩) hB e06 hlt fun b o hb0 hb2 => ⟨_, hb0, _, _, _, hb2, ⟨r2, ka, kc, f2, k, bl[i]⟩, rfl, ⟨hU6, s2, s4, hx1.ext e06, hk, hx2⟩, ?_⟩⟩
      rintro ⟨k', ka', kc'⟩ w7 ⟨t1, t2, t3, t4⟩
      dsimp only at t1 t2 t3 t4 ⊢
      have hno2 : ∀ q, two r2 f2 q → ∀ o n, w6.cell? ⟨q, o, none⟩ ≠ some (.int .u8 n) := fun q hq => by
        rcases hq with rfl | rfl
        · exact s2.no
        · exact s4.no
      have e07 := Ext.fr_new e06 t4 (fun q hq => by rcases hq with rfl | rfl <;> have := e01.size <;> have := e12.size <;> omega)
      refine ⟨inr_i64 (by omega) (by omega), (i + 1, ⟨ha', hc', h'⟩, ⟨ka', kc', k'⟩), by simp, ⟨by dsimp only; omega, p1, t1, p2.fr2 t4 (fun hh => by rcases hh with h | h <;> omega) hno2, t2, p3.fr t4 (fun hh => by rcases hh with h | h <;> omega), t3, e07⟩, by dsimp only; omega⟩
    · exact ⟨inr_i64 (by omega) (by omega), (i + 1, ⟨ha', hc', h'⟩, ⟨ka, kc, k⟩), by simp, ⟨by dsimp only; omega, p1, hk, p2, s2, p3, s4, e06⟩, by dsimp only; omega⟩
  · refine ⟨⟨r1, ha, hc, h⟩, rfl, q1, ?_⟩
    rintro n w6 ⟨hn, hw⟩
    replace hw := hw.symm
    subst hw
    refine ⟨⟨f1, h⟩, rfl, q3, ?_⟩
    rintro m w6 ⟨hm, hw⟩
    replace hw := hw.symm
    subst hw
    dsimp only at hn hm
    subst hn hm
    refine bcase_mk (fun _ => ?_) (fun h => by simp at h)
    refine ⟨⟨r2, ka, kc, k⟩, rfl, q2, ?_⟩
    rintro n w6 ⟨hn, hw⟩
    replace hw := hw.symm
    subst hw
    refine ⟨⟨f2, k⟩, rfl, q4, ?_⟩
    rintro m w6 ⟨hm, hw⟩
    replace hw := hw.symm
    subst hw
    dsimp only at hn hm
    subst hn hm
    refine bcase_mk (fun _ => ?_) (fun h => by simp at h)
    refine ⟨(), rfl, hU5, ?_⟩
    rintro _ w6 e56
    exact ⟨(), rfl, e05.trans e56⟩

end Go.Proofs.YthkcphnkllnfcaaDoor
