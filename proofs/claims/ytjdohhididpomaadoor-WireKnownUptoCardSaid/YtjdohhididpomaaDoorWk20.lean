/-
  Texts joined by program: WkXp, WkXq, SpXg, VgXg, WkXf, WkXg.
-/
import Derived.Test.YtjdohhididpomaaDoorWk19
import Derived.Test.YtjdohhididpomaaDoorWk07
import Derived.Test.YtjdohhididpomaaDoorProg
import Derived.KernelRfl
import Derived.Test.YtjdohhididpomaaDoorWk16
import Derived.Test.YtjdohhididpomaaDoorWk17
set_option linter.unusedVariables false
set_option linter.unusedSimpArgs false

section
namespace Go.Proofs.YtjdohhididpomaaDoor
open Go Go.RowKit Vc Ut Tb Cl
theorem held_le (t : ByteArray) : (fdH t).size ≤ 3 := by
  obtain ⟨h1, h2, h3⟩ := fdN_spec t
  rcases h3 with h3 | h3
  · have h0 : (fdH t).size = 0 := by
      unfold fdH; rw [h3, pos_cnt, size_ext (Nat.le_refl _), Nat.sub_self]
    omega
  · exact (runes_held h3).1
theorem fdR_len (t : ByteArray) : (fdR t).length ≤ t.size := by
  unfold fdR
  rw [List.length_take, runes_len]
  have := cnt_le t
  omega
theorem RdIn.fr {S : Nat → Prop} {w w' : World} {rb hc : Nat} {ha : Option Addr} {h : ByteArray} (hr : RdIn w rb ha hc h) (hf : Fr S w w') (h1 : ¬ S rb) (h2 : ∀ q, blk ha = some q → h.size ≠ 0 → ¬ S q) : RdIn w' rb ha hc h := by
  refine ⟨(hf.block _ (heap_lt hr.box) h1).trans hr.box, ?_, hr.le⟩
  by_cases h0 : h.size = 0
  · rw [size_zero h0]; exact CellsAt.nil _ _
  · exact hr.cells.fr hf (fun q hq => h2 q hq h0)
theorem RdIn.ext {w w' : World} {rb hc : Nat} {ha : Option Addr} {h : ByteArray} (hr : RdIn w rb ha hc h) (hx : Ext w w') : RdIn w' rb ha hc h :=
  hr.fr (Fr.of_ext (S := fun _ => False) hx) (fun h => h) (fun _ _ _ h => h)
theorem RdIn.lt {w : World} {rb hc : Nat} {ha : Option Addr} {h : ByteArray} (hr : RdIn w rb ha hc h) {q : Nat} (hq : blk ha = some q) (h0 : h.size ≠ 0) : q < w.heap.size := by
  rcases hr.cells with h1 | ⟨b, o, h1, h2⟩
  · exfalso
    have := congrArg List.length h1
    unfold bytesV at this
    rw [List.length_map] at this
    apply h0
    show h.data.size = 0
    rw [← Array.length_toList]; simpa using this
  · subst h1
    have e : b = q := Option.some.inj hq
    subst e
    have hl : 0 < (bytesV h).length := by
      unfold bytesV; rw [List.length_map, Array.length_toList]; show 0 < h.size; omega
    exact World.block_lt_of_cell? _ _ (h2 0 _ (List.getElem?_eq_getElem hl))
theorem GlIn.fr {S : Nat → Prop} {w w' : World} {A : GlP} {g : Gs} (h : GlIn w A g) (hf : Fr S w w') (hS : ∀ q, S q → A.B ≤ q ∧ ¬ own A q) : GlIn w' A g :=
  ⟨(hf.block _ (heap_lt h.box) (fun hh => (hS _ hh).2 (.inl rfl))).trans h.box, h.row.fr hf (fun q hq hh => (hS q hh).2 (.inr (.inl hq))), h.num.fr hf (fun q hq hh => (hS q hh).2 (.inr (.inr hq))), h.nil, h.bq, Nat.le_trans h.bw hf.size, h.u.on (hf.below h.bw (fun q hq hh => by have := (hS q hh).1; omega))⟩
theorem new_fin {w w12 : World} {W H b b1 x1 : Nat} {wd : Bool} (hu : UDB w.heap.size w) (hx : Ext w w12) (hs : sizeB W H = true) (hb : w.heap.size ≤ b) (hx1 : w.heap.size ≤ x1) (hb1 : w.heap.size ≤ b1) (n1 : x1 ≠ b) (n2 : x1 ≠ b1)
    (hr : Row w12 46 6 (some ⟨b, 0, none⟩) (W * H) (flat (List.replicate (W * H) (blkC 0))) (W * H)) (hrd : RdIn w12 x1 none 0 ⟨#[]⟩)
    (hbox : w12.heap[b1]? = some (.cells #[.int .i64 W, .int .i64 H, .bool wd, .slice (some ⟨b, 0, none⟩) (W * H) (W * H), .int .i64 0, .int .i64 0, .bool false, .int .u16 0, .int .i64 0, .pointer (some ⟨x1, 0, none⟩), .int .i64 0, .slice none 0 0, .bool false, .bool false] 66)) :
    ∃ x2 : NwX, Value.tuple #[.pointer (some ⟨b1, 0, none⟩), .int .i64 0] = Value.tuple #[.pointer x2.p, .int .i64 x2.e] ∧ Ext w w12 ∧ (sizeB W H = false → x2.p = none ∧ x2.e = 5) ∧
      (sizeB W H = true → x2.p = some ⟨x2.A.p, 0, none⟩ ∧ x2.e = 0 ∧ x2.A.B = w.heap.size ∧ GlIn w12 x2.A (newG (W : Int).toNat (H : Int).toNat wd) ∧ GlRd w12 x2.A none 0 ⟨#[]⟩) := by
  refine ⟨⟨some ⟨b1, 0, none⟩, 0, ⟨w.heap.size, b1, some ⟨b, 0, none⟩, W * H, x1, none, 0⟩⟩, rfl, hx, fun h => (by rw [hs] at h; cases h), fun _ => ⟨rfl, rfl, rfl, ?_, ?_⟩⟩
  · rw [Int.toNat_natCast, Int.toNat_natCast]
    have hl : (newG W H wd).cs.length = W * H := List.length_replicate
    refine ⟨?_, ?_, Row.nil _ _ _, fun _ => rfl, ?_, hx.size, hu.on hx⟩
    · show w12.heap[b1]? = _
      rw [hbox]; unfold glV; rw [hl]; rfl
    · rw [hl]; exact hr
    · rintro q (hq | hq | hq)
      · subst hq; exact hb1
      · have e : b = q := Option.some.inj hq; subst e; exact hb
      · cases hq
  · refine ⟨hrd, by decide, ?_⟩
    rintro q (hq | ⟨hq, -⟩)
    · dsimp only at hq
      subst hq
      refine ⟨hx1, heap_lt hrd.box, ?_⟩
      rintro (hq | hq | hq)
      · exact n2 hq
      · have e : b = q := Option.some.inj hq; exact n1 e.symm
      · cases hq
    · cases hq
theorem newG_ok : sNewG.Ok Tryd.prog 11 := by
  refine newG_vc ⟨sizeW_ok, new_ok, trivial⟩ ?_
  rintro ⟨gw, gh, wd⟩ w hu
  dsimp only at hu ⊢
  refine ⟨(gw, gh), rfl, trivial, ?_⟩
  rintro _ w1 ⟨rfl, hx1⟩
  refine bcase_mk (fun h => ?_) (fun h => ?_)
  · have h : sizeB gw gh = false := by simpa using h
    exact ⟨⟨none, 5, ⟨0, 0, none, 0, 0, none, 0⟩⟩, rfl, hx1, fun _ => ⟨rfl, rfl⟩, fun h' => (by rw [h] at h'; cases h')⟩
  have h : sizeB gw gh = true := by simpa using h
  have hsz := h
  unfold sizeB at hsz
  have hsz := of_decide_eq_true hsz
  obtain ⟨W, rfl⟩ : ∃ n : Nat, gw = (n : Int) := ⟨gw.toNat, by omega⟩
  obtain ⟨H, rfl⟩ : ∃ n : Nat, gh = (n : Int) := ⟨gh.toNat, by omega⟩
  have hW : W ≤ 1024 := by omega
  have hH : H ≤ 1024 := by omega
  have hWH : W * H ≤ 1048576 := Nat.le_trans (Nat.mul_le_mul hW hH) (by decide)
  have hcast : (W : Int) * (H : Int) = ((W * H : Nat) : Int) := by rw [Int.natCast_mul]
  have hmk : (mkRow (ceV (blkC 0)).toArray (W * H)).size = (W * H) * 6 := by
    have := congrArg List.length (mkRow_flc (W * H))
    rw [Array.length_toList, flc_len, List.length_replicate] at this
    exact this
  intro w2 hd
  have hx2 := Ext.trans hx1 hd.ext
  rw [hcast]
  refine ⟨inr_i64 (by omega) (by omega), ⟨W * H, W * H, rfl, rfl, Nat.le_refl _, by omega, by omega, fun b w3 hn3 => ⟨hn3.ext, (), rfl, trivial, fun x1 w4 ⟨e1, hrd, hx4⟩ => ⟨hx4, fun b1 w5 hn5 => ?_⟩⟩⟩, (), rfl, trivial, fun x1 w4 ⟨e1, hrd, hx4⟩ => ⟨hx4, W * H, W * H, rfl, rfl, Nat.le_refl _, by omega, by omega, fun b w3 hn3 => ⟨hn3.ext, fun b1 w5 hn5 => ?_⟩⟩⟩
  · have z3 := hn3.size; have z5 := hn5.size; have zx := hx4.size; have z2 := hx2.size
    have hrow : Row w3 46 6 (some ⟨b, 0, none⟩) (W * H) ((mkRow (ceV (blkC 0)).toArray (W * H)).toList.take (W * H * 6)) (W * H) := Row.made (n := W * H) (s := 6) hn3 (Nat.le_refl _) (show W * H ≤ maxLen by unfold maxLen; omega) hmk
    rw [mkRow_flc, List.take_of_length_le (by rw [flc_len, List.length_replicate]; exact Nat.le_refl _)] at hrow
    exact new_fin hu (Ext.trans (Ext.trans hx2 hn3.ext) (Ext.trans hx4 hn5.ext)) h (by omega) (by omega) (by omega) (by omega) (by have := heap_lt hrd.box; omega) ((hrow.ext hx4).ext hn5.ext) (hrd.ext hn5.ext) hn5.heap
  · have z3 := hn3.size; have z5 := hn5.size; have zx := hx4.size; have z2 := hx2.size
    have hrow : Row w3 46 6 (some ⟨b, 0, none⟩) (W * H) ((mkRow (ceV (blkC 0)).toArray (W * H)).toList.take (W * H * 6)) (W * H) := Row.made (n := W * H) (s := 6) hn3 (Nat.le_refl _) (show W * H ≤ maxLen by unfold maxLen; omega) hmk
    rw [mkRow_flc, List.take_of_length_le (by rw [flc_len, List.length_replicate]; exact Nat.le_refl _)] at hrow
    have hlx := heap_lt hrd.box
    exact new_fin hu (Ext.trans (Ext.trans hx2 hx4) (Ext.trans hn3.ext hn5.ext)) h (by omega) (by omega) (by omega) (by omega) (by omega) (hrow.ext hn5.ext) ((hrd.ext hn3.ext).ext hn5.ext) hn5.heap
theorem feedN_ok : sFeedN.Ok Tryd.prog 12 :=
  feedN_vc ⟨feed_ok, takeG_ok, trivial⟩ fun _ w _ => ⟨(), rfl, Ext.refl w⟩
theorem feed_step (g : Gs) (l : List Int) {k : Nat} (hk : k < l.length) : feedG g (l.take (k + 1)) = takeG (feedG g (l.take k)) l[k] := by
  unfold feedG
  rw [List.take_add_one, List.getElem?_eq_getElem hk, Option.toList_some, List.foldl_append]
  rfl
set_option maxRecDepth 2000 in
theorem feedG_ok : sFeedG.Ok Tryd.prog 12 := by
  refine feedG_vc ⟨feed_ok, takeG_ok, trivial⟩ ?_
  rintro ⟨A, g, m, ha, hc, h, ad, c, b⟩ w ⟨hG, hk, hR, hcb, hbz, hmb⟩
  dsimp only at hG hk hR hcb hbz hmb ⊢
  have hsm := hR.sm
  refine ⟨some ⟨A.rb, 0, none⟩, (cell_of_heap hG.box 9).trans rfl, ⟨A.rb, ha, hc, h, ad, c, b⟩, rfl, ⟨hG.ud.1, hR.rd, hcb, by dsimp only; omega, hbz⟩, ?_⟩
  rintro ⟨⟨ra, rn, rc⟩, ha', hc'⟩ w1 ⟨hrn, hrow, hrd, hnew, hne, hfr⟩
  dsimp only at hrn hrow hrd hnew hne hfr ⊢
  subst hrn
  have hrb := hR.far A.rb (.inl rfl)
  have hG1 : GlIn w1 A g := hG.fr hfr (fun q hq => by subst hq; exact ⟨hrb.1, hrb.2.2⟩)
  have hlb := fdR_len (h ++ b)
  have hsz : (h ++ b).size = h.size + b.size := ByteArray.size_append
  refine ⟨⟨(A, 0), rfl, Nat.zero_le _, GlOut.refl hG1⟩, ?_⟩
  rintro _ ⟨A2, k⟩ w2 ⟨hk2, hO2⟩
  dsimp only at hk2 hO2 ⊢
  have hp2 : A2.p = A.p := hO2.p
  refine bcase_mk (fun h1 => ?_) (fun h1 => ?_)
  · have h1 : k < (fdR (h ++ b)).length := by have := of_decide_eq_true h1; omega
    have hc2 : CellsAt w2 ra ((fdR (h ++ b)).map (Value.int .i32)) := hrow.row.cells.fr hO2.st.fr (fun q hq hh => by have := hG.lt q hh; have := hrow.new q hq; omega)
    refine ⟨k, rfl, h1, hc2.int h1 fun b5 o5 hb5 => ⟨_, hb5, ⟨A2, feedG g ((fdR (h ++ b)).take k), (fdR (h ++ b)).getD k 0, m + k⟩, by rw [hp2.symm], ⟨hO2.is, ?_, by show m + k ≤ 549755813888; omega⟩, ?_⟩⟩
    · have := ok_feed ((fdR (h ++ b)).take k) hk
      rw [List.length_take, Nat.min_eq_left hk2] at this
      exact this
    · intro A3 w3 hO3
      dsimp only at hO3
      refine ⟨inr_i64 (by omega) (by omega), (A3, k + 1), rfl, ⟨h1, ?_⟩, by dsimp only; omega⟩
      dsimp only
      rw [feed_step g _ h1]
      have e : (fdR (h ++ b)).getD k 0 = (fdR (h ++ b))[k] := by rw [List.getD_eq_getElem?_getD, List.getElem?_eq_getElem h1]; rfl
      rw [e] at hO3
      exact hO2.trans hO3
  · have h1 : k = (fdR (h ++ b)).length := by have := of_decide_eq_false h1; omega
    subst h1
    rw [List.take_length] at hO2
    have hfar : ∀ q, q = A.rb ∨ (blk ha' = some q ∧ (fdH (h ++ b)).size ≠ 0) → A.B ≤ q ∧ q < w1.heap.size ∧ ¬ own A q ∧ (ownR A ha h q ∨ w.heap.size ≤ q) := by
      rintro q (hq | ⟨hq, h0⟩)
      · subst hq; exact ⟨hrb.1, Nat.lt_of_lt_of_le hrb.2.1 hfr.size, hrb.2.2, .inl (.inr (.inl rfl))⟩
      · have h2 := hnew q hq
        exact ⟨Nat.le_trans hG.bw h2, hrd.lt hq h0, fun hh => by have := hG.lt q hh; omega, .inr h2⟩
    have hB2 : A2.B = A.B := hO2.b
    have hrb2 : A2.rb = A.rb := hO2.rb
    refine ⟨(A2, ha', hc'), rfl, ⟨hO2.is, ⟨?_, held_le _, ?_⟩, hp2, hB2, hrb2, ?_, ?_⟩⟩
    · rw [hrb2]
      exact hrd.fr hO2.st.fr hrb.2.2 (fun q hq h0 => (hfar q (.inr ⟨hq, h0⟩)).2.2.1)
    · intro q hq
      rw [hrb2] at hq
      obtain ⟨f1, f2, f3, -⟩ := hfar q hq
      refine ⟨by rw [hB2]; exact f1, Nat.lt_of_lt_of_le f2 hO2.st.fr.size, fun hh => ?_⟩
      rcases (hO2.st.dom q hh).2 with h5 | h5
      · exact f3 h5
      · omega
    · refine (hfr.mono (T := ownR A ha h) (fun q _ hq => .inr (.inl hq))).trans hO2.st.fr (fun q _ hq => .inl hq)
    · rintro q (hq | hq)
      · have h5 := hO2.st.dom q hq
        refine ⟨h5.1, h5.2.elim (fun h6 => .inl (.inl h6)) (fun h6 => .inr (Nat.le_trans hfr.size h6))⟩
      · rw [hrb2] at hq
        obtain ⟨f1, f2, f3, f4⟩ := hfar q hq
        exact ⟨Nat.lt_of_lt_of_le f2 hO2.st.fr.size, f4⟩
end Go.Proofs.YtjdohhididpomaaDoor
end

section
namespace Go.Proofs.YtjdohhididpomaaDoor
open Go Go.RowKit Vc Ut Tb Cl
theorem made_put {w0 w w1 : World} {e t : TypeId} {s n c b k : Nat} {a : Option Addr} {vs : List Value} {cs : Array Value} {v : Value} (h : Made w0 w e s a n vs c) (hb : w.heap[b]? = some (.cells cs t)) (ht : t ≠ e) (hB : w0.heap.size ≤ b) (hs : Stored w ⟨b, k, none⟩ v w1) : Made w0 w1 e s a n vs c :=
  ⟨h.row.keep fun q hq => hs.other (by show q ≠ b; rintro rfl; exact row_type h.row hb ht hq), h.new, Ext.stored h.ext hs hB⟩
theorem box5 {w : World} {b : Nat} {v0 v1 v2 v3 v4 : Value} {t : TypeId} (h : w.heap[b]? = some (.cells #[v0, v1, v2, v3, v4] t)) {k : Nat} (hk : k < 5) : (∃ old, w.cell? ⟨b, k, none⟩ = some old) ∧ w.frozen? ⟨b, k, none⟩ = false :=
  ⟨⟨_, (cell_of_heap h k).trans (Array.getElem?_eq_getElem (by simpa using hk))⟩, frozen_of_heap h _⟩
set_option maxRecDepth 2000 in
theorem gridN_ok : sGridN.Ok Tryd.prog 13 := by
  refine gridN_vc trivial ?_
  intro _ w _ b w1 hn
  have h0 := hn.heap
  have z := hn.size
  refine ⟨rfl, (box5 h0 (k := 0) (by decide)).1, (box5 h0 (k := 0) (by decide)).2, fun w2 s2 => ?_⟩
  have h2 := s2.heap h0
  refine ⟨rfl, (box5 h2 (k := 1) (by decide)).1, (box5 h2 (k := 1) (by decide)).2, fun w3 s3 => ?_⟩
  have h3 := s3.heap h2
  refine ⟨rfl, (box5 h3 (k := 2) (by decide)).1, (box5 h3 (k := 2) (by decide)).2, fun w4 s4 => ?_⟩
  have h4 := s4.heap h3
  refine ⟨rfl, (box5 h4 (k := 3) (by decide)).1, (box5 h4 (k := 3) (by decide)).2, fun w5 s5 => ?_⟩
  have h5 := s5.heap h4
  refine ⟨rfl, (box5 h5 (k := 4) (by decide)).1, (box5 h5 (k := 4) (by decide)).2, fun w6 s6 => ?_⟩
  have h6 := s6.heap h5
  have hb : w.heap.size ≤ b := by omega
  refine ⟨0, (cell_of_heap h6 0).trans rfl, 0, (cell_of_heap h6 1).trans rfl, none, 0, 0, (cell_of_heap h6 2).trans rfl, 0, (cell_of_heap h6 3).trans rfl, 0, (cell_of_heap h6 4).trans rfl, (), rfl, ?_⟩
  exact Ext.stored (Ext.stored (Ext.stored (Ext.stored (Ext.stored hn.ext s2 hb) s3 hb) s4 hb) s5 hb) s6 hb
set_option maxRecDepth 4000 in
theorem gridG_ok : sGridG.Ok Tryd.prog 13 := by
  refine gridG_vc trivial ?_
  rintro ⟨A, g⟩ w ⟨hG, hF⟩ b w1 hn
  dsimp only at hG hF ⊢
  have z1 := hn.size
  have hb : b = w.heap.size := z1.1
  have hG1 := hG.ext hn.ext
  have hw := hF.w; have hh := hF.h; have hlen := hF.len; have hx := hF.x
  have hwh : g.w * g.h ≤ 1048576 := Nat.le_trans (Nat.mul_le_mul hw hh) (by decide)
  have fin : ∀ {W : World} {b1 : Nat} {a' : Option Addr} {c' : Nat}, W.heap[b1]? = some (.cells #[.int .i64 0, .int .i64 0, .slice none 0 0, .int .i64 0, .int .i64 0] 27) → W.heap[b]? = some (.cells #[.int .i64 0, .int .i64 0, .slice none 0 0, .int .i64 0, .int .i64 0] 27) →
      b < b1 → Made w W 46 6 a' g.cs.length (flat g.cs) c' →
      true = true ∧ (∃ old, W.cell? ⟨b1, 0, none⟩ = some old) ∧ W.frozen? ⟨b1, 0, none⟩ = false ∧ ∀ w13, Stored W ⟨b1, 0, none⟩ (.int .i64 g.w) w13 →
      true = true ∧ (∃ old, w13.cell? ⟨b1, 1, none⟩ = some old) ∧ w13.frozen? ⟨b1, 1, none⟩ = false ∧ ∀ w14, Stored w13 ⟨b1, 1, none⟩ (.int .i64 g.h) w14 →
      true = true ∧ (∃ old, w14.cell? ⟨b1, 2, none⟩ = some old) ∧ w14.frozen? ⟨b1, 2, none⟩ = false ∧ ∀ w15, Stored w14 ⟨b1, 2, none⟩ (.slice a' (0 + g.cs.length) c') w15 →
      true = true ∧ (∃ old, w15.cell? ⟨b1, 3, none⟩ = some old) ∧ w15.frozen? ⟨b1, 3, none⟩ = false ∧ ∀ w16, Stored w15 ⟨b1, 3, none⟩ (.int .i64 (-1)) w16 →
      true = true ∧ (∃ old, w16.cell? ⟨b1, 4, none⟩ = some old) ∧ w16.frozen? ⟨b1, 4, none⟩ = false ∧ ∀ w17, Stored w16 ⟨b1, 4, none⟩ (.int .i64 (-1)) w17 →
      ∃ c1 : GdX, Value.pointer (some ⟨b1, 0, none⟩) = Value.pointer (some ⟨c1.b, 0, none⟩) ∧ gdI g w c1 w17 (.pointer (some ⟨b, 0, none⟩)) ∧ c1.x = -1 ∧ c1.y = -1 := by
    intro W b1 a' c' h1 hb0 hlt hm
    have hB : w.heap.size ≤ b1 := by omega
    refine ⟨rfl, (box5 h1 (k := 0) (by decide)).1, (box5 h1 (k := 0) (by decide)).2, fun w2 s2 => ?_⟩
    have h2 := s2.heap h1
    have m2 := made_put hm h1 (by decide) hB s2
    refine ⟨rfl, (box5 h2 (k := 1) (by decide)).1, (box5 h2 (k := 1) (by decide)).2, fun w3 s3 => ?_⟩
    have h3 := s3.heap h2
    have m3 := made_put m2 h2 (by decide) hB s3
    refine ⟨rfl, (box5 h3 (k := 2) (by decide)).1, (box5 h3 (k := 2) (by decide)).2, fun w4 s4 => ?_⟩
    have h4 := s4.heap h3
    have m4 := made_put m3 h3 (by decide) hB s4
    refine ⟨rfl, (box5 h4 (k := 3) (by decide)).1, (box5 h4 (k := 3) (by decide)).2, fun w5 s5 => ?_⟩
    have h5 := s5.heap h4
    have m5 := made_put m4 h4 (by decide) hB s5
    refine ⟨rfl, (box5 h5 (k := 4) (by decide)).1, (box5 h5 (k := 4) (by decide)).2, fun w6 s6 => ?_⟩
    have h6 := s6.heap h5
    have m6 := made_put m5 h5 (by decide) hB s6
    have hne : b ≠ b1 := by omega
    refine ⟨⟨b1, a', c', -1, -1⟩, rfl, ⟨by rw [hb], ?_, ?_, by dsimp only; omega, m6⟩, rfl, rfl⟩
    · rw [← hb]
      exact (s6.other hne).trans ((s5.other hne).trans ((s4.other hne).trans ((s3.other hne).trans ((s2.other hne).trans hb0))))
    · rw [Nat.zero_add] at h6
      exact h6
  refine ⟨fun w2 hd => ?_, ?_⟩
  · have x2 := Ext.trans hn.ext hd.ext
    have hG2 := hG.ext x2
    refine ⟨g.w, (cell_of_heap hG1.box 0).trans rfl, g.h, (cell_of_heap hG1.box 1).trans rfl, A.ca, g.cs.length, A.cc, (cell_of_heap hG1.box 3).trans rfl, ?_, fun b1 w3 hn3 => ⟨hn3.ext, ?_⟩⟩
    · obtain ⟨a', c', w3, hrun, hko, hm3m, -⟩ := (Made.nil w2 46 6).pushS (P := Tryd.prog) (ty := 25) elemCe (by decide) (sa := A.ca) (cx := A.cc) (m := g.cs.length) (news := flat g.cs) (flc_len _) hG2.row.cells (flc_one _) (by unfold maxLen; omega) (.inr (by omega))
      rw [Nat.zero_add, List.nil_append] at hm3m
      have hm3 := hm3m.earlier x2
      have hx3 : Ext w2 w3 := hm3m.ext
      refine ⟨a', c', w3, hrun, hko, hx3, fun b1 w4 hn4 => ⟨hn4.ext, ?_⟩⟩
      have z4 := hn4.size; have z3 := hx3.size; have z2 := hd.ext.size
      exact fin hn4.heap (Ext.heap hn4.ext (Ext.heap hx3 (Ext.heap hd.ext hn.heap))) (by omega) (hm3.later hn4.ext)
    · have x3 := Ext.trans x2 hn3.ext
      have hG3 := hG.ext x3
      obtain ⟨a', c', w4, hrun, hko, hm4m, -⟩ := (Made.nil w3 46 6).pushS (P := Tryd.prog) (ty := 25) elemCe (by decide) (sa := A.ca) (cx := A.cc) (m := g.cs.length) (news := flat g.cs) (flc_len _) hG3.row.cells (flc_one _) (by unfold maxLen; omega) (.inr (by omega))
      rw [Nat.zero_add, List.nil_append] at hm4m
      have hm4 := hm4m.earlier x3
      have hx4 : Ext w3 w4 := hm4m.ext
      have z3 := hn3.size; have z2 := hd.ext.size
      exact ⟨a', c', w4, hrun, hko, hx4, fin (Ext.heap hx4 hn3.heap) (Ext.heap hx4 (Ext.heap hn3.ext (Ext.heap hd.ext hn.heap))) (by omega) hm4⟩
  · rintro _ ⟨b1, a', c', xx, yy⟩ w2 ⟨hI, hxx, hyy⟩
    dsimp only at hxx hyy
    subst hxx hyy
    obtain ⟨-, hres, hout, hne, hm⟩ := hI
    dsimp only at hres hout hne hm ⊢
    have hG2 := hG.ext hm.ext
    refine ⟨⟨g.hid, (cell_of_heap hG2.box 6).trans rfl, bcase_mk (fun h1 => ⟨_, _, _, (cell_of_heap hG2.box 3).trans rfl, bcase_mk (fun h2 w3 hd => ?_) (fun h2 => ⟨⟨b1, a', c', -1, -1⟩, rfl, ⟨by rw [hb], hres, hout, hne, hm⟩, ?_, ?_⟩)⟩) (fun h1 => ⟨⟨b1, a', c', -1, -1⟩, rfl, ⟨by rw [hb], hres, hout, hne, hm⟩, ?_, ?_⟩)⟩, ?_⟩
    · have h1 : g.hid = false := by simpa using h1
      have h2 : g.cs ≠ [] := by
        have := of_decide_eq_true h2
        intro hh
        rw [hh] at this
        simp at this
      have hG3 := hG2.ext hd.ext
      have hout3 := Ext.heap hd.ext hout
      have hnp : ¬ ptN (.pointer (some ⟨b1, 0, none⟩)) A.p := fun hh => by
        have hh : A.p = b1 := hh
        have := hG.lt A.p (.inl rfl)
        omega
      refine ⟨hnp, g.x, (cell_of_heap hG2.box 4).trans rfl, hnp, g.w, (cell_of_heap hG2.box 0).trans rfl, inr_i64 (by omega) (by omega), hnp, g.y, (cell_of_heap hG2.box 5).trans rfl, rfl, (box5 hout3 (k := 3) (by decide)).1, (box5 hout3 (k := 3) (by decide)).2, fun w4 s4 => ?_⟩
      have hB : w.heap.size ≤ b1 := by omega
      have h4 := s4.heap hout3
      have m3 := hm.later hd.ext
      have m4 := made_put m3 hout3 (by decide) hB s4
      refine ⟨(Fr.stored s4).mono (fun q _ hq => hq), rfl, (box5 h4 (k := 4) (by decide)).1, (box5 h4 (k := 4) (by decide)).2, fun w5 s5 => ?_⟩
      have h5 := s5.heap h4
      have m5 := made_put m4 h4 (by decide) hB s5
      have hne1 : w.heap.size ≠ b1 := by omega
      refine ⟨⟨b1, a', c', min (g.x : Int) ((g.w : Int) - 1), g.y⟩, rfl, ⟨by rw [hb], ?_, ?_, hne, m5⟩, ?_, ?_⟩
      · exact (s5.other hne1).trans ((s4.other hne1).trans (Ext.heap hd.ext hres))
      · have e : (if (g.w : Int) - 1 < (g.x : Int) then (g.w : Int) - 1 else (g.x : Int)) = min (g.x : Int) ((g.w : Int) - 1) := by split <;> omega
        rw [e] at h5
        exact h5
      · rw [if_pos ⟨h1, h2⟩]
      · rw [if_pos ⟨h1, h2⟩]
    · have h2 : g.cs = [] := by
        have := of_decide_eq_false h2
        exact List.eq_nil_of_length_eq_zero (by omega)
      rw [if_neg (fun hh => hh.2 h2)]
    · have h2 : g.cs = [] := by
        have := of_decide_eq_false h2
        exact List.eq_nil_of_length_eq_zero (by omega)
      rw [if_neg (fun hh => hh.2 h2)]
    · have h1 : g.hid = true := by simpa using h1
      rw [if_neg (fun hh => by rw [h1] at hh; cases hh.1)]
    · have h1 : g.hid = true := by simpa using h1
      rw [if_neg (fun hh => by rw [h1] at hh; cases hh.1)]
    rintro _ ⟨b2, a2, c2, xx, yy⟩ w3 ⟨he, ⟨-, hres3, hout3, hne3, hm3⟩, hxx, hyy⟩
    dsimp only at he hres3 hout3 hne3 hm3 hxx hyy
    have e2 : b1 = b2 := by injection he with he; injection he with he; injection he
    subst e2
    rw [hb.symm] at hres3
    have hB : w.heap.size ≤ b := by omega
    refine ⟨_, (cell_of_heap hout3 0).trans rfl, _, (cell_of_heap hout3 1).trans rfl, _, _, _, (cell_of_heap hout3 2).trans rfl, _, (cell_of_heap hout3 3).trans rfl, _, (cell_of_heap hout3 4).trans rfl, ?_⟩
    refine ⟨rfl, (box5 hres3 (k := 0) (by decide)).1, (box5 hres3 (k := 0) (by decide)).2, fun w4 s4 => ?_⟩
    have h4 := s4.heap hres3
    have m4 := made_put hm3 hres3 (by decide) hB s4
    refine ⟨rfl, (box5 h4 (k := 1) (by decide)).1, (box5 h4 (k := 1) (by decide)).2, fun w5 s5 => ?_⟩
    have h5 := s5.heap h4
    have m5 := made_put m4 h4 (by decide) hB s5
    refine ⟨rfl, (box5 h5 (k := 2) (by decide)).1, (box5 h5 (k := 2) (by decide)).2, fun w6 s6 => ?_⟩
    have h6 := s6.heap h5
    have m6 := made_put m5 h5 (by decide) hB s6
    refine ⟨rfl, (box5 h6 (k := 3) (by decide)).1, (box5 h6 (k := 3) (by decide)).2, fun w7 s7 => ?_⟩
    have h7 := s7.heap h6
    have m7 := made_put m6 h6 (by decide) hB s7
    refine ⟨rfl, (box5 h7 (k := 4) (by decide)).1, (box5 h7 (k := 4) (by decide)).2, fun w8 s8 => ?_⟩
    have h8 := s8.heap h7
    have m8 := made_put m7 h7 (by decide) hB s8
    refine ⟨_, (cell_of_heap h8 0).trans rfl, _, (cell_of_heap h8 1).trans rfl, _, _, _, (cell_of_heap h8 2).trans rfl, _, (cell_of_heap h8 3).trans rfl, _, (cell_of_heap h8 4).trans rfl, ((a2, c2), gridG g), ?_, rfl, m8⟩
    rw [hxx, hyy]
    rfl
end Go.Proofs.YtjdohhididpomaaDoor
end

section
namespace Go.Proofs.YtjdohhididpomaaDoor
open Go Go.RowKit Vc Ut Tb Cl
structure GHf where
  a1 : Option Addr
  c1 : Nat
  g1 : Gr
  a2 : Option Addr
  c2 : Nat
  g2 : Gr
  i : Nat
def sHalf : CallSpec where
  G := GHf
  args := fun g => #[grA g.a1 g.c1 g.g1, grA g.a2 g.c2 g.g2, .int .i64 g.i]
  pre := fun g w => grIn w g.a1 g.g1.cs ∧ grIn w g.a2 g.g2.cs ∧ g.g1.cs.length = g.g2.cs.length ∧ g.i < g.g2.cs.length
  X := Bool
  res := fun x => .bool x
  post := fun g w x w' => x = halfB g.g1.cs g.g2.cs g.i ∧ Ext w w'
def spHalf : List (Nat × CallSpec) := [(22, sAlikeW)]
structure GDf where
  a1 : Option Addr
  c1 : Nat
  g1 : Gr
  a2 : Option Addr
  c2 : Nat
  g2 : Gr
  wd : Bool
def stOk (cs : List Ce) : Prop := ∀ c ∈ cs, c.st < 65536
def bulkG (a b : Gr) : Prop := bulkC a.cs ≤ 1048576 ∧ bulkC b.cs ≤ 1048576 ∧ stOk b.cs
def sDiff : CallSpec where
  G := GDf
  args := fun g => #[grA g.a1 g.c1 g.g1, grA g.a2 g.c2 g.g2, .bool g.wd]
  pre := fun g w => UDB w.heap.size w ∧ P10 w.heap.size w ∧ grIn w g.a1 g.g1.cs ∧ grIn w g.a2 g.g2.cs ∧ bulkG g.g1 g.g2
  X := Option Addr × Nat × Nat
  res := fun x => .slice x.1 x.2.1 x.2.2
  post := fun g w x w' => Made w w' 5 1 x.1 x.2.1 (bytesV ((diffB g.g1 g.g2 g.wd).getD ⟨#[]⟩)) x.2.2
def spDiff : List (Nat × CallSpec) := [(9, sRightW), (14, sSameW), (20, sWear), (21, sSay), (22, sAlikeW), (23, sHalf), (24, sTell), (25, sMove)]
def boxG (w : World) (b : Nat) (ad : Option Addr) (c : Nat) (g : Gr) : Prop := w.heap[b]? = some (.cells #[.int .i64 g.w, .int .i64 g.h, .slice ad g.cs.length c, .int .i64 g.x, .int .i64 g.y] 27)
def dfI (g : GDf) (w00 : World) (x : TeP × Nat × Nat) (t : Te) (w : World) : Prop :=
  TeIn w x.1 t ∧ x.1.B = w00.heap.size ∧ Below w00.heap.size w00 w ∧ boxG w x.2.1 g.a1 g.c1 g.g1 ∧ boxG w x.2.2 g.a2 g.c2 g.g2 ∧ w00.heap.size ≤ x.2.1 ∧ w00.heap.size ≤ x.2.2
def annDiff (g : GDf) (w00 : World) : Ann where
  sp := spDiff
  cuts := [(1, 1, { X := Unit, sh := fun _ _ => [(7, .bool (rightB g.g1 g.wd))], inv := fun _ w0 _ w => Ext w0 w }), (2, 3, { X := Unit, sh := fun _ _ => [], inv := fun _ w0 _ w => Ext w0 w ∧ rightB g.g2 g.wd = true ∧ (rightB g.g1 g.wd && sameB g.g1 g.g2) = false }),
    (6, 6, { X := Unit, sh := fun _ _ => [(7, .bool (knownG g.g1 g.g2 g.wd))], inv := fun _ w0 _ w => w = w0 ∧ rightB g.g2 g.wd = true }),
    (7, 8, { X := TeP × Nat × Nat, sh := fun _ x => [(3, .pointer (some ⟨x.2.1, 0, none⟩)), (4, .pointer (some ⟨x.2.2, 0, none⟩)), (8, .pointer (some ⟨x.1.q, 0, none⟩))], inv := fun _ _ x w => dfI g w00 x (begT (knownG g.g1 g.g2 g.wd) g.g2 g.wd) w ∧ rightB g.g2 g.wd = true })]
  loops := [(10, {
    X := Nat × TeP × Nat × Nat
    sh := fun _ x => [(56, .int .i64 x.1), (3, .pointer (some ⟨x.2.2.1, 0, none⟩)), (4, .pointer (some ⟨x.2.2.2, 0, none⟩)), (8, .pointer (some ⟨x.2.1.q, 0, none⟩))]
    inv := fun _ _ x w => x.1 ≤ g.g2.cs.length ∧ dfI g w00 x.2 (loopT (knownG g.g1 g.g2 g.wd) g.g1.cs g.g2.cs (begT (knownG g.g1 g.g2 g.wd) g.g2 g.wd) x.1) w
    mu := fun _ _ x _ => g.g2.cs.length - x.1 })]
end Go.Proofs.YtjdohhididpomaaDoor
end

section
set_option linter.unusedVariables false
namespace Go.Proofs.YtjdohhididpomaaDoor
open Go Go.RowKit Vc Ut Tb Cl
set_option maxRecDepth 1000000 in
theorem half_vc (hsp : SpecsOk Tryd.prog spHalf) (h : ∀ (g : GHf) (w : World), grIn w g.a1 g.g1.cs ∧ grIn w g.a2 g.g2.cs ∧ g.g1.cs.length = g.g2.cs.length ∧ g.i < g.g2.cs.length → ∀ (b : Nat) (w1 : World), New w (Obj.cells #[Value.int .i64 g.g1.w, Value.int .i64 g.g1.h, Value.slice g.a1 g.g1.cs.length g.c1, Value.int .i64 g.g1.x, Value.int .i64 g.g1.y] (27 : Nat)) b w1 → ∀ (b1 : Nat) (w11 : World), New w1 (Obj.cells #[Value.int .i64 g.g2.w, Value.int .i64 g.g2.h, Value.slice g.a2 g.g2.cs.length g.c2, Value.int .i64 g.g2.x, Value.int .i64 g.g2.y] (27 : Nat)) b1 w11 → ∀ (w12 : World), Drew w11 w12 → InR .i64 ((↑g.i : Int) + (1 : Int)) ∧ ∃ (a4 : Option Addr) (n : Nat) (c : Nat), w11.cell? ⟨b1, 2, none⟩ = some (Value.slice a4 n c) ∧ bcase (decide ((↑g.i : Int) + (1 : Int) < (↑n : Int))) (∃ (a5 : Option Addr) (n1 : Nat) (c1 : Nat), w11.cell? ⟨b1, 2, none⟩ = some (Value.slice a5 n1 c1) ∧ InR .i64 ((↑g.i : Int) + (1 : Int)) ∧ ∃ (k : Nat), (↑g.i : Int) + (1 : Int) = (↑k : Int) ∧ k < n1 ∧ ptrE a5 fun (b2 o : Nat) => ∃ (n2 : Int), w11.cell? ⟨b2, o + k * 6 + 1, none⟩ = some (Value.int .i8 n2) ∧ bcase (n2 == (1 : Int)) (∃ (a6 : Option Addr) (n3 : Nat) (c2 : Nat), w11.cell? ⟨b, 2, none⟩ = some (Value.slice a6 n3 c2) ∧ InR .i64 ((↑g.i : Int) + (1 : Int)) ∧ ∃ (k1 : Nat), (↑g.i : Int) + (1 : Int) = (↑k1 : Int) ∧ k1 < n3 ∧ ptrE a6 fun (b3 o1 : Nat) => ∃ (s : ByteArray), w11.cell? ⟨b3, o1 + k1 * 6, none⟩ = some (Value.string s) ∧ ∃ (n4 : Int), w11.cell? ⟨b3, o1 + k1 * 6 + 1, none⟩ = some (Value.int .i8 n4) ∧ ∃ (n5 : Int), w11.cell? ⟨b3, o1 + k1 * 6 + 2, none⟩ = some (Value.int .i64 n5) ∧ ∃ (n6 : Int), w11.cell? ⟨b3, o1 + k1 * 6 + 3, none⟩ = some (Value.int .i64 n6) ∧ ∃ (b4 : Bool), w11.cell? ⟨b3, o1 + k1 * 6 + 4, none⟩ = some (Value.bool b4) ∧ ∃ (n7 : Int), w11.cell? ⟨b3, o1 + k1 * 6 + 5, none⟩ = some (Value.int .u16 n7) ∧ ∃ (a7 : Option Addr) (n8 : Nat) (c3 : Nat), w11.cell? ⟨b1, 2, none⟩ = some (Value.slice a7 n8 c3) ∧ InR .i64 ((↑g.i : Int) + (1 : Int)) ∧ ∃ (k2 : Nat), (↑g.i : Int) + (1 : Int) = (↑k2 : Int) ∧ k2 < n8 ∧ ptrE a7 fun (b5 o2 : Nat) => ∃ (s1 : ByteArray), w11.cell? ⟨b5, o2 + k2 * 6, none⟩ = some (Value.string s1) ∧ ∃ (n9 : Int), w11.cell? ⟨b5, o2 + k2 * 6 + 1, none⟩ = some (Value.int .i8 n9) ∧ ∃ (n10 : Int), w11.cell? ⟨b5, o2 + k2 * 6 + 2, none⟩ = some (Value.int .i64 n10) ∧ ∃ (n11 : Int), w11.cell? ⟨b5, o2 + k2 * 6 + 3, none⟩ = some (Value.int .i64 n11) ∧ ∃ (b6 : Bool), w11.cell? ⟨b5, o2 + k2 * 6 + 4, none⟩ = some (Value.bool b6) ∧ ∃ (n12 : Int), w11.cell? ⟨b5, o2 + k2 * 6 + 5, none⟩ = some (Value.int .u16 n12) ∧ ∃ (g1 : Ce × Ce), #[Value.agg #[Value.string s, Value.int .i8 n4, Value.int .i64 n5, Value.int .i64 n6, Value.bool b4, Value.int .u16 n7], Value.agg #[Value.string s1, Value.int .i8 n9, Value.int .i64 n10, Value.int .i64 n11, Value.bool b6, Value.int .u16 n12]] = #[Value.agg #[Value.string g1.fst.t, Value.int .i8 g1.fst.p, Value.int .i64 g1.fst.a, Value.int .i64 g1.fst.n, Value.bool g1.fst.r, Value.int .u16 (↑g1.fst.st : Int)], Value.agg
 #[Value.string g1.snd.t, Value.int .i8 g1.snd.p, Value.int .i64 g1.snd.a, Value.int .i64 g1.snd.n, Value.bool g1.snd.r, Value.int .u16 (↑g1.snd.st : Int)]] ∧ True ∧ ∀ (x : Bool) (w' : World), x = alikeB g1.fst g1.snd ∧ Ext w12 w' → ∃ (x1 : Bool), (Value.bool !x) = Value.bool x1 ∧ x1 = halfB g.g1.cs g.g2.cs g.i ∧ Ext w w') (∃ (x : Bool), Value.bool false = Value.bool x ∧ x = halfB g.g1.cs g.g2.cs g.i ∧ Ext w w12)) (∃ (x : Bool), Value.bool false = Value.bool x ∧ x = halfB g.g1.cs g.g2.cs g.i ∧ Ext w w12)) :
    (sHalf).Ok Tryd.prog 23 :=
  ok_of_vc sHalf (annOf spHalf) spHalf (fun _ _ => rfl) (fun _ _ => rfl) hsp Tryd.func23 rfl (n := 3) (fun _ => rfl) (by kernel_rfl) (vcast (by kernel_rfl) h)
set_option maxRecDepth 1000000 in
theorem diff_vc (hsp : SpecsOk Tryd.prog spDiff) (h : ∀ (g : GDf) (w : World), UDB w.heap.size w ∧ P10 w.heap.size w ∧ grIn w g.a1 g.g1.cs ∧ grIn w g.a2 g.g2.cs ∧ bulkG g.g1 g.g2 → ∀ (b : Nat) (w1 : World), New w (Obj.cells #[Value.int .i64 g.g1.w, Value.int .i64 g.g1.h, Value.slice g.a1 g.g1.cs.length g.c1, Value.int .i64 g.g1.x, Value.int .i64 g.g1.y] (27 : Nat)) b w1 → ∀ (b1 : Nat) (w11 : World), New w1 (Obj.cells #[Value.int .i64 g.g2.w, Value.int .i64 g.g2.h, Value.slice g.a2 g.g2.cs.length g.c2, Value.int .i64 g.g2.x, Value.int .i64 g.g2.y] (27 : Nat)) b1 w11 → (∃ (n : Int), w11.cell? ⟨b, 0, none⟩ = some (Value.int .i64 n) ∧ ∃ (n1 : Int), w11.cell? ⟨b, 1, none⟩ = some (Value.int .i64 n1) ∧ ∃ (a3 : Option Addr) (n2 : Nat) (c : Nat), w11.cell? ⟨b, 2, none⟩ = some (Value.slice a3 n2 c) ∧ ∃ (n3 : Int), w11.cell? ⟨b, 3, none⟩ = some (Value.int .i64 n3) ∧ ∃ (n4 : Int), w11.cell? ⟨b, 4, none⟩ = some (Value.int .i64 n4) ∧ ∃ (g1 : GGr), #[Value.agg #[Value.int .i64 n, Value.int .i64 n1, Value.slice a3 n2 c, Value.int .i64 n3, Value.int .i64 n4], Value.bool g.wd] = #[Value.agg #[Value.int .i64 g1.g.w, Value.int .i64 g1.g.h, Value.slice g1.ad g1.g.cs.length g1.c, Value.int .i64 g1.g.x, Value.int .i64 g1.g.y], Value.bool g1.wd] ∧ (UD w11 ∧ grIn w11 g1.ad g1.g.cs) ∧ ∀ (x : Bool) (w' : World), x = rightB g1.g g1.wd ∧ Ext w11 w' → ∃ (c1 : Unit), Value.bool x = Value.bool (rightB g.g1 g.wd) ∧ Ext w11 w') ∧ ∀ (u : Nat → Value) (c : Unit) (w' : World), Ext w11 w' → (∃ (n : Int), w'.cell? ⟨b1, 0, none⟩ = some (Value.int .i64 n) ∧ ∃ (n1 : Int), w'.cell? ⟨b1, 1, none⟩ = some (Value.int .i64 n1) ∧ ∃ (a4 : Option Addr) (n2 : Nat) (c1 : Nat), w'.cell? ⟨b1, 2, none⟩ = some (Value.slice a4 n2 c1) ∧ ∃ (n3 : Int), w'.cell? ⟨b1, 3, none⟩ = some (Value.int .i64 n3) ∧ ∃ (n4 : Int), w'.cell? ⟨b1, 4, none⟩ = some (Value.int .i64 n4) ∧ ∃ (g1 : GGr), #[Value.agg #[Value.int .i64 n, Value.int .i64 n1, Value.slice a4 n2 c1, Value.int .i64 n3, Value.int .i64 n4], Value.bool g.wd] = #[Value.agg #[Value.int .i64 g1.g.w, Value.int .i64 g1.g.h, Value.slice g1.ad g1.g.cs.length g1.c, Value.int .i64 g1.g.x, Value.int .i64 g1.g.y], Value.bool g1.wd] ∧ (UD w' ∧ grIn w' g1.ad g1.g.cs) ∧ ∀ (x : Bool) (w'1 : World), x = rightB g1.g g1.wd ∧ Ext w' w'1 → bcase (!x) (∃ (x1 : Option Addr × Nat × Nat), Value.slice none (0 : Nat) (0 : Nat) = Value.slice x1.fst x1.snd.fst x1.snd.snd ∧ Made w w'1 (5 : TypeId) (1 : Nat) x1.fst x1.snd.fst (bytesV ((diffB g.g1 g.g2 g.wd).getD (ByteArray.mk #[]))) x1.snd.snd) (bcase (rightB g.g1 g.wd) (∃ (n5 : Int), w'1.cell? ⟨b, 0, none⟩ = some (Value.int .i64 n5) ∧ ∃ (n6 : Int), w'1.cell? ⟨b, 1, none⟩ = some (Value.int .i64 n6) ∧ ∃ (a6 : Option Addr) (n7 : Nat) (c2 : Nat), w'1.cell? ⟨b, 2, none⟩ = some (Value.slice a6 n7 c2) ∧ ∃ (n8 : Int), w'1.cell? ⟨b, 3, none⟩ = some (Value.int .i64 n8) ∧ ∃ (n9 : Int), w'1.cell? ⟨b, 4, none⟩ = some (Value.int .i64 n9) ∧ ∃ (n10 : Int), w'1.cell? ⟨b1, 0, none⟩ = some (Value.int .i64 n10) ∧ ∃ (n11 : Int),
 w'1.cell? ⟨b1, 1, none⟩ = some (Value.int .i64 n11) ∧ ∃ (a7 : Option Addr) (n12 : Nat) (c3 : Nat), w'1.cell? ⟨b1, 2, none⟩ = some (Value.slice a7 n12 c3) ∧ ∃ (n13 : Int), w'1.cell? ⟨b1, 3, none⟩ = some (Value.int .i64 n13) ∧ ∃ (n14 : Int), w'1.cell? ⟨b1, 4, none⟩ = some (Value.int .i64 n14) ∧ ∃ (g2 : GGg), #[Value.agg #[Value.int .i64 n5, Value.int .i64 n6, Value.slice a6 n7 c2, Value.int .i64 n8, Value.int .i64 n9], Value.agg #[Value.int .i64 n10, Value.int .i64 n11, Value.slice a7 n12 c3, Value.int .i64 n13, Value.int .i64 n14]] = #[Value.agg #[Value.int .i64 g2.g1.w, Value.int .i64 g2.g1.h, Value.slice g2.a1 g2.g1.cs.length g2.c1, Value.int .i64 g2.g1.x, Value.int .i64 g2.g1.y], Value.agg #[Value.int .i64 g2.g2.w, Value.int .i64 g2.g2.h, Value.slice g2.a2 g2.g2.cs.length g2.c2, Value.int .i64 g2.g2.x, Value.int .i64 g2.g2.y]] ∧ (grIn w'1 g2.a1 g2.g1.cs ∧ grIn w'1 g2.a2 g2.g2.cs) ∧ ∀ (x1 : Bool) (w'2 : World), x1 = sameB g2.g1 g2.g2 ∧ Ext w'1 w'2 → bcase x1 (∃ (x2 : Option Addr × Nat × Nat), Value.slice none (0 : Nat) (0 : Nat) = Value.slice x2.fst x2.snd.fst x2.snd.snd ∧ Made w w'2 (5 : TypeId) (1 : Nat) x2.fst x2.snd.fst (bytesV ((diffB g.g1 g.g2 g.wd).getD (ByteArray.mk #[]))) x2.snd.snd) (∃ (c4 : Unit), Ext w' w'2 ∧ rightB g.g2 g.wd = true ∧ (rightB g.g1 g.wd && sameB g.g1 g.g2) = false)) (∃ (c2 : Unit), Ext w' w'1 ∧ rightB g.g2 g.wd = true ∧ (rightB g.g1 g.wd && sameB g.g1 g.g2) = false))) ∧ ∀ (u1 : Nat → Value) (c1 : Unit) (w'1 : World), Ext w' w'1 ∧ rightB g.g2 g.wd = true ∧ (rightB g.g1 g.wd && sameB g.g1 g.g2) = false → ∃ (n : Int), w'1.cell? ⟨b1, 0, none⟩ = some (Value.int .i64 n) ∧ ∀ (b2 : Nat) (w12 : World), New w'1 (Obj.cells #[Value.slice none (0 : Nat) (0 : Nat), Value.int .i64 (-1 : Int), Value.string (ByteArray.mk #[]), Value.int .u16 0, Value.int .i64 n, Value.bool g.wd] (53 : Nat)) b2 w12 → ∃ (g1 : GMove), #[Value.pointer (some ⟨b2, 0, none⟩), Value.int .u16 0] = #[Value.pointer (some ⟨g1.p.q, 0, none⟩), Value.int .u16 (↑g1.i : Int)] ∧ (TeIn w12 g1.p g1.t ∧ g1.i < 65536 ∧ g1.t.b.size ≤ 536870912) ∧ ∀ (x : TeP) (w'2 : World), TeOut w12 w'2 g1.p x (wearT g1.t g1.i) → bcase (rightB g.g1 g.wd) (∃ (n1 : Int), w'2.cell? ⟨b, 0, none⟩ = some (Value.int .i64 n1) ∧ ∃ (n2 : Int), w'2.cell? ⟨b1, 0, none⟩ = some (Value.int .i64 n2) ∧ bcase (n1 == n2) (∃ (n3 : Int), w'2.cell? ⟨b, 1, none⟩ = some (Value.int .i64 n3) ∧ ∃ (n4 : Int), w'2.cell? ⟨b1, 1, none⟩ = some (Value.int .i64 n4) ∧ ∃ (c2 : Unit), Value.bool (n3 == n4) = Value.bool (knownG g.g1 g.g2 g.wd) ∧ w'2 = w'2 ∧ rightB g.g2 g.wd = true) (∃ (c2 : Unit), Value.bool false = Value.bool (knownG g.g1 g.g2 g.wd) ∧ w'2 = w'2 ∧ rightB g.g2 g.wd = true)) (∃ (c2 : Unit), Value.bool false = Value.bool (knownG g.g1 g.g2 g.wd) ∧ w'2 = w'2 ∧ rightB g.g2 g.wd = true) ∧ ∀ (u2 : Nat → Value) (c2 : Unit) (w'3 : World), w'3 = w'2 ∧ rightB g.g2 g.wd = true → bcase (!knownG g.g1 g.g2 g.wd) (∀ (b3 : Nat) (w13 : World), New w'3 (Obj.cells #[Value.int .i64 2] (3 : Nat)) b3 w13 → ∃ (g2 : GSay),
 #[Value.pointer (some ⟨b2, 0, none⟩), Value.int .u8 74, Value.slice (some ⟨b3, 0, none⟩) (1 : Nat) (1 : Nat)] = #[Value.pointer (some ⟨g2.p.q, 0, none⟩), Value.int .u8 (↑g2.c.toNat : Int), Value.slice g2.la g2.l.length g2.lc] ∧ (TeIn w13 g2.p g2.t ∧ Row w13 (3 : TypeId) (1 : Nat) g2.la g2.l.length (List.map (Value.int IntKind.i64) g2.l) g2.lc ∧ g2.t.b.size ≤ 536870912 ∧ g2.l.length ≤ 16 ∧ ∀ (n1 : Int), n1 ∈ g2.l → (-9223372036854775808 : Int) ≤ n1 ∧ n1 ≤ (9223372036854775807 : Int)) ∧ ∀ (x1 : TeP) (w'4 : World), TeOut w13 w'4 g2.p x1 (sayT g2.t g2.c g2.l) → ∃ (c3 : TeP × Nat × Nat), Value.pointer (some ⟨b, 0, none⟩) = Value.pointer (some ⟨c3.snd.fst, 0, none⟩) ∧ Value.pointer (some ⟨b1, 0, none⟩) = Value.pointer (some ⟨c3.snd.snd, 0, none⟩) ∧ Value.pointer (some ⟨b2, 0, none⟩) = Value.pointer (some ⟨c3.fst.q, 0, none⟩) ∧ dfI g w c3 (begT (knownG g.g1 g.g2 g.wd) g.g2 g.wd) w'4 ∧ rightB g.g2 g.wd = true) (∃ (c3 : TeP × Nat × Nat), Value.pointer (some ⟨b, 0, none⟩) = Value.pointer (some ⟨c3.snd.fst, 0, none⟩) ∧ Value.pointer (some ⟨b1, 0, none⟩) = Value.pointer (some ⟨c3.snd.snd, 0, none⟩) ∧ Value.pointer (some ⟨b2, 0, none⟩) = Value.pointer (some ⟨c3.fst.q, 0, none⟩) ∧ dfI g w c3 (begT (knownG g.g1 g.g2 g.wd) g.g2 g.wd) w'3 ∧ rightB g.g2 g.wd = true) ∧ ∀ (u3 : Nat → Value) (c3 : TeP × Nat × Nat) (w'4 : World), dfI g w c3 (begT (knownG g.g1 g.g2 g.wd) g.g2 g.wd) w'4 ∧ rightB g.g2 g.wd = true → ∃ (a9 : Option Addr) (n1 : Nat) (c4 : Nat), w'4.cell? ⟨c3.snd.snd, 2, none⟩ = some (Value.slice a9 n1 c4) ∧ (∃ (x1 : Nat × TeP × Nat × Nat), Value.int .i64 0 = Value.int .i64 (↑x1.fst : Int) ∧ Value.pointer (some ⟨c3.snd.fst, 0, none⟩) = Value.pointer (some ⟨x1.snd.snd.fst, 0, none⟩) ∧ Value.pointer (some ⟨c3.snd.snd, 0, none⟩) = Value.pointer (some ⟨x1.snd.snd.snd, 0, none⟩) ∧ Value.pointer (some ⟨c3.fst.q, 0, none⟩) = Value.pointer (some ⟨x1.snd.fst.q, 0, none⟩) ∧ x1.fst ≤ g.g2.cs.length ∧ dfI g w x1.snd (loopT (knownG g.g1 g.g2 g.wd) g.g1.cs g.g2.cs (begT (knownG g.g1 g.g2 g.wd) g.g2 g.wd) x1.fst) w'4) ∧ ∀ (u4 : Nat → Value) (x1 : Nat × TeP × Nat × Nat) (w'5 : World), x1.fst ≤ g.g2.cs.length ∧ dfI g w x1.snd (loopT (knownG g.g1 g.g2 g.wd) g.g1.cs g.g2.cs (begT (knownG g.g1 g.g2 g.wd) g.g2 g.wd) x1.fst) w'5 → bcase (decide ((↑x1.fst : Int) < (↑n1 : Int))) (∃ (k : Nat), (↑x1.fst : Int) = (↑k : Int) ∧ k < n1 ∧ ptrE a9 fun (b3 o : Nat) => ∃ (s : ByteArray), w'5.cell? ⟨b3, o + k * 6, none⟩ = some (Value.string s) ∧ ∃ (n2 : Int), w'5.cell? ⟨b3, o + k * 6 + 1, none⟩ = some (Value.int .i8 n2) ∧ ∃ (n3 : Int), w'5.cell? ⟨b3, o + k * 6 + 2, none⟩ = some (Value.int .i64 n3) ∧ ∃ (n4 : Int), w'5.cell? ⟨b3, o + k * 6 + 3, none⟩ = some (Value.int .i64 n4) ∧ ∃ (b4 : Bool), w'5.cell? ⟨b3, o + k * 6 + 4, none⟩ = some (Value.bool b4) ∧ ∃ (n5 : Int), w'5.cell? ⟨b3, o + k * 6 + 5, none⟩ = some (Value.int .u16 n5) ∧ ∀ (b5 : Nat) (w13 : World), New w'5 (Obj.cells #[Value.string (ByteArray.mk #[]), Value.int .i8 0, Value.int .i64 0,
 Value.int .i64 0, Value.bool false, Value.int .u16 0] (46 : Nat)) b5 w13 → true = true ∧ (∃ (old : Value), w13.cell? ⟨b5, 0, none⟩ = some old) ∧ w13.frozen? ⟨b5, 0, none⟩ = false ∧ ∀ (w14 : World), Stored w13 ⟨b5, 0, none⟩ (Value.string s) w14 → true = true ∧ (∃ (old : Value), w14.cell? ⟨b5, 1, none⟩ = some old) ∧ w14.frozen? ⟨b5, 1, none⟩ = false ∧ ∀ (w15 : World), Stored w14 ⟨b5, 1, none⟩ (Value.int .i8 n2) w15 → true = true ∧ (∃ (old : Value), w15.cell? ⟨b5, 2, none⟩ = some old) ∧ w15.frozen? ⟨b5, 2, none⟩ = false ∧ ∀ (w16 : World), Stored w15 ⟨b5, 2, none⟩ (Value.int .i64 n3) w16 → true = true ∧ (∃ (old : Value), w16.cell? ⟨b5, 3, none⟩ = some old) ∧ w16.frozen? ⟨b5, 3, none⟩ = false ∧ ∀ (w17 : World), Stored w16 ⟨b5, 3, none⟩ (Value.int .i64 n4) w17 → true = true ∧ (∃ (old : Value), w17.cell? ⟨b5, 4, none⟩ = some old) ∧ w17.frozen? ⟨b5, 4, none⟩ = false ∧ ∀ (w18 : World), Stored w17 ⟨b5, 4, none⟩ (Value.bool b4) w18 → true = true ∧ (∃ (old : Value), w18.cell? ⟨b5, 5, none⟩ = some old) ∧ w18.frozen? ⟨b5, 5, none⟩ = false ∧ ∀ (w19 : World), Stored w18 ⟨b5, 5, none⟩ (Value.int .u16 n5) w19 → ∀ (w110 : World), Drew w19 w110 → ∃ (n6 : Int), w19.cell? ⟨b5, 1, none⟩ = some (Value.int .i8 n6) ∧ bcase (n6 == (0 : Int)) (bcase (!knownG g.g1 g.g2 g.wd) (∃ (s1 : ByteArray), w110.cell? ⟨b5, 0, none⟩ = some (Value.string s1) ∧ ∃ (n7 : Int), w110.cell? ⟨b5, 1, none⟩ = some (Value.int .i8 n7) ∧ ∃ (n8 : Int), w110.cell? ⟨b5, 2, none⟩ = some (Value.int .i64 n8) ∧ ∃ (n9 : Int), w110.cell? ⟨b5, 3, none⟩ = some (Value.int .i64 n9) ∧ ∃ (b6 : Bool), w110.cell? ⟨b5, 4, none⟩ = some (Value.bool b6) ∧ ∃ (n10 : Int), w110.cell? ⟨b5, 5, none⟩ = some (Value.int .u16 n10) ∧ ∃ (g2 : GTell), #[Value.pointer (some ⟨x1.snd.fst.q, 0, none⟩), Value.int .i64 (↑x1.fst : Int), Value.agg #[Value.string s1, Value.int .i8 n7, Value.int .i64 n8, Value.int .i64 n9, Value.bool b6, Value.int .u16 n10]] = #[Value.pointer (some ⟨g2.p.q, 0, none⟩), Value.int .i64 (↑g2.i : Int), Value.agg #[Value.string g2.c.t, Value.int .i8 g2.c.p, Value.int .i64 g2.c.a, Value.int .i64 g2.c.n, Value.bool g2.c.r, Value.int .u16 (↑g2.c.st : Int)]] ∧ (TeIn w110 g2.p g2.t ∧ teOk g2.t ∧ g2.i ≤ 1048576 ∧ g2.c.st < 65536 ∧ g2.t.b.size ≤ 536000000 ∧ g2.c.t.size ≤ 16777216 ∧ g2.t.last.size ≤ 16777216) ∧ ∀ (x2 : TeP) (w'6 : World), TeOut w110 w'6 g2.p x2 (tellT g2.t (↑g2.i : Int) g2.c) → InR .i64 ((↑x1.fst : Int) + (1 : Int)) ∧ ∃ (y : Nat × TeP × Nat × Nat), Value.int .i64 ((↑x1.fst : Int) + (1 : Int)) = Value.int .i64 (↑y.fst : Int) ∧ Value.pointer (some ⟨x1.snd.snd.fst, 0, none⟩) = Value.pointer (some ⟨y.snd.snd.fst, 0, none⟩) ∧ Value.pointer (some ⟨x1.snd.snd.snd, 0, none⟩) = Value.pointer (some ⟨y.snd.snd.snd, 0, none⟩) ∧ Value.pointer (some ⟨x1.snd.fst.q, 0, none⟩) = Value.pointer (some ⟨y.snd.fst.q, 0, none⟩) ∧ (y.fst ≤ g.g2.cs.length ∧ dfI g w y.snd (loopT (knownG g.g1 g.g2 g.wd) g.g1.cs g.g2.cs (begT (knownG g.g1 g.g2 g.wd) g.g2 g.wd) y.fst) w'6) ∧ g.g2.cs.length - y.fst < g.g2.cs.length - x1.fst)
 (∃ (a19 : Option Addr) (n7 : Nat) (c5 : Nat), w19.cell? ⟨x1.snd.snd.fst, 2, none⟩ = some (Value.slice a19 n7 c5) ∧ ∃ (k1 : Nat), (↑x1.fst : Int) = (↑k1 : Int) ∧ k1 < n7 ∧ ptrE a19 fun (b6 o1 : Nat) => ∃ (s1 : ByteArray), w19.cell? ⟨b6, o1 + k1 * 6, none⟩ = some (Value.string s1) ∧ ∃ (n8 : Int), w19.cell? ⟨b6, o1 + k1 * 6 + 1, none⟩ = some (Value.int .i8 n8) ∧ ∃ (n9 : Int), w19.cell? ⟨b6, o1 + k1 * 6 + 2, none⟩ = some (Value.int .i64 n9) ∧ ∃ (n10 : Int), w19.cell? ⟨b6, o1 + k1 * 6 + 3, none⟩ = some (Value.int .i64 n10) ∧ ∃ (b7 : Bool), w19.cell? ⟨b6, o1 + k1 * 6 + 4, none⟩ = some (Value.bool b7) ∧ ∃ (n11 : Int), w19.cell? ⟨b6, o1 + k1 * 6 + 5, none⟩ = some (Value.int .u16 n11) ∧ ∃ (s2 : ByteArray), w19.cell? ⟨b5, 0, none⟩ = some (Value.string s2) ∧ ∃ (n12 : Int), w19.cell? ⟨b5, 1, none⟩ = some (Value.int .i8 n12) ∧ ∃ (n13 : Int), w19.cell? ⟨b5, 2, none⟩ = some (Value.int .i64 n13) ∧ ∃ (n14 : Int), w19.cell? ⟨b5, 3, none⟩ = some (Value.int .i64 n14) ∧ ∃ (b8 : Bool), w19.cell? ⟨b5, 4, none⟩ = some (Value.bool b8) ∧ ∃ (n15 : Int), w19.cell? ⟨b5, 5, none⟩ = some (Value.int .u16 n15) ∧ ∃ (g2 : Ce × Ce), #[Value.agg #[Value.string s1, Value.int .i8 n8, Value.int .i64 n9, Value.int .i64 n10, Value.bool b7, Value.int .u16 n11], Value.agg #[Value.string s2, Value.int .i8 n12, Value.int .i64 n13, Value.int .i64 n14, Value.bool b8, Value.int .u16 n15]] = #[Value.agg #[Value.string g2.fst.t, Value.int .i8 g2.fst.p, Value.int .i64 g2.fst.a, Value.int .i64 g2.fst.n, Value.bool g2.fst.r, Value.int .u16 (↑g2.fst.st : Int)], Value.agg #[Value.string g2.snd.t, Value.int .i8 g2.snd.p, Value.int .i64 g2.snd.a, Value.int .i64 g2.snd.n, Value.bool g2.snd.r, Value.int .u16 (↑g2.snd.st : Int)]] ∧ True ∧ ∀ (x2 : Bool) (w'6 : World), x2 = alikeB g2.fst g2.snd ∧ Ext w110 w'6 → bcase (!x2) (∃ (s3 : ByteArray), w'6.cell? ⟨b5, 0, none⟩ = some (Value.string s3) ∧ ∃ (n16 : Int), w'6.cell? ⟨b5, 1, none⟩ = some (Value.int .i8 n16) ∧ ∃ (n17 : Int), w'6.cell? ⟨b5, 2, none⟩ = some (Value.int .i64 n17) ∧ ∃ (n18 : Int), w'6.cell? ⟨b5, 3, none⟩ = some (Value.int .i64 n18) ∧ ∃ (b9 : Bool), w'6.cell? ⟨b5, 4, none⟩ = some (Value.bool b9) ∧ ∃ (n19 : Int), w'6.cell? ⟨b5, 5, none⟩ = some (Value.int .u16 n19) ∧ ∃ (g3 : GTell), #[Value.pointer (some ⟨x1.snd.fst.q, 0, none⟩), Value.int .i64 (↑x1.fst : Int), Value.agg #[Value.string s3, Value.int .i8 n16, Value.int .i64 n17, Value.int .i64 n18, Value.bool b9, Value.int .u16 n19]] = #[Value.pointer (some ⟨g3.p.q, 0, none⟩), Value.int .i64 (↑g3.i : Int), Value.agg #[Value.string g3.c.t, Value.int .i8 g3.c.p, Value.int .i64 g3.c.a, Value.int .i64 g3.c.n, Value.bool g3.c.r, Value.int .u16 (↑g3.c.st : Int)]] ∧ (TeIn w'6 g3.p g3.t ∧ teOk g3.t ∧ g3.i ≤ 1048576 ∧ g3.c.st < 65536 ∧ g3.t.b.size ≤ 536000000 ∧ g3.c.t.size ≤ 16777216 ∧ g3.t.last.size ≤ 16777216) ∧ ∀ (x3 : TeP) (w'7 : World), TeOut w'6 w'7 g3.p x3 (tellT g3.t (↑g3.i : Int) g3.c) → InR .i64 ((↑x1.fst : Int) + (1 : Int)) ∧ ∃ (y : Nat × TeP × Nat × Nat),
 Value.int .i64 ((↑x1.fst : Int) + (1 : Int)) = Value.int .i64 (↑y.fst : Int) ∧ Value.pointer (some ⟨x1.snd.snd.fst, 0, none⟩) = Value.pointer (some ⟨y.snd.snd.fst, 0, none⟩) ∧ Value.pointer (some ⟨x1.snd.snd.snd, 0, none⟩) = Value.pointer (some ⟨y.snd.snd.snd, 0, none⟩) ∧ Value.pointer (some ⟨x1.snd.fst.q, 0, none⟩) = Value.pointer (some ⟨y.snd.fst.q, 0, none⟩) ∧ (y.fst ≤ g.g2.cs.length ∧ dfI g w y.snd (loopT (knownG g.g1 g.g2 g.wd) g.g1.cs g.g2.cs (begT (knownG g.g1 g.g2 g.wd) g.g2 g.wd) y.fst) w'7) ∧ g.g2.cs.length - y.fst < g.g2.cs.length - x1.fst) (∃ (n16 : Int), w'6.cell? ⟨x1.snd.snd.fst, 0, none⟩ = some (Value.int .i64 n16) ∧ ∃ (n17 : Int), w'6.cell? ⟨x1.snd.snd.fst, 1, none⟩ = some (Value.int .i64 n17) ∧ ∃ (a21 : Option Addr) (n18 : Nat) (c6 : Nat), w'6.cell? ⟨x1.snd.snd.fst, 2, none⟩ = some (Value.slice a21 n18 c6) ∧ ∃ (n19 : Int), w'6.cell? ⟨x1.snd.snd.fst, 3, none⟩ = some (Value.int .i64 n19) ∧ ∃ (n20 : Int), w'6.cell? ⟨x1.snd.snd.fst, 4, none⟩ = some (Value.int .i64 n20) ∧ ∃ (n21 : Int), w'6.cell? ⟨x1.snd.snd.snd, 0, none⟩ = some (Value.int .i64 n21) ∧ ∃ (n22 : Int), w'6.cell? ⟨x1.snd.snd.snd, 1, none⟩ = some (Value.int .i64 n22) ∧ ∃ (a22 : Option Addr) (n23 : Nat) (c7 : Nat), w'6.cell? ⟨x1.snd.snd.snd, 2, none⟩ = some (Value.slice a22 n23 c7) ∧ ∃ (n24 : Int), w'6.cell? ⟨x1.snd.snd.snd, 3, none⟩ = some (Value.int .i64 n24) ∧ ∃ (n25 : Int), w'6.cell? ⟨x1.snd.snd.snd, 4, none⟩ = some (Value.int .i64 n25) ∧ ∃ (g3 : GHf), #[Value.agg #[Value.int .i64 n16, Value.int .i64 n17, Value.slice a21 n18 c6, Value.int .i64 n19, Value.int .i64 n20], Value.agg #[Value.int .i64 n21, Value.int .i64 n22, Value.slice a22 n23 c7, Value.int .i64 n24, Value.int .i64 n25], Value.int .i64 (↑x1.fst : Int)] = #[Value.agg #[Value.int .i64 g3.g1.w, Value.int .i64 g3.g1.h, Value.slice g3.a1 g3.g1.cs.length g3.c1, Value.int .i64 g3.g1.x, Value.int .i64 g3.g1.y], Value.agg #[Value.int .i64 g3.g2.w, Value.int .i64 g3.g2.h, Value.slice g3.a2 g3.g2.cs.length g3.c2, Value.int .i64 g3.g2.x, Value.int .i64 g3.g2.y], Value.int .i64 (↑g3.i : Int)] ∧ (grIn w'6 g3.a1 g3.g1.cs ∧ grIn w'6 g3.a2 g3.g2.cs ∧ g3.g1.cs.length = g3.g2.cs.length ∧ g3.i < g3.g2.cs.length) ∧ ∀ (x3 : Bool) (w'7 : World), x3 = halfB g3.g1.cs g3.g2.cs g3.i ∧ Ext w'6 w'7 → bcase x3 (∃ (s3 : ByteArray), w'7.cell? ⟨b5, 0, none⟩ = some (Value.string s3) ∧ ∃ (n26 : Int), w'7.cell? ⟨b5, 1, none⟩ = some (Value.int .i8 n26) ∧ ∃ (n27 : Int), w'7.cell? ⟨b5, 2, none⟩ = some (Value.int .i64 n27) ∧ ∃ (n28 : Int), w'7.cell? ⟨b5, 3, none⟩ = some (Value.int .i64 n28) ∧ ∃ (b9 : Bool), w'7.cell? ⟨b5, 4, none⟩ = some (Value.bool b9) ∧ ∃ (n29 : Int), w'7.cell? ⟨b5, 5, none⟩ = some (Value.int .u16 n29) ∧ ∃ (g4 : GTell), #[Value.pointer (some ⟨x1.snd.fst.q, 0, none⟩), Value.int .i64 (↑x1.fst : Int), Value.agg #[Value.string s3, Value.int .i8 n26, Value.int .i64 n27, Value.int .i64 n28, Value.bool b9, Value.int .u16 n29]] = #[Value.pointer (some ⟨g4.p.q, 0, none⟩), Value.int .i64 (↑g4.i : Int), Value.agg
 #[Value.string g4.c.t, Value.int .i8 g4.c.p, Value.int .i64 g4.c.a, Value.int .i64 g4.c.n, Value.bool g4.c.r, Value.int .u16 (↑g4.c.st : Int)]] ∧ (TeIn w'7 g4.p g4.t ∧ teOk g4.t ∧ g4.i ≤ 1048576 ∧ g4.c.st < 65536 ∧ g4.t.b.size ≤ 536000000 ∧ g4.c.t.size ≤ 16777216 ∧ g4.t.last.size ≤ 16777216) ∧ ∀ (x4 : TeP) (w'8 : World), TeOut w'7 w'8 g4.p x4 (tellT g4.t (↑g4.i : Int) g4.c) → InR .i64 ((↑x1.fst : Int) + (1 : Int)) ∧ ∃ (y : Nat × TeP × Nat × Nat), Value.int .i64 ((↑x1.fst : Int) + (1 : Int)) = Value.int .i64 (↑y.fst : Int) ∧ Value.pointer (some ⟨x1.snd.snd.fst, 0, none⟩) = Value.pointer (some ⟨y.snd.snd.fst, 0, none⟩) ∧ Value.pointer (some ⟨x1.snd.snd.snd, 0, none⟩) = Value.pointer (some ⟨y.snd.snd.snd, 0, none⟩) ∧ Value.pointer (some ⟨x1.snd.fst.q, 0, none⟩) = Value.pointer (some ⟨y.snd.fst.q, 0, none⟩) ∧ (y.fst ≤ g.g2.cs.length ∧ dfI g w y.snd (loopT (knownG g.g1 g.g2 g.wd) g.g1.cs g.g2.cs (begT (knownG g.g1 g.g2 g.wd) g.g2 g.wd) y.fst) w'8) ∧ g.g2.cs.length - y.fst < g.g2.cs.length - x1.fst) (InR .i64 ((↑x1.fst : Int) + (1 : Int)) ∧ ∃ (y : Nat × TeP × Nat × Nat), Value.int .i64 ((↑x1.fst : Int) + (1 : Int)) = Value.int .i64 (↑y.fst : Int) ∧ Value.pointer (some ⟨x1.snd.snd.fst, 0, none⟩) = Value.pointer (some ⟨y.snd.snd.fst, 0, none⟩) ∧ Value.pointer (some ⟨x1.snd.snd.snd, 0, none⟩) = Value.pointer (some ⟨y.snd.snd.snd, 0, none⟩) ∧ Value.pointer (some ⟨x1.snd.fst.q, 0, none⟩) = Value.pointer (some ⟨y.snd.fst.q, 0, none⟩) ∧ (y.fst ≤ g.g2.cs.length ∧ dfI g w y.snd (loopT (knownG g.g1 g.g2 g.wd) g.g1.cs g.g2.cs (begT (knownG g.g1 g.g2 g.wd) g.g2 g.wd) y.fst) w'7) ∧ g.g2.cs.length - y.fst < g.g2.cs.length - x1.fst)))) (InR .i64 ((↑x1.fst : Int) + (1 : Int)) ∧ ∃ (y : Nat × TeP × Nat × Nat), Value.int .i64 ((↑x1.fst : Int) + (1 : Int)) = Value.int .i64 (↑y.fst : Int) ∧ Value.pointer (some ⟨x1.snd.snd.fst, 0, none⟩) = Value.pointer (some ⟨y.snd.snd.fst, 0, none⟩) ∧ Value.pointer (some ⟨x1.snd.snd.snd, 0, none⟩) = Value.pointer (some ⟨y.snd.snd.snd, 0, none⟩) ∧ Value.pointer (some ⟨x1.snd.fst.q, 0, none⟩) = Value.pointer (some ⟨y.snd.fst.q, 0, none⟩) ∧ (y.fst ≤ g.g2.cs.length ∧ dfI g w y.snd (loopT (knownG g.g1 g.g2 g.wd) g.g1.cs g.g2.cs (begT (knownG g.g1 g.g2 g.wd) g.g2 g.wd) y.fst) w110) ∧ g.g2.cs.length - y.fst < g.g2.cs.length - x1.fst)) (∃ (n2 : Int), w'5.cell? ⟨x1.snd.snd.snd, 3, none⟩ = some (Value.int .i64 n2) ∧ bcase (decide (n2 < (0 : Int))) (∃ (a11 : Option Addr) (n3 : Nat) (c5 : Nat), w'5.cell? ⟨x1.snd.fst.q, 0, none⟩ = some (Value.slice a11 n3 c5) ∧ ∃ (a' : Option Addr) (c' : Nat) (w'6 : World), AppRun Tryd.prog #[(30 : Nat), (9 : Nat)] (30 : Nat) (Value.slice a11 n3 c5) (Value.string (ByteArray.mk #[(27 : UInt8), (91 : UInt8), (63 : UInt8), (50 : UInt8), (53 : UInt8), (108 : UInt8)])) w'5 a' (n3 + (ByteArray.mk #[(27 : UInt8), (91 : UInt8), (63 : UInt8), (50 : UInt8), (53 : UInt8), (108 : UInt8)]).size) c' w'6 ∧ KO w'5 w'6 ∧ true = true ∧ (∃ (old : Value), w'6.cell? ⟨x1.snd.fst.q, 0, none⟩ = some old) ∧
 w'6.frozen? ⟨x1.snd.fst.q, 0, none⟩ = false ∧ ∀ (w13 : World), Stored w'6 ⟨x1.snd.fst.q, 0, none⟩ (Value.slice a' (n3 + (ByteArray.mk #[(27 : UInt8), (91 : UInt8), (63 : UInt8), (50 : UInt8), (53 : UInt8), (108 : UInt8)]).size) c') w13 → ∃ (a13 : Option Addr) (n4 : Nat) (c6 : Nat), w13.cell? ⟨x1.snd.fst.q, 0, none⟩ = some (Value.slice a13 n4 c6) ∧ ∃ (x2 : Option Addr × Nat × Nat), Value.slice a13 n4 c6 = Value.slice x2.fst x2.snd.fst x2.snd.snd ∧ Made w w13 (5 : TypeId) (1 : Nat) x2.fst x2.snd.fst (bytesV ((diffB g.g1 g.g2 g.wd).getD (ByteArray.mk #[]))) x2.snd.snd) (∃ (a11 : Option Addr) (n3 : Nat) (c5 : Nat), w'5.cell? ⟨x1.snd.fst.q, 0, none⟩ = some (Value.slice a11 n3 c5) ∧ ∃ (a' : Option Addr) (c' : Nat) (w'6 : World), AppRun Tryd.prog #[(30 : Nat), (9 : Nat)] (30 : Nat) (Value.slice a11 n3 c5) (Value.string (ByteArray.mk #[(27 : UInt8), (91 : UInt8), (63 : UInt8), (50 : UInt8), (53 : UInt8), (104 : UInt8)])) w'5 a' (n3 + (ByteArray.mk #[(27 : UInt8), (91 : UInt8), (63 : UInt8), (50 : UInt8), (53 : UInt8), (104 : UInt8)]).size) c' w'6 ∧ KO w'5 w'6 ∧ true = true ∧ (∃ (old : Value), w'6.cell? ⟨x1.snd.fst.q, 0, none⟩ = some old) ∧ w'6.frozen? ⟨x1.snd.fst.q, 0, none⟩ = false ∧ ∀ (w13 : World), Stored w'6 ⟨x1.snd.fst.q, 0, none⟩ (Value.slice a' (n3 + (ByteArray.mk #[(27 : UInt8), (91 : UInt8), (63 : UInt8), (50 : UInt8), (53 : UInt8), (104 : UInt8)]).size) c') w13 → ∀ (w14 : World), Drew w13 w14 → ∃ (n4 : Int), w13.cell? ⟨x1.snd.snd.snd, 4, none⟩ = some (Value.int .i64 n4) ∧ ∃ (n5 : Int), w13.cell? ⟨x1.snd.fst.q, 4, none⟩ = some (Value.int .i64 n5) ∧ InR .i64 (n4 * n5) ∧ ∃ (n6 : Int), w13.cell? ⟨x1.snd.snd.snd, 3, none⟩ = some (Value.int .i64 n6) ∧ InR .i64 (n4 * n5 + n6) ∧ ∃ (g2 : GMove), #[Value.pointer (some ⟨x1.snd.fst.q, 0, none⟩), Value.int .i64 (n4 * n5 + n6)] = #[Value.pointer (some ⟨g2.p.q, 0, none⟩), Value.int .i64 (↑g2.i : Int)] ∧ (TeIn w14 g2.p g2.t ∧ teOk g2.t ∧ g2.i ≤ 1048576 ∧ g2.t.b.size ≤ 536870912) ∧ ∀ (x2 : TeP) (w'7 : World), TeOut w14 w'7 g2.p x2 (moveT g2.t (↑g2.i : Int)) → ∃ (a15 : Option Addr) (n7 : Nat) (c6 : Nat), w'7.cell? ⟨x1.snd.fst.q, 0, none⟩ = some (Value.slice a15 n7 c6) ∧ ∃ (x3 : Option Addr × Nat × Nat), Value.slice a15 n7 c6 = Value.slice x3.fst x3.snd.fst x3.snd.snd ∧ Made w w'7 (5 : TypeId) (1 : Nat) x3.fst x3.snd.fst (bytesV ((diffB g.g1 g.g2 g.wd).getD (ByteArray.mk #[]))) x3.snd.snd))) :
    (sDiff).Ok Tryd.prog 10 :=
  ok_of_vc sDiff annDiff spDiff (fun _ _ => rfl) (fun _ _ => rfl) hsp Tryd.func10 rfl (n := 3) (fun _ => rfl) (by kernel_rfl) (vcast (by kernel_rfl) h)
end Go.Proofs.YtjdohhididpomaaDoor
end

section
namespace Go.Proofs.YtjdohhididpomaaDoor
open Go Go.RowKit Vc Ut Tb Cl
theorem say_len {c : UInt8} {l : List Int} (h : ∀ n ∈ l, -9223372036854775808 ≤ n ∧ n ≤ 9223372036854775807) : (sayB c l).size ≤ 3 + 22 * l.length := by
  have := nums_len l true h
  unfold sayB
  rw [ByteArray.size_append, ByteArray.size_append]
  show 2 + _ + 1 ≤ _
  omega
theorem div_bd {t : Te} (h : teOk t) {i : Nat} (hi : i ≤ 1048576) : 0 ≤ (i : Int) / t.w ∧ (i : Int) / t.w ≤ 1048576 ∧ 0 ≤ (i : Int) % t.w ∧ (i : Int) % t.w < 1024 := by
  obtain ⟨h0, h1, _⟩ := h
  have hq : (i : Int) / t.w ≤ (i : Int) := Int.ediv_le_self _ (by omega)
  have hq0 : 0 ≤ (i : Int) / t.w := Int.ediv_nonneg (by omega) (by omega)
  have hr0 : 0 ≤ (i : Int) % t.w := Int.emod_nonneg _ (by omega)
  have hr1 : (i : Int) % t.w < t.w := Int.emod_lt_of_pos _ h0
  omega
theorem move_len {t : Te} (h : teOk t) {i : Nat} (hi : i ≤ 1048576) : (moveT t i).b.size ≤ t.b.size + 47 := by
  have hb := div_bd h hi
  have := say_len (c := 72) (l := [(i : Int) / t.w + 1, (i : Int) % t.w + 1]) (by
    intro n hn
    simp only [List.mem_cons, List.not_mem_nil, or_false] at hn
    rcases hn with rfl | rfl <;> omega)
  show (t.b ++ sayB 72 [(i : Int) / t.w + 1, (i : Int) % t.w + 1]).size ≤ _
  rw [ByteArray.size_append]
  simp only [List.length_cons, List.length_nil] at this
  omega
theorem wear_len {t : Te} {st : Nat} (hs : st < 65536) : (wearT t st).b.size ≤ t.b.size + 245 := by
  have hl := wearN_len st
  have := say_len (c := 109) (l := wearN st) (fun n hn => by have := wearN_bd hs n hn; omega)
  show (t.b ++ sayB 109 (wearN st)).size ≤ _
  rw [ByteArray.size_append]
  omega
theorem teOk.te1 {t : Te} (h : teOk t) (i : Int) : teOk (te1 t i) := by unfold Go.Proofs.YtjdohhididpomaaDoor.te1; split <;> exact h
theorem teOk.te2 {t : Te} (h : teOk t) {st : Nat} (hs : st < 65536) : teOk (te2 t st) := by unfold Go.Proofs.YtjdohhididpomaaDoor.te2; split <;> first | exact ⟨h.1, h.2.1, hs⟩ | exact h
theorem teOk.te3 {t : Te} (h : teOk t) (i : Int) (s : ByteArray) : teOk (te3 t i s) := by unfold Go.Proofs.YtjdohhididpomaaDoor.te3; split <;> exact h
theorem te1_len {t : Te} (h : teOk t) {i : Nat} (hi : i ≤ 1048576) : (te1 t i).b.size ≤ t.b.size + 47 := by
  unfold te1; split
  · exact move_len h hi
  · omega
theorem te2_len {t : Te} {st : Nat} (hs : st < 65536) : (te2 t st).b.size ≤ t.b.size + 245 := by
  unfold te2; split
  · exact wear_len hs
  · omega
theorem te3_len {t : Te} (h : teOk t) {i : Nat} (hi : i ≤ 1048576) (s : ByteArray) : (te3 t i s).b.size ≤ t.b.size + 47 := by
  unfold te3; split
  · exact move_len h hi
  · omega
theorem te1_last {t : Te} (i : Int) : (te1 t i).last.size ≤ t.last.size := by unfold te1; split <;> first | exact Nat.zero_le _ | exact Nat.le_refl _
theorem te2_last {t : Te} (st : Nat) : (te2 t st).last.size ≤ t.last.size := by unfold te2; split <;> first | exact Nat.zero_le _ | exact Nat.le_refl _
theorem te1_w (t : Te) (i : Int) : (te1 t i).w = t.w ∧ (te1 t i).wd = t.wd := by unfold te1; split <;> exact ⟨rfl, rfl⟩
theorem te2_w (t : Te) (st : Nat) : (te2 t st).w = t.w ∧ (te2 t st).wd = t.wd := by unfold te2; split <;> exact ⟨rfl, rfl⟩
theorem te3_w (t : Te) (i : Int) (s : ByteArray) : (te3 t i s).w = t.w ∧ (te3 t i s).wd = t.wd := by unfold te3; split <;> exact ⟨rfl, rfl⟩
theorem nxN_le (s : ByteArray) : nxN s ≤ s.size := by
  by_cases h : s.size = 0
  · unfold nxN; rw [if_pos h]; omega
  · have h0 : (0 : Nat) < s.size := by omega
    have := dcN_le (s := s) (i := 0) h0
    have e := (nx_drop (s := s) (n := 0) (by show 0 < _; omega)).2
    rw [show pos s 0 = 0 from rfl, ByteArray.extract_zero_size] at e
    omega
theorem strCells_eq (s : ByteArray) : Lib.strCells s = bytesV s := rfl
theorem box_kp {w w' : World} {p p' : TeP} {t t' : Te} {b : Nat} {cs : Array Value} (hb : w.heap[b]? = some (.cells cs 46)) (ht : TeIn w p t) (h : TeOut w w' p p' t') : w'.heap[b]? = some (.cells cs 46) := by
  refine h.kp.oth b _ hb (fun hh => ?_) (fun c fz hh => by injection hh with _ h2; exact absurd h2 (by decide))
  cases hh
  rw [ht.box] at hb
  injection hb with h2
  injection h2 with _ h3
  exact absurd h3 (by decide)
theorem te_str : Tryd.prog.underlying 9 = some .string := by kernel_rfl
theorem te_appS {w : World} {p : TeP} {t : Te} (h : TeIn w p t) (s : ByteArray) (hsz : t.b.size + s.size ≤ 1073741824) {K : Option Addr → Nat → World → Prop}
    (hK : ∀ a' c' w2, AppRun Tryd.prog #[30, 9] 30 (.slice p.ad t.b.size p.c) (.string s) w a' (t.b.size + s.size) c' w2 → KO w w2 → (∃ old, w2.cell? ⟨p.q, 0, none⟩ = some old) → w2.frozen? ⟨p.q, 0, none⟩ = false →
      (∀ w3, Stored w2 ⟨p.q, 0, none⟩ (.slice a' (t.b.size + s.size) c') w3 → TeOut w w3 p ⟨p.B, p.q, a', c'⟩ (teB t (t.b ++ s))) → K a' c' w2) : ∃ a' c' w2, K a' c' w2 := by
  obtain ⟨a', c', w2, hrun, hko, hrow, hg, hor⟩ := h.row.pushStr (P := Tryd.prog) (ty := 30) elem8 te_str s (by omega)
  have hk : Kp p.B none w w2 := Kp.grown h.row hg h.bw h.bad
  obtain ⟨o1, o2⟩ := hk.old h 0 (by decide)
  rw [strCells_eq, ← bytesV_append] at hrow
  refine ⟨a', c', w2, hK a' c' w2 hrun hko o1 o2 fun w3 hs => te_new h hk (by rw [ByteArray.size_append]) hrow (bad_grown h.bw h.bad hor) hs⟩
set_option maxRecDepth 2000 in
theorem tell_ok : sTell.Ok Tryd.prog 24 := by
  refine tell_vc ⟨textW_ok, move_ok, wear_ok, next_ok, ccount_ok, plainW_ok, trivial⟩ ?_
  rintro ⟨p, t, i, c⟩ w ⟨hT, hok, hi, hst, hsz, hcs, hls⟩ b w1 hn
  dsimp only at hT hok hi hst hsz hcs hls hn ⊢
  have hce := box_ce hn.heap
  have hts := tx_size c
  unfold tellT
  refine hce.load ⟨c, rfl, trivial, ?_⟩
  rintro x w2 ⟨rfl, e12⟩
  have e02 := Ext.trans hn.ext e12
  have hT2 := hT.ext e02
  have hO2 : TeOut w w2 p p t := TeOut.ext hT e02
  have hb2 := e12.heap hn.heap
  refine ⟨⟨_, by rw [cell_of_heap hT2.box]; rfl, bcase_mk (fun h => ?_) (fun h => ?_)⟩, ?_⟩
  · have h := bne_iff_ne.1 h
    refine ⟨⟨p, t, i⟩, rfl, ⟨hT2, hok, hi, by dsimp only; omega⟩, ?_⟩
    intro p3 w3 hO3
    refine ⟨(p3, b), rfl, ?_, box_kp hb2 hT2 hO3⟩
    have e : te1 t i = moveT t i := by unfold te1; rw [if_pos h]
    rw [e]; exact hO2.trans hO3
  · have h := bne_eq_false_iff_eq.1 h
    refine ⟨(p, b), rfl, ?_, hb2⟩
    have e : te1 t i = t := by unfold te1; rw [if_neg (fun hh => hh h)]
    rw [e]; exact hO2
  have hok1 := hok.te1 i
  have hl1 := te1_len hok hi
  have hla1 := te1_last (t := t) i
  have hw1 := te1_w t i
  generalize te1 t i = t1 at *
  rintro _ ⟨⟨B3, q3, a3, c3⟩, b3⟩ w3 ⟨hO3, hb3⟩
  obtain rfl : B3 = p.B := hO3.b
  obtain rfl : q3 = p.q := hO3.q
  dsimp only at hO3 hb3 ⊢
  have hce3 := box_ce hb3
  have hst3 : w3.cell? ⟨p.q, 3, none⟩ = some (.int .u16 t1.st) := (cell_of_heap hO3.is.box 3).trans rfl
  refine ⟨?_, ?_⟩
  · intro w4 hd
    have hO4 := hO3.trans (TeOut.ext hO3.is hd.ext)
    have hb4 := Ext.heap hd.ext hb3
    refine ⟨_, hst3, _, hce3.2.2.2.2.2, bcase_mk (fun h => ?_) (fun h => ?_)⟩
    · have h : t1.st ≠ c.st := by have := bne_iff_ne.1 h; omega
      refine ⟨_, (hce3.ext hd.ext).2.2.2.2.2, ⟨⟨p.B, p.q, a3, c3⟩, t1, c.st⟩, rfl, ⟨hO4.is, hst, by dsimp only; omega⟩, ?_⟩
      intro p5 w5 hO5
      refine ⟨(p5, b3), rfl, ?_, box_kp hb4 hO4.is hO5⟩
      have e : te2 t1 c.st = wearT t1 c.st := by unfold te2; rw [if_pos h]
      rw [e]; exact hO4.trans hO5
    · have h : t1.st = c.st := by have := bne_eq_false_iff_eq.1 h; omega
      refine ⟨(⟨p.B, p.q, a3, c3⟩, b3), rfl, ?_, hb4⟩
      have e : te2 t1 c.st = t1 := by unfold te2; rw [if_neg (fun hh => hh h)]
      rw [e]; exact hO4
  have hok2 := hok1.te2 hst
  have hl2 := te2_len (t := t1) hst
  have hla2 := te2_last (t := t1) c.st
  have hw2 := te2_w t1 c.st
  clear hO3 hb3 hce3 hst3 hO2 hT2 hb2 hce
  generalize te2 t1 c.st = t2 at *
  rintro _ ⟨⟨B5, q5, a5, c5⟩, b5⟩ w5 ⟨hO5, hb5⟩
  obtain rfl : B5 = p.B := hO5.b
  obtain rfl : q5 = p.q := hO5.q
  dsimp only at hO5 hb5 ⊢
  refine ⟨?_, ?_⟩
  · refine ⟨txC c, rfl, ⟨hO5.is.ud.1, by omega⟩, ?_⟩
    rintro ⟨r, n⟩ w6 ⟨_, hn6, e56⟩ w7 hd
    dsimp only at hn6 ⊢
    have hO6 := hO5.trans (TeOut.ext hO5.is e56)
    have hO7 := hO6.trans (TeOut.ext hO6.is hd.ext)
    have hb7 := Ext.heap hd.ext (e56.heap hb5)
    have hnl := nxN_le (txC c)
    have hla : w6.cell? ⟨p.q, 2, none⟩ = some (.string t2.last) := (cell_of_heap hO6.is.box 2).trans rfl
    refine ⟨_, hla, ?_⟩
    rw [str_empty]
    have hz : (t2.last ++ (txC c).extract 0 n).size ≤ 67108864 := by rw [ByteArray.size_append, size_ext (by omega)]; omega
    refine bcase_mk (fun h => ⟨_, hla, n, rfl, Nat.zero_le _, by omega, by rw [ByteArray.size_append] at hz; omega, _, rfl, ⟨hO7.is.ud.1, hz⟩, ?_⟩) (fun h => ⟨(⟨p.B, p.q, a5, c5⟩, b5), rfl, ?_, hb7⟩)
    · have h : t2.last.size ≠ 0 := by simpa using h
      rintro k w8 ⟨hk, e78⟩
      have hO8 := hO7.trans (TeOut.ext hO7.is e78)
      have hb8 := e78.heap hb7
      refine bcase_mk (fun h1 => ⟨⟨⟨p.B, p.q, a5, c5⟩, t2, i⟩, rfl, ⟨hO8.is, hok2, hi, by dsimp only; omega⟩, ?_⟩) (fun h1 => ⟨(⟨p.B, p.q, a5, c5⟩, b5), rfl, ?_, hb8⟩)
      · intro p9 w9 hO9
        refine ⟨(p9, b5), rfl, ?_, box_kp hb8 hO8.is hO9⟩
        have e : te3 t2 i (txC c) = moveT t2 i := by
          unfold te3 joinsT
          rw [if_pos]
          rw [← hn6, ← hk, decide_eq_true h, decide_eq_true (by rw [beq_iff_eq] at h1; omega)]; rfl
        rw [e]; exact hO8.trans hO9
      · have e : te3 t2 i (txC c) = t2 := by
          unfold te3 joinsT
          rw [if_neg]
          rw [← hn6, ← hk, decide_eq_false (p := k = 1) (by rw [beq_eq_false_iff_ne] at h1; omega), Bool.and_false]; decide
        rw [e]; exact hO8
    · have h : ¬ t2.last.size ≠ 0 := by simpa using h
      have e : te3 t2 i (txC c) = t2 := by
        unfold te3 joinsT
        rw [if_neg]
        rw [decide_eq_false h, Bool.false_and]; decide
      rw [e]; exact hO7
  have hok3 := hok2.te3 i (txC c)
  have hl3 := te3_len hok2 hi (txC c)
  have hw3 := te3_w t2 i (txC c)
  clear hO5 hb5
  generalize te3 t2 i (txC c) = t3 at *
  rintro _ ⟨⟨B8, q8, a8, c8⟩, b8⟩ w8 ⟨hO8, _⟩
  obtain rfl : B8 = p.B := hO8.b
  obtain rfl : q8 = p.q := hO8.q
  dsimp only at hO8 ⊢
  have hc8 : w8.cell? ⟨p.q, 0, none⟩ = some (.slice a8 t3.b.size c8) := (cell_of_heap hO8.is.box 0).trans rfl
  have hpn := pl_le (txC c) t3.wd
  refine ⟨_, _, _, hc8, te_appS hO8.is (txC c) (by omega) fun a' c' w9 hrun hko h1 h2 hst => ⟨hrun, hko, rfl, h1, h2, fun w10 hs => ?_⟩⟩
  have hO10 := hO8.trans (hst w10 hs)
  refine ⟨rfl, hO10.is.old (k := 2) (by decide), hO10.is.free 2, fun w11 hs11 => ?_⟩
  have hO11 := hO10.trans (te_put (t' := ⟨t3.b ++ txC c, t3.ps, txC c, t3.st, t3.w, t3.wd⟩) hO10.is hs11 rfl rfl)
  refine ⟨_, (cell_of_heap hO11.is.box 5).trans rfl, (txC c, t3.wd), rfl, ⟨hO11.is.ud, by dsimp only; omega⟩, ?_⟩
  rintro n w12 ⟨hn12, e1112⟩
  dsimp only at hn12
  have hO12 := hO11.trans (TeOut.ext hO11.is e1112)
  refine ⟨inr_i64 (by omega) (by omega), rfl, hO12.is.old (k := 1) (by decide), hO12.is.free 1, fun w13 hs13 => ?_⟩
  have hO13 := hO12.trans (te_put (t' := ⟨t3.b ++ txC c, (i : Int) + (n : Int), txC c, t3.st, t3.w, t3.wd⟩) hO12.is hs13 rfl rfl)
  intro w14 hd
  have hO14 := hO13.trans (TeOut.ext hO13.is hd.ext)
  refine ⟨(i : Int) + (n : Int), (cell_of_heap hO13.is.box 1).trans rfl, t3.w, (cell_of_heap hO13.is.box 4).trans rfl, by omega, hok3.1, bcase_mk (fun h => ⟨rfl, hO14.is.old (k := 1) (by decide), hO14.is.free 1, fun w15 hs15 => ⟨⟨p.B, p.q, a', c'⟩, rfl, ?_⟩⟩) (fun h => ⟨⟨p.B, p.q, a', c'⟩, rfl, ?_⟩)⟩
  · have h : ((i : Int) + (n : Int)) % t3.w = 0 := beq_iff_eq.1 h
    have e : te4 t3 i (txC c) = ⟨t3.b ++ txC c, -1, txC c, t3.st, t3.w, t3.wd⟩ := by
      unfold te4; rw [← hn12, if_pos h]
    rw [e]
    exact hO14.trans (te_put hO14.is hs15 rfl rfl)
  · have h : ¬ ((i : Int) + (n : Int)) % t3.w = 0 := by rw [beq_eq_false_iff_ne] at h; exact h
    have e : te4 t3 i (txC c) = ⟨t3.b ++ txC c, (i : Int) + (n : Int), txC c, t3.st, t3.w, t3.wd⟩ := by
      unfold te4; rw [← hn12, if_neg h]
    rw [e]; exact hO14
end Go.Proofs.YtjdohhididpomaaDoor
end

section
namespace Go.Proofs.YtjdohhididpomaaDoor
open Go Go.RowKit Vc Ut Tb Cl
theorem half_ok : sHalf.Ok Tryd.prog 23 := by
  refine half_vc ⟨alikeW_ok, trivial⟩ ?_
  rintro ⟨a1, c1, g1, a2, c2, g2, i⟩ w ⟨⟨hc1, hb1⟩, ⟨hc2, hb2⟩, hlen, hi⟩ b w1 hn1 b2 w2 hn2 w3 hd
  dsimp only at hc1 hb1 hc2 hb2 hlen hi hn1 hn2 ⊢
  have hg1 := (gr_box hn1.heap).ext hn2.ext
  have hg2 := gr_box hn2.heap
  have e02 := Ext.trans hn1.ext hn2.ext
  have e03 := Ext.trans e02 hd.ext
  have hl := bulk_len g2.cs
  have hH : ∀ h : i + 1 < g2.cs.length, halfB g1.cs g2.cs i = ((ceG g2.cs (i + 1)).p == 1 && !alikeB (ceG g1.cs (i + 1)) (ceG g2.cs (i + 1))) := fun h => by
    unfold halfB; rw [decide_eq_true h, Bool.true_and]
  refine ⟨inr_i64 (by omega) (by omega), _, _, _, hg2.cs, bcase_mk (fun h => ?_) (fun h => ⟨_, rfl, ?_, e03⟩)⟩
  rotate_left
  · have h := of_decide_eq_false h
    unfold halfB; rw [decide_eq_false (by omega)]; rfl
  have h1 : i + 1 < g2.cs.length := by have := of_decide_eq_true h; omega
  refine ⟨_, _, _, hg2.cs, inr_i64 (by omega) (by omega), i + 1, rfl, h1, (hc2.ext e02).ce h1 fun b4 o4 hce => ⟨_, hce.2.1, bcase_mk (fun k1 => ⟨_, _, _, hg1.cs, inr_i64 (by omega) (by omega), i + 1, rfl, by omega, (hc1.ext e02).ce (by omega) fun b5 o5 hd5 => hd5.load ⟨_, _, _, hg2.cs, inr_i64 (by omega) (by omega), i + 1, rfl, h1, (hc2.ext e02).ce h1 fun b6 o6 hd6 => hd6.load ⟨(ceG g1.cs (i + 1), ceG g2.cs (i + 1)), rfl, trivial, ?_⟩⟩⟩) (fun k1 => ⟨_, rfl, ?_, e03⟩)⟩⟩
  · rintro x w4 ⟨hx, e34⟩
    exact ⟨_, rfl, by rw [hH h1, k1, hx]; rfl, Ext.trans e03 e34⟩
  · rw [hH h1, k1]; rfl
theorem beg_w (kn : Bool) (b : Gr) (wd : Bool) : (begT kn b wd).w = b.w ∧ (begT kn b wd).wd = wd ∧ (begT kn b wd).last.size = 0 ∧ (begT kn b wd).st = 0 := by
  cases kn <;> exact ⟨rfl, rfl, rfl, rfl⟩
theorem beg_len (kn : Bool) (b : Gr) (wd : Bool) : (begT kn b wd).b.size ≤ 400 := by
  have h1 := wear_len (t := ⟨⟨#[]⟩, -1, ⟨#[]⟩, 0, b.w, wd⟩) (st := 0) (by decide)
  have h2 := say_len (c := 74) (l := [2]) (by intro n hn; simp at hn; omega)
  have h1 : (wearT ⟨⟨#[]⟩, -1, ⟨#[]⟩, 0, b.w, wd⟩ 0).b.size ≤ 0 + 245 := h1
  cases kn
  · show ((wearT ⟨⟨#[]⟩, -1, ⟨#[]⟩, 0, b.w, wd⟩ 0).b ++ sayB 74 [2]).size ≤ 400
    rw [ByteArray.size_append]
    simp only [List.length_cons, List.length_nil] at h2
    omega
  · show (wearT ⟨⟨#[]⟩, -1, ⟨#[]⟩, 0, b.w, wd⟩ 0).b.size ≤ 400
    omega
theorem tell_len {t : Te} (h : teOk t) {i : Nat} (hi : i ≤ 1048576) {c : Ce} (hs : c.st < 65536) : teOk (tellT t i c) ∧ (tellT t i c).b.size ≤ t.b.size + 340 + c.t.size ∧ (tellT t i c).last = txC c ∧ (tellT t i c).w = t.w ∧ (tellT t i c).wd = t.wd := by
  have h1 := h.te1 i
  have h2 := h1.te2 hs
  have h3 := h2.te3 i (txC c)
  have l1 := te1_len h hi
  have l2 := te2_len (t := te1 t i) hs
  have l3 := te3_len h2 hi (txC c)
  have w1 := te1_w t i
  have w2 := te2_w (te1 t i) c.st
  have w3 := te3_w (te2 (te1 t i) c.st) i (txC c)
  have ht := tx_size c
  refine ⟨h3, ?_, rfl, ?_, ?_⟩
  · show ((te3 (te2 (te1 t i) c.st) i (txC c)).b ++ txC c).size ≤ _
    rw [ByteArray.size_append]; omega
  · show (te3 (te2 (te1 t i) c.st) i (txC c)).w = _
    rw [w3.1, w2.1, w1.1]
  · show (te3 (te2 (te1 t i) c.st) i (txC c)).wd = _
    rw [w3.2, w2.2, w1.2]
theorem ce_st {cs : List Ce} (h : stOk cs) {i : Nat} (hi : i < cs.length) : (ceG cs i).st < 65536 := by
  rw [ceG_lt hi]; exact h _ (List.getElem_mem hi)
theorem loop_ok {kn : Bool} {a b : List Ce} {t : Te} (ht : teOk t) (hs : stOk b) (hl : b.length ≤ 1048576) (h0 : t.last.size = 0) : ∀ i, i ≤ b.length → teOk (loopT kn a b t i) ∧ (loopT kn a b t i).b.size ≤ t.b.size + 340 * i + bulkC (b.take i) ∧ (loopT kn a b t i).last.size ≤ 1 + bulkC b ∧ (loopT kn a b t i).w = t.w ∧ (loopT kn a b t i).wd = t.wd
  | 0, _ => ⟨ht, by show t.b.size ≤ _; omega, by show t.last.size ≤ _; omega, rfl, rfl⟩
  | i + 1, hi => by
    obtain ⟨h1, h2, h3, h4, h5⟩ := loop_ok ht hs hl h0 (kn := kn) (a := a) i (by omega)
    have hb : bulkC (b.take (i + 1)) = bulkC (b.take i) + (1 + (ceG b i).t.size) := by
      rw [take_ce hi, bulk_app, bulk_cons]; rfl
    have hba := bulk_at b hi
    simp only [loopT]
    split
    · obtain ⟨k1, k2, k3, k4, k5⟩ := tell_len h1 (i := i) (by omega) (c := ceG b i) (ce_st hs hi)
      refine ⟨k1, Nat.le_trans k2 (by omega), ?_, k4.trans h4, k5.trans h5⟩
      rw [k3]
      have := tx_size (ceG b i)
      omega
    · exact ⟨h1, by omega, h3, h4, h5⟩
theorem boxG.gr {w : World} {b : Nat} {ad : Option Addr} {c : Nat} {g : Gr} (h : boxG w b ad c g) : GrB w b ad c g := gr_box h
theorem boxG.kp {w w' : World} {p p' : TeP} {t t' : Te} {b : Nat} {ad : Option Addr} {c : Nat} {g : Gr} (hb : boxG w b ad c g) (ht : TeIn w p t) (h : TeOut w w' p p' t') : boxG w' b ad c g := by
  unfold boxG at hb ⊢
  refine h.kp.oth b _ hb (fun hh => ?_) (fun c fz hh => by injection hh with _ h2; exact absurd h2 (by decide))
  cases hh
  rw [ht.box] at hb
  injection hb with h2
  injection h2 with _ h3
  exact absurd h3 (by decide)
theorem dfI.out {g : GDf} {w00 : World} {p p' : TeP} {b1 b2 : Nat} {t t' : Te} {w w' : World} (h : dfI g w00 (p, b1, b2) t w) (ho : TeOut w w' p p' t') : dfI g w00 (p', b1, b2) t' w' := by
  obtain ⟨h1, h2, h3, h4, h5, h6, h7⟩ := h
  dsimp only at h1 h2 h4 h5 h6 h7
  refine ⟨ho.is, by dsimp only; rw [ho.b, h2], Below.trans h3 ?_, h4.kp h1 ho, h5.kp h1 ho, h6, h7⟩
  have := ho.kp.below; rw [h2] at this; exact this
theorem dfI.ext {g : GDf} {w00 : World} {p : TeP} {b1 b2 : Nat} {t : Te} {w w' : World} (h : dfI g w00 (p, b1, b2) t w) (hx : Ext w w') : dfI g w00 (p, b1, b2) t w' := h.out (TeOut.ext h.1 hx)
theorem boxG.fr {w w' : World} {b q : Nat} {ad : Option Addr} {c : Nat} {g : Gr} (hb : boxG w b ad c g) (hf : Fr (fun x => x = q) w w') (hq : q ≠ b) : boxG w' b ad c g := (hf.block b (heap_lt hb) (fun h => hq h.symm)).trans hb
set_option maxRecDepth 4000 in
theorem diff_ok : sDiff.Ok Tryd.prog 10 := by
  refine diff_vc ⟨rightW_ok, sameW_ok, wear_ok, say_ok, alikeW_ok, half_ok, tell_ok, move_ok, trivial⟩ ?_
  rintro ⟨a1, c1, g1, a2, c2, g2, wd⟩ w ⟨hU, hP, ⟨hc1, hb1⟩, ⟨hc2, hb2⟩, ⟨hk1, hk2, hst⟩⟩ b1 w1 hn1 b2 w2 hn2
  dsimp only at hU hP hc1 hb1 hc2 hb2 hk1 hk2 hst hn1 hn2 ⊢
  have hx1 : boxG w2 b1 a1 c1 g1 := hn2.ext.heap hn1.heap
  have hx2 : boxG w2 b2 a2 c2 g2 := hn2.heap
  have e02 := Ext.trans hn1.ext hn2.ext
  have z1 := hn1.size; have z2 := hn2.size
  have hll := bulk_len g2.cs
  refine ⟨hx1.gr.load ⟨⟨a1, c1, g1, wd⟩, rfl, ⟨hU _ e02, hc1.ext e02, hb1⟩, ?_⟩, ?_⟩
  · rintro x w3 ⟨hx, e23⟩
    exact ⟨(), by rw [hx], e23⟩
  rintro _ _ w3 e23
  have hx13 : boxG w3 b1 a1 c1 g1 := e23.heap hx1
  have hx23 : boxG w3 b2 a2 c2 g2 := e23.heap hx2
  have e03 := Ext.trans e02 e23
  refine ⟨hx23.gr.load ⟨⟨a2, c2, g2, wd⟩, rfl, ⟨hU _ e03, hc2.ext e03, hb2⟩, ?_⟩, ?_⟩
  · rintro x w4 ⟨hx, e34⟩
    dsimp only at hx
    have e04 := Ext.trans e03 e34
    refine bcase_mk (fun h => ⟨(none, 0, 0), rfl, ?_⟩) (fun h => ?_)
    · have hd : diffB g1 g2 wd = none := by unfold diffB; rw [if_pos (.inl (by rw [← hx]; simpa using h))]
      rw [hd]
      exact (Made.nil w _ _).later e04
    have hr2 : rightB g2 wd = true := by rw [← hx]; simpa using h
    have h14 : boxG w4 b1 a1 c1 g1 := e34.heap hx13
    have h24 : boxG w4 b2 a2 c2 g2 := e34.heap hx23
    refine bcase_mk (fun h1 => h14.gr.load (h24.gr.load ⟨⟨a1, c1, g1, a2, c2, g2⟩, rfl, ⟨⟨hc1.ext e04, hb1⟩, hc2.ext e04, hb2⟩, ?_⟩)) (fun h1 => ⟨(), e34, hr2, by rw [h1]; rfl⟩)
    rintro y w5 ⟨hy, e45⟩
    dsimp only at hy
    refine bcase_mk (fun h2 => ⟨(none, 0, 0), rfl, ?_⟩) (fun h2 => ⟨(), Ext.trans e34 e45, hr2, by rw [← hy, h2, Bool.and_false]⟩)
    have hd : diffB g1 g2 wd = none := by unfold diffB; rw [if_pos (.inr ⟨h1, by rw [← hy]; exact h2⟩)]
    rw [hd]
    exact (Made.nil w _ _).later (Ext.trans e04 e45)
  rintro _ _ w4 ⟨e34, hr2, hns⟩
  have e04 := Ext.trans e03 e34
  have hx14 : boxG w4 b1 a1 c1 g1 := e34.heap hx13
  have hx24 : boxG w4 b2 a2 c2 g2 := e34.heap hx23
  obtain ⟨r1, r2, r3, r4, r5, r6, r7⟩ := right_facts hr2
  have hdf : diffB g1 g2 wd = some (endT (loopT (knownG g1 g2 wd) g1.cs g2.cs (begT (knownG g1 g2 wd) g2 wd) g2.cs.length) g2).b := by
    unfold diffB
    rw [if_neg]
    rintro (h | ⟨h, h'⟩)
    · rw [hr2] at h; cases h
    · rw [h, h'] at hns; cases hns
  rw [hdf]
  clear hdf hns
  refine ⟨_, hx24.gr.w, ?_⟩
  intro q w5 hn5
  have e05 := Ext.trans e04 hn5.ext
  have z5 := hn5.size
  have s02 := e02.size; have s24 := e23.size; have s34 := e34.size
  have hT5 : TeIn w5 ⟨w.heap.size, q, none, 0⟩ ⟨⟨#[]⟩, -1, ⟨#[]⟩, 0, g2.w, wd⟩ := by
    refine ⟨hn5.heap, Row.nil _ _ _, by dsimp only; omega, (fun g hg => by cases hg), e05.size, hP.on e05, hU.on e05⟩
  refine ⟨⟨⟨w.heap.size, q, none, 0⟩, ⟨⟨#[]⟩, -1, ⟨#[]⟩, 0, g2.w, wd⟩, 0⟩, rfl, ⟨hT5, by show 0 < 65536; decide, by show 0 ≤ 536870912; decide⟩, ?_⟩
  rintro ⟨B6, q6, a6, c6⟩ w6 hO6
  obtain rfl : B6 = w.heap.size := hO6.b
  obtain rfl : q6 = q := hO6.q
  dsimp only at hO6 ⊢
  have hx15 : boxG w5 b1 a1 c1 g1 := hn5.ext.heap hx14
  have hx25 : boxG w5 b2 a2 c2 g2 := hn5.ext.heap hx24
  have hD6 : dfI ⟨a1, c1, g1, a2, c2, g2, wd⟩ w (⟨w.heap.size, q6, a6, c6⟩, b1, b2) (wearT ⟨⟨#[]⟩, -1, ⟨#[]⟩, 0, g2.w, wd⟩ 0) w6 :=
    dfI.out (t := ⟨⟨#[]⟩, -1, ⟨#[]⟩, 0, g2.w, wd⟩) ⟨hT5, rfl, e05, hx15, hx25, by dsimp only; omega, by dsimp only; omega⟩ hO6
  have hx16 := hx15.kp hT5 hO6
  have hx26 := hx25.kp hT5 hO6
  refine ⟨?_, ?_⟩
  · refine bcase_mk (fun h => ⟨_, hx16.gr.w, _, hx26.gr.w, bcase_mk (fun h1 => ⟨_, hx16.gr.h, _, hx26.gr.h, (), ?_, rfl, hr2⟩) (fun h1 => ⟨(), ?_, rfl, hr2⟩)⟩) (fun h => ⟨(), ?_, rfl, hr2⟩)
    · unfold knownG; rw [h, h1]; rfl
    · unfold knownG; rw [h, h1]; rfl
    · unfold knownG; rw [h]; rfl
  rintro _ _ w6' ⟨hw6, _⟩
  replace hw6 := hw6.symm; subst hw6
  have hknl : knownG g1 g2 wd = true → g1.cs.length = g2.cs.length := by
    intro h
    unfold knownG at h
    simp only [Bool.and_eq_true, beq_iff_eq] at h
    have := (right_facts h.1).2.2.2.2.1
    rw [h.2.1, h.2.2] at this; omega
  generalize hkn : knownG g1 g2 wd = kn at *
  have hbw := beg_w kn g2 wd
  have hbl := beg_len kn g2 wd
  refine ⟨bcase_mk (fun h => ?_) (fun h => ⟨(⟨w.heap.size, q6, a6, c6⟩, b1, b2), rfl, rfl, rfl, ?_, hr2⟩), ?_⟩
  · have h : kn = false := by simpa using h
    intro b7 w7 hn7
    have hm := Made.box (s := 1) (n := 1) hn7 (Ext.refl _) rfl (by unfold maxLen; decide)
    have hD7 := hD6.ext hn7.ext
    refine ⟨⟨⟨w.heap.size, q6, a6, c6⟩, _, 74, some ⟨b7, 0, none⟩, 1, [2]⟩, rfl, ⟨hD7.1, hm.row, ?_, by show 1 ≤ 16; decide, ?_⟩, ?_⟩
    · have := beg_len true g2 wd
      show (wearT ⟨⟨#[]⟩, -1, ⟨#[]⟩, 0, g2.w, wd⟩ 0).b.size ≤ _
      have h2 : (begT true g2 wd).b.size = (wearT ⟨⟨#[]⟩, -1, ⟨#[]⟩, 0, g2.w, wd⟩ 0).b.size := rfl
      omega
    · intro n hn; simp at hn; omega
    rintro ⟨B8, q8, a8, c8⟩ w8 hO8
    obtain rfl : B8 = w.heap.size := hO8.b
    obtain rfl : q8 = q6 := hO8.q
    subst h
    exact ⟨(⟨w.heap.size, q8, a8, c8⟩, b1, b2), rfl, rfl, rfl, hD7.out hO8, hr2⟩
  · have h : kn = true := by simpa using h
    subst h
    exact hD6
  clear hD6 hO6 hT5 hx16 hx26 hx15 hx25 hx14 hx24 hx13 hx23 hx1 hx2 e02 e23 e03 e34 e04 e05 hn5 hn1 hn2 z1 z2 z5 s02 s24 s34
  generalize begT kn g2 wd = t0 at *
  have hok : 0 < g2.w → teOk t0 := fun h => ⟨by rw [hbw.1]; exact h, by rw [hbw.1]; exact r2, by rw [hbw.2.2.2]; decide⟩
  rintro _ ⟨⟨B9, q9, a9, c9⟩, b1', b2'⟩ w9 ⟨hD9, _⟩
  refine ⟨_, _, _, hD9.2.2.2.2.1.gr.cs, ⟨(0, ⟨B9, q9, a9, c9⟩, b1', b2'), rfl, rfl, rfl, rfl, Nat.zero_le _, hD9⟩, ?_⟩
  clear hD9
  rintro _ ⟨i, ⟨B10, q10, a10, c10⟩, d1, d2⟩ w10 ⟨hi, hD10⟩
  obtain rfl : B10 = w.heap.size := hD10.2.1
  dsimp only at hi hD10 ⊢
  have e10 : Ext w w10 := hD10.2.2.1
  have hT10 := hD10.1
  have x1 := hD10.2.2.2.1
  have x2 := hD10.2.2.2.2.1
  dsimp only at hT10 x1 x2
  refine bcase_mk (fun h => ?_) (fun h => ?_)
  · have hlt : i < g2.cs.length := by have := of_decide_eq_true h; omega
    have hw0 : 0 < g2.w := by
      rcases Int.lt_or_eq_of_le r1 with h | h
      · exact h
      · exfalso; rw [← h, Int.zero_mul] at r5; omega
    obtain ⟨l1, l2, l3, l4, l5⟩ := loop_ok (hok hw0) hst (by omega) hbw.2.2.1 (kn := kn) (a := g1.cs) i (by omega)
    have hbt := bulk_take g2.cs i
    have hba := bulk_at g2.cs hlt
    generalize ht : loopT kn g1.cs g2.cs t0 i = t at *
    have pre : ∀ {W : World}, Ext w10 W → TeIn W ⟨w.heap.size, q10, a10, c10⟩ t ∧ teOk t ∧ i ≤ 1048576 ∧ (ceG g2.cs i).st < 65536 ∧ t.b.size ≤ 536000000 ∧ (ceG g2.cs i).t.size ≤ 16777216 ∧ t.last.size ≤ 16777216 :=
      fun hx => ⟨hT10.ext hx, l1, by omega, ce_st hst hlt, by omega, by omega, by omega⟩
    have fin : ∀ {W : World} {p' : TeP}, p'.q = q10 → dfI ⟨a1, c1, g1, a2, c2, g2, wd⟩ w (p', d1, d2) (loopT kn g1.cs g2.cs t0 (i + 1)) W →
        InR .i64 ((i : Int) + 1) ∧ ∃ y : Nat × TeP × Nat × Nat, Value.int .i64 ((i : Int) + 1) = Value.int .i64 (y.1 : Int) ∧ Value.pointer (some ⟨d1, 0, none⟩) = Value.pointer (some ⟨y.2.2.1, 0, none⟩) ∧ Value.pointer (some ⟨d2, 0, none⟩) = Value.pointer (some ⟨y.2.2.2, 0, none⟩) ∧
          Value.pointer (some ⟨q10, 0, none⟩) = Value.pointer (some ⟨y.2.1.q, 0, none⟩) ∧ (y.1 ≤ g2.cs.length ∧ dfI ⟨a1, c1, g1, a2, c2, g2, wd⟩ w y.2 (loopT kn g1.cs g2.cs t0 y.1) W) ∧ g2.cs.length - y.1 < g2.cs.length - i :=
      fun hq hd => ⟨inr_i64 (by omega) (by omega), (i + 1, _, d1, d2), rfl, rfl, rfl, by dsimp only; rw [hq], ⟨hlt, hd⟩, by dsimp only; omega⟩
    have yes : ∀ {W W' : World} {p' : TeP}, Ext w10 W → tellsB kn g1.cs g2.cs i = true → TeOut W W' ⟨w.heap.size, q10, a10, c10⟩ p' (tellT t i (ceG g2.cs i)) → dfI ⟨a1, c1, g1, a2, c2, g2, wd⟩ w (p', d1, d2) (loopT kn g1.cs g2.cs t0 (i + 1)) W' := by
      intro W W' p' hx hb hO
      have e : loopT kn g1.cs g2.cs t0 (i + 1) = tellT t i (ceG g2.cs i) := by
        simp only [loopT]; rw [if_pos hb, ht]
      rw [e]
      exact (hD10.ext hx).out hO
    have no : ∀ {W : World}, Ext w10 W → tellsB kn g1.cs g2.cs i = false → dfI ⟨a1, c1, g1, a2, c2, g2, wd⟩ w (⟨w.heap.size, q10, a10, c10⟩, d1, d2) (loopT kn g1.cs g2.cs t0 (i + 1)) W := by
      intro W hx hb
      have e : loopT kn g1.cs g2.cs t0 (i + 1) = t := by
        simp only [loopT]; rw [if_neg (by rw [hb]; decide), ht]
      rw [e]
      exact hD10.ext hx
    refine ⟨i, rfl, hlt, (hc2.ext e10).ce hlt fun b o hce => hce.load ?_⟩
    intro b5 w13 hn13
    have z13 := hn13.size
    refine stores_all hn13.heap (ceV (ceG g2.cs i)) rfl (by show 6 ≤ maxLen; decide) (ceV_one _) ?_
    intro w14 hb14 hf14 w15 hd
    have e14 : Ext w10 w14 := Ext.fr_new hn13.ext hf14 (fun q hq => by omega)
    have e15 : Ext w10 w15 := Ext.trans e14 hd.ext
    have hce14 := box_ce hb14
    have hce15 := hce14.ext hd.ext
    have hcell := hce14.2.1
    refine ⟨_, hcell, bcase_mk (fun hp => bcase_mk (fun hk => ?_) (fun hk => ?_)) (fun hp => fin rfl (no e15 (by unfold tellsB; rw [hp]; rfl)))⟩
    · have hk : kn = false := by simpa using hk
      refine hce15.load ⟨⟨⟨w.heap.size, q10, a10, c10⟩, t, i, ceG g2.cs i⟩, rfl, pre e15, ?_⟩
      intro p' w16 hO
      exact fin hO.q (yes e15 (by unfold tellsB; rw [hp, hk]; rfl) hO)
    have hk : kn = true := by simpa using hk
    have hlen := hknl hk
    have x114 : GrB w14 d1 a1 c1 g1 := x1.gr.ext e14
    refine ⟨_, _, _, x114.cs, i, rfl, by omega, (hc1.ext (Ext.trans e10 e14)).ce (by omega) fun b6 o6 hca => hca.load (hce14.load ⟨(ceG g1.cs i, ceG g2.cs i), rfl, trivial, ?_⟩)⟩
    rintro x w16 ⟨hx, e1516⟩
    dsimp only at hx
    have e16 := Ext.trans e15 e1516
    have hce16 := hce15.ext e1516
    refine bcase_mk (fun h1 => ?_) (fun h1 => ?_)
    · refine hce16.load ⟨⟨⟨w.heap.size, q10, a10, c10⟩, t, i, ceG g2.cs i⟩, rfl, pre e16, ?_⟩
      intro p' w17 hO
      exact fin hO.q (yes e16 (by unfold tellsB; rw [hp, ← hx, h1]; simp) hO)
    have x116 : GrB w16 d1 a1 c1 g1 := x1.gr.ext e16
    have x216 : GrB w16 d2 a2 c2 g2 := x2.gr.ext e16
    refine x116.load (x216.load ⟨⟨a1, c1, g1, a2, c2, g2, i⟩, rfl, ⟨⟨hc1.ext (Ext.trans e10 e16), hb1⟩, ⟨hc2.ext (Ext.trans e10 e16), hb2⟩, hlen, hlt⟩, ?_⟩)
    rintro y w17 ⟨hy, e1617⟩
    dsimp only at hy
    have e17 := Ext.trans e16 e1617
    refine bcase_mk (fun h2 => ?_) (fun h2 => fin rfl (no e17 (by unfold tellsB; rw [hp, ← hx, h1, ← hy, h2, hk]; rfl)))
    refine (hce16.ext e1617).load ⟨⟨⟨w.heap.size, q10, a10, c10⟩, t, i, ceG g2.cs i⟩, rfl, pre e17, ?_⟩
    intro p' w18 hO
    exact fin hO.q (yes e17 (by unfold tellsB; rw [hp, ← hy, h2]; simp) hO)
  · have hi : i = g2.cs.length := by have := of_decide_eq_false h; omega
    subst hi
    have hsz : (loopT kn g1.cs g2.cs t0 g2.cs.length).b.size ≤ 536000000 ∧ (loopT kn g1.cs g2.cs t0 g2.cs.length).w = g2.w ∧ (0 < g2.w → teOk (loopT kn g1.cs g2.cs t0 g2.cs.length)) := by
      rcases Int.lt_or_eq_of_le r1 with h | h
      · obtain ⟨l1, l2, l3, l4, l5⟩ := loop_ok (hok h) hst (by omega) hbw.2.2.1 (kn := kn) (a := g1.cs) g2.cs.length (Nat.le_refl _)
        have hbt := bulk_take g2.cs g2.cs.length
        exact ⟨by omega, by rw [l4, hbw.1], fun _ => l1⟩
      · have h0 : g2.cs.length = 0 := by rw [← h, Int.zero_mul] at r5; omega
        rw [h0]
        exact ⟨by show t0.b.size ≤ _; omega, hbw.1, fun hh => by omega⟩
    generalize loopT kn g1.cs g2.cs t0 g2.cs.length = t at *
    obtain ⟨s1, s2, s3⟩ := hsz
    have hcell : ∀ {W : World} {a : Option Addr} {c : Nat} {t' : Te}, TeIn W ⟨w.heap.size, q10, a, c⟩ t' → W.cell? ⟨q10, 0, none⟩ = some (.slice a t'.b.size c) := fun h => (cell_of_heap h.box 0).trans rfl
    have made : ∀ {W : World} {a : Option Addr} {c : Nat} {t' : Te}, Ext w W → TeIn W ⟨w.heap.size, q10, a, c⟩ t' → Made w W 5 1 a t'.b.size (bytesV t'.b) c := fun hx h => ⟨h.row, h.bad, hx⟩
    refine ⟨_, x2.gr.x, bcase_mk (fun h => ?_) (fun h => ?_)⟩
    · have h : g2.x < 0 := of_decide_eq_true h
      refine ⟨_, _, _, hcell hT10, te_appS hT10 ⟨#[27, 91, 63, 50, 53, 108]⟩ (by show _ + 6 ≤ _; omega) fun a' c' w11 hrun hko h1 h2 hs => ⟨hrun, hko, rfl, h1, h2, fun w12 hs12 => ?_⟩⟩
      have hO := hs w12 hs12
      have hd := hD10.out hO
      refine ⟨_, _, _, hcell hO.is, (a', _, c'), rfl, ?_⟩
      have e : endT t g2 = teB t (t.b ++ ⟨#[27, 91, 63, 50, 53, 108]⟩) := by unfold endT; rw [if_pos h]; rfl
      dsimp only [Option.getD]
      rw [e]
      exact made hd.2.2.1 hO.is
    · have hxn : ¬ g2.x < 0 := of_decide_eq_false h
      have hcur : 0 ≤ g2.x ∧ g2.x < g2.w ∧ 0 ≤ g2.y ∧ g2.y < g2.h := by
        unfold curB at r6
        rw [show (g2.x == -1) = false from by rw [beq_eq_false_iff_ne]; omega, Bool.false_and, Bool.false_or] at r6
        exact of_decide_eq_true r6
      obtain ⟨k1, k2, k3, k4⟩ := hcur
      have m1 : 0 ≤ g2.y * g2.w := Int.mul_nonneg k3 r1
      have m2 : g2.y * g2.w + g2.w ≤ g2.h * g2.w := by
        have := Int.mul_le_mul_of_nonneg_right (show g2.y + 1 ≤ g2.h by omega) r1
        rw [Int.add_mul, Int.one_mul] at this; exact this
      rw [Int.mul_comm g2.w g2.h] at r5
      refine ⟨_, _, _, hcell hT10, te_appS hT10 ⟨#[27, 91, 63, 50, 53, 104]⟩ (by show _ + 6 ≤ _; omega) fun a' c' w11 hrun hko h1 h2 hs => ⟨hrun, hko, rfl, h1, h2, fun w12 hs12 => ?_⟩⟩
      have hO := hs w12 hs12
      have hd := hD10.out hO
      intro w13 hdr
      have hd13 := hd.ext hdr.ext
      have hO13 := hO.trans (TeOut.ext hO.is hdr.ext)
      have x212 : GrB w12 d2 a2 c2 g2 := hd.2.2.2.2.1.gr
      have hnat : g2.y * g2.w + g2.x = (((g2.y * g2.w + g2.x).toNat : Nat) : Int) := (Int.toNat_of_nonneg (by omega)).symm
      refine ⟨_, x212.y, g2.w, (cell_of_heap hO.is.box 4).trans (congrArg (fun z => some (Value.int .i64 z)) s2), inr_i64 (by omega) (by omega), _, x212.x, inr_i64 (by omega) (by omega), ⟨⟨w.heap.size, q10, a', c'⟩, teB t (t.b ++ ⟨#[27, 91, 63, 50, 53, 104]⟩), (g2.y * g2.w + g2.x).toNat⟩, by rw [← hnat], ⟨hO13.is, s3 (by omega), by dsimp only; omega, ?_⟩, ?_⟩
      · show (t.b ++ ⟨#[27, 91, 63, 50, 53, 104]⟩).size ≤ _
        rw [ByteArray.size_append]
        show _ + 6 ≤ _
        omega
      rintro ⟨B14, q14, a14, c14⟩ w14 hO14
      obtain rfl : B14 = w.heap.size := hO14.b
      obtain rfl : q14 = q10 := hO14.q
      have hd14 := hd13.out hO14
      refine ⟨_, _, _, hcell hO14.is, (a14, _, c14), rfl, ?_⟩
      have e : endT t g2 = moveT (teB t (t.b ++ ⟨#[27, 91, 63, 50, 53, 104]⟩)) (((g2.y * g2.w + g2.x).toNat : Nat) : Int) := by
        unfold endT; rw [if_neg hxn, ← hnat, ← s2]; rfl
      dsimp only [Option.getD]
      rw [e]
      exact made hd14.2.2.1 hO14.is
end Go.Proofs.YtjdohhididpomaaDoor
end
