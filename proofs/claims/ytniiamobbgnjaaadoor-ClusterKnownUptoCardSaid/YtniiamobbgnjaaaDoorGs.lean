/-
  append(b, s...) of a string's bytes onto a row of one's own.
-/
import Derived.Test.YtniiamobbgnjaaaDoorGi
import Derived.Lib.AppendStr
set_option linter.unusedVariables false
set_option linter.unusedSimpArgs false
namespace Go.Proofs.YtniiamobbgnjaaaDoor.Vc
open Go Go.RowKit

theorem Row.pushStr {P : Program} {w : World} {t u ty e : TypeId} (hE : ElemOk P t e 1 1) (hu : P.underlying u = some .string) {ad : Option Addr} {n c : Nat} {vs : List Value} (h : Row w e 1 ad n vs c) (s : ByteArray) (hb : n + s.size ≤ 70368744177664) :
    ∃ ad' c' w2, AppRun P #[t, u] ty (.slice ad n c) (.string s) w ad' (n + s.size) c' w2 ∧ KO w w2 ∧ Row w2 e 1 ad' (n + s.size) (vs ++ Lib.strCells s) c' ∧ w.grownBy w2 (blk ad) ∧
      (ad' = ad ∨ (ad' = some ⟨w.heap.size, 0, none⟩ ∧ w.heap.size < w2.heap.size ∧ Ext w w2)) := by
  obtain ⟨i, z, hi, hz, hsize, hby, hzs⟩ := hE.info
  have ht := hE.und
  have hlen : (vs ++ Lib.strCells s).length = (n + s.size) * 1 := by rw [List.length_append, h.1, Lib.strCells_length]; omega
  have h63 : n + s.size ≤ maxLen := by unfold maxLen; omega
  have hko : ∀ {w2 : World}, w.grownBy w2 (blk ad) → KO w w2 := fun hg => KO.grown hg (fun j o hj ho => by
    rcases h.2 with ⟨h1, _⟩ | ⟨g, cur, h1, h2, _⟩
    · subst h1; cases hj
    · subst h1; cases hj; rw [h2] at ho; cases ho; rfl)
  have grown : ∀ (old : Nat), old < n + s.size → ∀ (row : Option Nat) (xs : Array Value), xs = vs.toArray ++ (Lib.strCells s).toArray →
      Row (w.drew.alloc (.cells (xs ++ Builtin.zeroCells z.cells (grownCap w (n + s.size) old e - (n + s.size))) e)) e 1 (some ⟨w.heap.size, 0, none⟩) (n + s.size) (vs ++ Lib.strCells s) (grownCap w (n + s.size) old e) ∧
      w.grownBy (w.drew.alloc (.cells (xs ++ Builtin.zeroCells z.cells (grownCap w (n + s.size) old e - (n + s.size))) e)) row ∧ w.heap.size < (w.drew.alloc (.cells (xs ++ Builtin.zeroCells z.cells (grownCap w (n + s.size) old e - (n + s.size))) e)).heap.size ∧
      Ext w (w.drew.alloc (.cells (xs ++ Builtin.zeroCells z.cells (grownCap w (n + s.size) old e - (n + s.size))) e)) := by
    intro old ho row xs hxs
    subst hxs
    have hge := grownCap_ge w (n + s.size) old e
    have hcm : grownCap w (n + s.size) old e ≤ maxLen := grownCap_le_maxLen w (n + s.size) old e h63
    refine ⟨⟨hlen, .inr ⟨w.heap.size, _, rfl, heap_alloc_new w.drew _, hge, hcm, ?_, ?_⟩⟩, ⟨rfl, rfl, rfl, by simp, fun k hk _ => heap_alloc_old w.drew _ hk⟩, by simp, (Below.drew (Below.refl _ w)).alloc (by simp) _⟩
    · have h1 := h.1
      have h2 := Lib.strCells_length s
      simp only [Array.size_append, List.size_toArray, size_zeroCells, hzs]
      omega
    · simp only [Array.toList_append, List.append_assoc]
      rw [← List.append_assoc, ← hlen]
      exact List.take_left
  rcases h.2 with ⟨rfl, rfl, rfl⟩ | ⟨g, cur, rfl, hg, hnc, hcm, hcs, htake⟩
  · have hx : vs = [] := List.eq_nil_of_length_eq_zero (by simpa using h.1)
    subst hx
    by_cases h0 : s.size = 0
    · have hs : s = ByteArray.mk #[] := by
        cases s with | mk d => cases d with | mk l => cases l with
          | nil => rfl
          | cons x l => simp [ByteArray.size] at h0
      subst hs
      refine ⟨none, 0, w, ?_, KOE.refl _ _, (show Row w e 1 none 0 [] 0 from h), ⟨rfl, rfl, rfl, Nat.le_refl _, fun _ _ _ => rfl⟩, .inl rfl⟩
      unfold AppRun
      simp [Builtin.append_, run_underlying ht, run_underlying hu, sizeOf, typeInfo, hi, Builtin.lenOf, Builtin.firstCells, ByteArray.size]
    · have hr := run_append_nil_string (P := P) w t u ty e i z ht hu hi hz s (by omega) (by omega) (by rw [hby]; omega)
      have hgr := grown 0 (by omega) (blk none) (s.data.map (fun b => Value.int .u8 b.toNat)) (by
        apply Array.ext'; simp [Lib.strCells])
      simp only [Nat.zero_add] at hgr ⊢
      exact ⟨_, _, _, hr, hko hgr.2.1, hgr.1, hgr.2.1, .inr ⟨rfl, hgr.2.2⟩⟩
  · by_cases hroom : n + s.size ≤ c
    · have hfit : n + s.size ≤ cur.size := by omega
      have hr := Lib.run_append_room_string (P := P) w t u ty e i ht hu hi hsize g n c cur hg s hroom hfit
      have hgb : w.grownBy (w.setRow g (cur.toList.take n ++ Lib.strCells s ++ cur.toList.drop (n + s.size)).toArray) (blk (some ⟨g, 0, none⟩)) := ⟨rfl, rfl, rfl, by simp, fun k _ hk => setRow_other w g k _ (fun e => hk (by simp [blk, e]))⟩
      refine ⟨_, _, _, hr, hko hgb, ⟨hlen, .inr ⟨g, _, rfl, setRow_heap w g cur _ e _ hg, hroom, hcm, ?_, ?_⟩⟩, hgb, .inl rfl⟩
      · simp only [List.size_toArray, List.length_append, List.length_take, List.length_drop, Array.length_toList, Lib.strCells_length]
        omega
      · rw [Nat.mul_one] at htake
        rw [htake, ← hlen]
        exact List.take_left
    · have holds : ∀ (j : Nat) v, vs[j]? = some v → w.cell? ((⟨g, 0, none⟩ : Addr).add j) = some v := by
        intro j v hv
        rcases h.cells with h0 | ⟨b', o', e1, e2⟩
        · subst h0; simp at hv
        · cases e1; rw [add_lit]; exact e2 j v hv
      have hr := Lib.run_append_grow_string (P := P) w t u ty e i z ht hu hi hz ⟨g, 0, none⟩ n c vs (by rw [hsize]; exact h.1) holds s (by omega) (by omega) (growslice_fits (by omega) (by rw [hby]; omega))
      have hgr := grown c (by omega) (blk (some ⟨g, 0, none⟩)) _ rfl
      exact ⟨_, _, _, hr, hko hgr.2.1, hgr.1, hgr.2.1, .inr ⟨rfl, hgr.2.2⟩⟩

theorem Made.pushStr {P : Program} {w0 w : World} {t u ty e : TypeId} (hE : ElemOk P t e 1 1) (hu : P.underlying u = some .string) {ad : Option Addr} {n c : Nat} {vs : List Value} (h : Made w0 w e 1 ad n vs c) (s : ByteArray) (hb : n + s.size ≤ 70368744177664) :
    ∃ ad' c' w2, AppRun P #[t, u] ty (.slice ad n c) (.string s) w ad' (n + s.size) c' w2 ∧ KO w w2 ∧ Made w0 w2 e 1 ad' (n + s.size) (vs ++ Lib.strCells s) c' := by
  obtain ⟨ad', c', w2, hr, hko, hrow, hg, hor⟩ := h.row.pushStr (P := P) (ty := ty) hE hu s hb
  exact ⟨ad', c', w2, hr, hko, h.grown hrow hg hor⟩

end Go.Proofs.YtniiamobbgnjaaaDoor.Vc
