/-
  Appends to lists that only read as such; bytes.
-/
import Derived.Test.YthkcphnkllnfcaaDoorGi
set_option linter.unusedVariables false
set_option linter.unusedSimpArgs false
namespace Go.Proofs.YthkcphnkllnfcaaDoor.Vc
open Go Go.RowKit

/-- append(x[:n:n], y..): what x and y read as, in a new row (or x, where y is empty). -/
theorem app_cells {P : Program} {w : World} {t ty e : TypeId} {bytes : Nat} (hE : ElemOk P t e 1 bytes) {ad sa : Option Addr} {n m cx : Nat} {vs news : List Value} (h : CellsAt w ad vs) (hv : vs.length = n) (hc : CellsAt w sa news) (hl : news.length = m)
    (h1 : ∀ u ∈ news, u.oneCell' = true) (h63 : n + m ≤ maxLen) (hb : (n + m) * bytes ≤ 140737488355328) :
    ∃ a' c' w2, AppRun P #[t, t] ty (.slice ad n n) (.slice sa m cx) w a' (n + m) c' w2 ∧ KO w w2 ∧ Ext w w2 ∧ CellsAt w2 a' (vs ++ news) ∧ n + m ≤ c' := by
  obtain ⟨i, z, hi, hz, hsize, hby, hzs⟩ := hE.info
  have ht := hE.und
  subst hby
  by_cases hm : m = 0
  · subst hm
    have hn : news = [] := List.eq_nil_of_length_eq_zero hl
    subst hn
    refine ⟨ad, n, w, ?_, KOE.refl _ _, Ext.refl _, by simpa using h, Nat.le_refl _⟩
    have hfc : (Builtin.firstCells 1 0 (.slice sa 0 cx)).run P w = .ok #[] w := by
      cases sa with
      | none => rfl
      | some a => simp [Builtin.firstCells, loadCells, loadCellsFrom]
    unfold AppRun
    cases ad with
    | none => simp [Builtin.append_, run_underlying ht, sizeOf, typeInfo, hi, hsize, Builtin.lenOf, hfc]
    | some a => simp [Builtin.append_, run_underlying ht, sizeOf, typeInfo, hi, hsize, Builtin.lenOf, hfc, storeCells]
  · obtain ⟨b, o, rfl, hc2⟩ : ∃ b o, sa = some ⟨b, o, none⟩ ∧ ∀ (j : Nat) v, news[j]? = some v → w.cell? ((⟨b, o, none⟩ : Addr).add j) = some v := by
      rcases hc with hn | ⟨b, o, h1, h2⟩
      · subst hn; simp at hl; omega
      · exact ⟨b, o, h1, fun j v hv => by rw [add_lit]; exact h2 j v hv⟩
    have hsmall : n + m ≤ 9223372036854775807 := by simp only [maxLen] at h63; omega
    have hlen : (vs ++ news).length = n + m := by rw [List.length_append, hv, hl]
    have hext : ∀ (o : Obj), Ext w (w.drew.alloc o) := fun o => (Below.drew (Below.refl _ w)).alloc (by simp) o
    have hko : ∀ (o : Obj), KO w (w.drew.alloc o) := fun o => KO.below (hext o) (Nat.le_refl _)
    have cells : ∀ (zs : Array Value), CellsAt (w.drew.alloc (.cells ((vs ++ news).toArray ++ zs) e)) (some ⟨w.heap.size, 0, none⟩) (vs ++ news) := fun zs =>
      .inr ⟨w.heap.size, 0, rfl, fun j v hj => by
        have hg : (w.drew.alloc (.cells ((vs ++ news).toArray ++ zs) e)).heap[w.heap.size]? = some (.cells ((vs ++ news).toArray ++ zs) e) := heap_alloc_new w.drew _
        rw [Nat.zero_add, cell_of_heap hg]
        have hlt := (List.getElem?_eq_some_iff.1 hj).1
        rw [Array.getElem?_append_left (by simpa using hlt)]
        simpa using hj⟩
    cases ad with
    | none =>
      have hv0 : vs = [] := by
        rcases h with h | ⟨b', o', h1, _⟩
        · exact h
        · cases h1
      subst hv0
      simp only [List.length_nil] at hv
      subst hv
      have hr := run_append_nil (P := P) w t ty e i z ht hi hz ⟨b, o, none⟩ m cx news (by rw [hsize]; omega) hc2 (by omega) (by omega) (by simp only [Nat.zero_add] at hb; omega)
      have hge := grownCap_ge w m 0 e
      refine ⟨_, _, _, ?_, hko _, hext _, cells (Builtin.zeroCells z.cells (grownCap w m 0 e - m)), by simpa using hge⟩
      unfold AppRun
      simpa using hr
    | some a =>
      have holds : ∀ (j : Nat) u, vs[j]? = some u → w.cell? (a.add j) = some u := by
        intro j u hu
        rcases h with h0 | ⟨b', o', e1, e2⟩
        · subst h0; simp at hu
        · cases e1; rw [add_lit]; exact e2 j u hu
      have hr := run_append_grow (P := P) w t ty e i z ht hi hz a n n vs (by rw [hsize]; omega) holds ⟨b, o, none⟩ m cx news (by rw [hsize]; omega) hc2 (by omega) (by omega) (growslice_fits (by omega) (by omega))
      have hge := grownCap_ge w (n + m) n e
      have e1 : vs.toArray ++ news.toArray = (vs ++ news).toArray := by simp
      rw [e1] at hr
      exact ⟨_, _, _, hr, hko _, hext _, cells _, hge⟩

end Go.Proofs.YthkcphnkllnfcaaDoor.Vc
