/-
  Chapter 1: the law on the language's own range.
-/
import Derived.Test.YthkcphnkllnfcaaDoorVgI
import Derived.Test.YthkcphnkllnfcaaDoorWkO
set_option linter.unusedVariables false
set_option linter.unusedSimpArgs false
namespace Go.Proofs.YthkcphnkllnfcaaDoor
open Go Go.RowKit Vc Ut

theorem lawLang_ok : sLawSL.Ok Tryd.prog 7 := by
  refine lawLang_vc ⟨runes_ok, sall_ok, same_ok, text_ok, wakes_ok, trivial⟩ ?_
  rintro ⟨s, l⟩ w ⟨hU, hl, hs, hn⟩
  dsimp only at hs hl hn ⊢
  have hcn := cnt_le s
  have hrl := runes_len s
  have hal : (allN s).length = cnt s := by simp [allN]
  have hut := hU.lt
  refine ⟨s, rfl, ⟨hU, by omega⟩, ?_⟩
  rintro ⟨ra, rn, rc⟩ w1 ⟨hrn, mr⟩
  dsimp only at hrn mr ⊢
  subst hrn
  refine ⟨s, rfl, trivial, ?_⟩
  rintro x w2 ⟨hx, hxs, e12⟩
  intro b w3 hn3
  have hb3 := hn3.size
  have e13 := e12.trans hn3.ext
  have e03 := mr.ext.trans e13
  have s1 := mr.ext.size
  have s2 := e12.size
  have hxl := heap_lt hxs
  have hr3 := mr.row.ext e13
  have lr : ∀ g, blk ra = some g → g < w1.heap.size := fun g hg => mr.row.lt hg
  dsimp only [ptrB]
  have h41 : (41 : TypeId) ≠ 3 := by decide
  refine ⟨(allN s).map (atN s), (fun q => q = x), (fun q => q = b ∨ blk none = some q), all_iter (hn3.ext.heap hxs), ⟨?_, ?_⟩, ⟨none, 0, rfl, (⟨hn3.heap, Row.nil _ _ _⟩ : Grow w3 b _ _ none 0 [])⟩, ?_, ?_, ?_, ?_, trivial⟩
  · rintro q (rfl | h)
    · omega
    · cases h
  · rintro q rfl
    refine ⟨by omega, ?_⟩
    rintro (h | h)
    · omega
    · cases h
  · rintro k D W W' ⟨a, c, rfl, hg⟩ hsz hq
    exact ⟨a, c, rfl, hg.keep fun q hq' => hq q (.inr hq')⟩
  · rintro _ k D W W' h hsz hq
    exact h
  · rintro k p D W hp ⟨a, c, rfl, hg⟩ hM
    have hkl : k < cnt s := by have := (List.getElem?_eq_some_iff.1 hp).1; simpa [hal] using this
    have hln : (((((allN s).map (atN s)).take k).map fun p => Value.int .i64 (p.1 : Int))).length ≤ cnt s := by simp; omega
    refine ⟨a, _, c, box_cell hg.hb, fun b1 w4 hn4 => ?_⟩
    obtain ⟨a', c', w5, hr, hko, ho, hfz, hpost⟩ := hg.push (P := Tryd.prog) (tt := 41) (ty := 41) elem64 h41 hn4 rfl (by unfold maxLen; omega) (by omega)
    refine ⟨a', c', w5, hr, hko, rfl, ho, hfz, fun w6 hs6 => ?_⟩
    obtain ⟨hg6, hfr, hnew⟩ := hpost hs6
    refine ⟨_, ⟨hfr, ?_⟩, a', c', rfl, ?_⟩
    · rintro q (rfl | hq)
      · exact ⟨heap_lt hg6.hb, .inl (.inl rfl)⟩
      · exact ⟨hg6.row.lt hq, (hnew q hq).elim (fun h => .inl (.inr h)) .inr⟩
    · rw [take_snoc (f := fun p : Nat × Int => Value.int .i64 (p.1 : Int)) hp]; exact hg6
  · rintro D W ⟨a, c, rfl, hg⟩ hM b1 w4 hn4
    rw [lenX_eq, List.take_length, List.map_map] at hg
    have eW : Ext w W := hM.ext e03 (fun q hq => by rcases hq with rfl | h; omega; cases h)
    have hb4 := hn4.size
    have hrW : Row W 21 1 ra (runes s).length ((runes s).map (Value.int .i32)) rc := hr3.fr hM.fr (fun q hqr => by
      rintro (h | h)
      · have := lr _ hqr; omega
      · cases h)
    have hgl : ((allN s).map ((fun p : Nat × Int => Value.int .i64 (p.1 : Int)) ∘ atN s)).length = cnt s := by simp [hal]
    refine ⟨⟨0, rfl, Nat.zero_le _, b1, rfl, Fr.refl _ _, hn4.heap⟩, ?_⟩
    rintro _ k w5 ⟨hk, b2, he, hf, hit⟩
    cases he
    have eW5 : Ext W w5 := Ext.fr_new hn4.ext hf (fun q hq => by subst hq; omega)
    refine ⟨s, pos s k, hit, bcase_mk (fun h => ?_) (fun h => ?_)⟩
    · have hp : pos s k < s.size := by simpa using h
      have hkc := cnt_lt.2 hp
      intro w6 hnx
      have hf6 : Fr (fun q => q = b1) w4 w6 := hf.trans hnx.fr (fun _ _ h => h)
      have eW6 : Ext W w6 := Ext.fr_new hn4.ext hf6 (fun q hq => by subst hq; omega)
      have hg6 := hg.ext eW6
      refine ⟨?_, ?_⟩
      · refine bcase_mk (fun h => by simp only [ge_iff_le, decide_eq_true_eq] at h; omega) (fun _ => ?_)
        refine ⟨k, rfl, by omega, (hrW.ext eW6).cells.int (i := k) (by omega) fun b2 o hb2 => ⟨_, hb2, ?_⟩⟩
        refine bcase_mk (fun h => by rw [runes_at hkc] at h; simp at h) (fun _ => ?_)
        refine ⟨_, _, _, box_cell hg6.hb, ?_⟩
        refine bcase_mk (fun h => by rw [hgl] at h; simp only [ge_iff_le, decide_eq_true_eq] at h; omega) (fun _ => ?_)
        refine ⟨_, _, _, box_cell hg6.hb, k, rfl, by rw [hgl]; exact hkc, hg6.row.cells.ptr (i := k) (v := .int .i64 (pos s k : Int)) ?_ fun b3 o3 hb3 => ⟨_, hb3, (), by simp, rfl⟩⟩
        rw [List.getElem?_map, all_at hkc]; rfl
      intro _ _ w7 hw7
      replace hw7 := hw7.symm
      subst hw7
      have hit6 := hnx.heap hit
      rw [← pos_succ hp] at hit6
      exact ⟨inr_i64 (by omega) (by omega), k + 1, by simp, ⟨hkc, b1, rfl, hf6, hit6⟩, by omega⟩
    · have hkc : k = cnt s := by
        have : ¬ k < cnt s := fun hh => by have := cnt_lt.1 hh; simp at h; omega
        omega
      intro w6 hd
      have hg5 := hg.ext eW5
      refine bcase_mk (fun _ => ?_) (fun h => by rw [hrl, hkc] at h; simp at h)
      refine ⟨_, _, _, box_cell hg5.hb, ?_⟩
      refine bcase_mk (fun _ => ?_) (fun h => by rw [hgl, hkc] at h; simp at h)
      refine ⟨by rw [runesV_len]; omega, fun c1 b3 w7 hnr => ?_⟩
      have mn := newRunes_made hnr
      have e67 := mn.ext
      have eW7 : Ext W w7 := (eW5.trans hd.ext).trans e67
      refine ⟨e67, ⟨⟨ra, rc, runes s⟩, ⟨some ⟨b3, 0, none⟩, c1, runes s⟩⟩, by rw [runesV_len, hrl], ⟨⟨(hrW.ext eW7).cells, by dsimp only; omega⟩, ⟨mn.row.cells, by dsimp only; omega⟩⟩, ?_⟩
      rintro t w8 ⟨ht, e78⟩
      simp only [decide_true] at ht
      subst ht
      refine bcase_mk (fun _ => ?_) (fun h => by cases h)
      have e08 : Ext w w8 := (eW.trans eW7).trans e78
      have hl8 := hl.ext e08
      have fin : ∀ {w9 : World}, Ext w8 w9 → ∃ (g5 : Unit), (#[] : Array Value) = #[] ∧ U8 w9 ∧ ∀ (x5 : Unit) (w'5 : World), Ext w9 w'5 → ∀ (w2 : World), Turn w.heap.size w'5 w2 → ∃ (x6 : Unit), Value.bool true = Value.bool true ∧ Ext w w2 :=
        fun e => ⟨(), rfl, hU.ext (e08.trans e), fun _ _ e2 _ ht => ⟨(), rfl, Ext.turn ((e08.trans e).trans e2) ht⟩⟩
      refine ⟨?_, ?_⟩
      · refine ⟨⟨l.ad, l.c, l.xs⟩, rfl, ⟨⟨hl8, by dsimp only; omega⟩, by dsimp only; omega⟩, ?_⟩
        rintro y w9 ⟨rfl, e89⟩
        refine ⟨e89, l.xs, runesIn_of (hl8.ext e89), Ext.refl _, ?_⟩
        exact bcase_mk (fun _ => fin e89) (fun h => by simp at h)
      · refine ⟨l.xs, runesIn_of hl8, Ext.refl _, ⟨l.ad, l.c, l.xs⟩, rfl, ⟨⟨hl8, by dsimp only; omega⟩, by dsimp only; omega⟩, ?_⟩
        rintro y w9 ⟨rfl, e89⟩
        exact ⟨e89, bcase_mk (fun _ => fin e89) (fun h => by simp at h)⟩

end Go.Proofs.YthkcphnkllnfcaaDoor
