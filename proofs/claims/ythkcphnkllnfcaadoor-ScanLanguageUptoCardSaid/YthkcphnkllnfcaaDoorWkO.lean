/-
  Chapter 1: the law on iterators.
-/
import Derived.Test.YthkcphnkllnfcaaDoorVgF
import Derived.Test.YthkcphnkllnfcaaDoorWkH
import Derived.Test.YthkcphnkllnfcaaDoorGg
set_option linter.unusedVariables false
set_option linter.unusedSimpArgs false
namespace Go.Proofs.YthkcphnkllnfcaaDoor
open Go Go.RowKit Vc Ut

/-- What the law's variables hold. -/
structure GB (s : ByteArray) (n : Int) (al bl : Option Addr) (ac bc b1 b2 b3 b4 b5 x y : Nat) (W : World) : Prop where
  h1 : W.heap[b1]? = some (.cells #[.slice al (allN s).length ac] 32)
  h2 : W.heap[b2]? = some (.cells #[.slice bl (backN s).length bc] 32)
  h3 : W.heap[b3]? = some (.cells #[.int .i64 n] 3)
  h4 : W.heap[b4]? = some (.cells #[itV 54 x] 35)
  h5 : W.heap[b5]? = some (.cells #[itV 55 y] 35)
  hx : W.heap[x]? = some (.cells #[.string s] 9)
  hy : W.heap[y]? = some (.cells #[.string s] 9)
  ca : CellsAt W al ((allN s).flatMap (oneV s))
  cb : CellsAt W bl ((backN s).flatMap (oneV s))
  u : U8 W

theorem GB.fr {s : ByteArray} {n : Int} {al bl : Option Addr} {ac bc b1 b2 b3 b4 b5 x y : Nat} {W W' : World} {S : Nat → Prop} (h : GB s n al bl ac bc b1 b2 b3 b4 b5 x y W) (hf : Fr S W W')
    (hS : ∀ q, q = b1 ∨ q = b2 ∨ q = b3 ∨ q = b4 ∨ q = b5 ∨ q = x ∨ q = y ∨ blk al = some q ∨ blk bl = some q ∨ q = 0 ∨ q = 1 → ¬ S q) : GB s n al bl ac bc b1 b2 b3 b4 b5 x y W' where
  h1 := (hf.block _ (heap_lt h.h1) (hS _ (by simp))).trans h.h1
  h2 := (hf.block _ (heap_lt h.h2) (hS _ (by simp))).trans h.h2
  h3 := (hf.block _ (heap_lt h.h3) (hS _ (by simp))).trans h.h3
  h4 := (hf.block _ (heap_lt h.h4) (hS _ (by simp))).trans h.h4
  h5 := (hf.block _ (heap_lt h.h5) (hS _ (by simp))).trans h.h5
  hx := (hf.block _ (heap_lt h.hx) (hS _ (by simp))).trans h.hx
  hy := (hf.block _ (heap_lt h.hy) (hS _ (by simp))).trans h.hy
  ca := h.ca.fr hf (fun g hg => hS g (by simp [hg]))
  cb := h.cb.fr hf (fun g hg => hS g (by simp [hg]))
  u := h.u.fr hf (hS _ (by simp)) (hS _ (by simp))
theorem GB.ext {s : ByteArray} {n : Int} {al bl : Option Addr} {ac bc b1 b2 b3 b4 b5 x y : Nat} {W W' : World} (h : GB s n al bl ac bc b1 b2 b3 b4 b5 x y W) (hx : Ext W W') : GB s n al bl ac bc b1 b2 b3 b4 b5 x y W' :=
  h.fr (Fr.of_ext (S := fun _ => False) hx) (fun _ _ h => h)

theorem lawGoes_ok : sLawSI.Ok Tryd.prog 6 := by
  refine lawGoes_vc ⟨all_ok, rback_ok, sall_ok, sback_ok, goes_ok, wakes_ok, trivial⟩ ?_
  rintro ⟨s, i⟩ w ⟨hU, hs⟩
  dsimp only at hs ⊢
  have hcn := cnt_le s
  have hal : (allN s).length = cnt s := by simp [allN]
  have hbl : (backN s).length = cnt s := back_len s
  have hz : s.size ≤ 67108864 := by omega
  intro b w1 hn1
  have r1 := hn1.heap
  have hb := hn1.size
  have hU1 := hU.ext hn1.ext
  refine ⟨s, rfl, ⟨hU1, hz⟩, ?_⟩
  rintro ⟨al, an, ac⟩ w2 ⟨han, ma⟩
  dsimp only at han ma ⊢
  subst han
  have r2 := ma.ext.heap r1
  intro b1 w3 hn3
  obtain ⟨p1, p2, p3⟩ := new_box hn3
  refine ⟨rfl, p1, p2, fun w4 hs4 => ?_⟩
  obtain ⟨e24, k1, hb1, z1⟩ := p3 hs4
  have hU4 := (hU1.ext ma.ext).ext e24
  refine ⟨s, rfl, ⟨hU4, hz⟩, ?_⟩
  rintro ⟨bl, bn, bc⟩ w5 ⟨hbn, mb⟩
  dsimp only at hbn mb ⊢
  subst hbn
  intro b2 w6 hn6
  obtain ⟨p1, p2, p3⟩ := new_box hn6
  refine ⟨rfl, p1, p2, fun w7 hs7 => ?_⟩
  obtain ⟨e57, k2, hb2, z2⟩ := p3 hs7
  have k1' := e57.heap (mb.ext.heap k1)
  refine ⟨_, _, _, box_cell k1', ?_⟩
  intro b3 w8 hn8
  obtain ⟨p1, p2, p3⟩ := new_box hn8
  refine ⟨rfl, p1, p2, fun w9 hs9 => ?_⟩
  obtain ⟨e79, k3, hb3, z3⟩ := p3 hs9
  generalize (if ((allN s).length : Int) < if (0 : Int) > i then (0 : Int) else i then ((allN s).length : Int) else if (0 : Int) > i then (0 : Int) else i) = n at k3
  refine ⟨s, rfl, trivial, ?_⟩
  rintro x w10 ⟨hx, hxs, e910⟩
  intro b4 w11 hn11
  obtain ⟨p1, p2, p3⟩ := new_box hn11
  refine ⟨rfl, p1, p2, fun w12 hs12 => ?_⟩
  obtain ⟨e1012, k4, hb4, z4⟩ := p3 hs12
  refine ⟨s, rfl, trivial, ?_⟩
  rintro y w13 ⟨hy, hys, e1213⟩
  intro b5 w14 hn14
  obtain ⟨p1, p2, p3⟩ := new_box hn14
  refine ⟨rfl, p1, p2, fun w15 hs15 => ?_⟩
  obtain ⟨e1315, k5, hb5, z5⟩ := p3 hs15
  have e1215 := e1213.trans e1315
  have e1015 := e1012.trans e1215
  have e915 := e910.trans e1015
  have e715 := e79.trans e915
  have e515 := e57.trans e715
  have e415 := mb.ext.trans e515
  have e215 := e24.trans e415
  have e115 := ma.ext.trans e215
  have e015 := hn1.ext.trans e115
  have hg : GB s n al bl ac bc b1 b2 b3 b4 b5 x y w15 :=
    ⟨e715.heap k1', e715.heap k2, e915.heap k3, e1215.heap k4, k5, e1015.heap hxs, e1315.heap hys, ma.row.cells.ext e215, mb.row.cells.ext e515, hU.ext e015⟩
  have rb := e115.heap r1
  have s1 := ma.ext.size
  have s2 := mb.ext.size
  have s3 := e910.size
  have s4 := e1213.size
  have lal : ∀ q, blk al = some q → b < q ∧ q < w2.heap.size := fun q hq => ⟨by have := ma.new q hq; omega, ma.row.lt hq⟩
  have lbl : ∀ q, blk bl = some q → b < q ∧ q < w5.heap.size := fun q hq => ⟨by have := mb.new q hq; omega, mb.row.lt hq⟩
  have hxl := heap_lt hxs
  have hyl := heap_lt hys
  have hut := hU.lt
  refine ⟨?_, ?_⟩
  · refine ⟨_, box_cell hg.h4, _, _, _, box_cell hg.h1, _, box_cell hg.h3, ⟨54, x, s, allN s, _, al, ac, n⟩, rfl, ⟨all_iter hg.hx, fun q hq => by subst hq; exact heap_lt hg.hx, hg.ca, by dsimp only; omega⟩, ?_⟩
    rintro _ u1 f1
    have g1 := hg.ext f1
    refine ⟨_, box_cell g1.h5, _, _, _, box_cell g1.h2, _, box_cell g1.h3, ⟨55, y, s, backN s, _, bl, bc, n⟩, rfl, ⟨back_iter g1.hy g1.u hz, fun q hq => by rcases hq with rfl | rfl | rfl; exact heap_lt g1.hy; exact g1.u.lt.1; exact g1.u.lt.2, g1.cb, by dsimp only; omega⟩, ?_⟩
    rintro _ u2 f2
    have g2 := g1.ext f2
    refine ⟨_, box_cell g2.h4, _, _, _, box_cell g2.h1, ⟨54, x, s, allN s, _, al, ac, -1⟩, rfl, ⟨all_iter g2.hx, fun q hq => by subst hq; exact heap_lt g2.hx, g2.ca, by dsimp only; omega⟩, ?_⟩
    rintro _ u3 f3
    have g3 := g2.ext f3
    refine ⟨_, box_cell g3.h5, _, _, _, box_cell g3.h2, ⟨55, y, s, backN s, _, bl, bc, -1⟩, rfl, ⟨back_iter g3.hy g3.u hz, fun q hq => by rcases hq with rfl | rfl | rfl; exact heap_lt g3.hy; exact g3.u.lt.1; exact g3.u.lt.2, g3.cb, by dsimp only; omega⟩, ?_⟩
    rintro _ u4 f4
    exact ⟨(), rfl, ((f1.trans f2).trans f3).trans f4⟩
  intro _ _ w16 e1516
  have hg16 := hg.ext e1516
  have rb16 := e1516.heap rb
  have s5 := e1516.size
  intro b6 w17 hn17
  obtain ⟨p1, p2, p3⟩ := new_box hn17
  refine ⟨rfl, p1, p2, fun w18 hs18 => ?_⟩
  obtain ⟨e1618, k6, hb6, z6⟩ := p3 hs18
  have hg18 := hg16.ext e1618
  have rb18 := e1618.heap rb16
  have e018 : Ext w w18 := (e015.trans e1516).trans e1618
  dsimp only [ptrB]
  have nd : ∀ q, q = b1 ∨ q = b2 ∨ q = b3 ∨ q = b4 ∨ q = b5 ∨ q = x ∨ q = y ∨ blk al = some q ∨ blk bl = some q ∨ q = 0 ∨ q = 1 → ¬ ones [b6, b] q := by
    rintro q hq h
    have hq2 : q < b6 ∧ q ≠ b := by
      rcases hq with rfl | rfl | rfl | rfl | rfl | rfl | rfl | h | h | rfl | rfl
      case inr.inr.inr.inr.inr.inr.inr.inl => have := lal q h; omega
      case inr.inr.inr.inr.inr.inr.inr.inr.inl => have := lbl q h; omega
      all_goals omega
    rcases ones_two.1 h with h | h <;> omega
  refine ⟨_, box_cell hg18.h4, (allN s).map (atN s), (fun q => q = x), ones [b6, b], all_iter hg18.hx, ⟨?_, ?_⟩, ⟨rfl, k6, _, rb18⟩, ?_, ?_, ?_, ?_, ?_⟩
  · rintro q hq; rcases ones_two.1 hq with rfl | rfl <;> omega
  · rintro q rfl
    exact ⟨heap_lt hg18.hx, nd _ (by simp)⟩
  · rintro k D W W' ⟨rfl, ha, v, hv⟩ hsz hq
    exact ⟨rfl, (hq b6 (.inr (ones_two.2 (.inl rfl)))).trans ha, v, (hq b (.inr (ones_two.2 (.inr rfl)))).trans hv⟩
  · rintro _ k D W W' h hsz hq
    exact h
  · rintro k p D W hp ⟨rfl, ha, v, hv⟩ hM
    have hgW := hg18.fr hM.fr nd
    have hkl : k < (allN s).length := by have := (List.getElem?_eq_some_iff.1 hp).1; simpa using this
    obtain ⟨m, hm⟩ : ∃ m, (allN s)[k]? = some m := ⟨_, List.getElem?_eq_getElem hkl⟩
    have hp' : p = atN s m := by rw [List.getElem?_map, hm] at hp; simpa using hp.symm
    subst hp'
    refine ⟨?_, ?_⟩
    · refine ⟨_, box_cell ha, _, box_cell hgW.h3, ?_⟩
      refine bcase_mk (fun _ => ?_) (fun _ => ⟨(), rfl, Ext.refl _⟩)
      refine ⟨_, box_cell hgW.h4, _, _, _, box_cell hgW.h1, ⟨54, x, s, allN s, _, al, ac, -1⟩, rfl, ⟨all_iter hgW.hx, fun q hq => by subst hq; exact heap_lt hgW.hx, hgW.ca, by dsimp only; omega⟩, ?_⟩
      rintro _ u3 f3
      have g3 := hgW.ext f3
      refine ⟨_, box_cell g3.h5, _, _, _, box_cell g3.h2, ⟨55, y, s, backN s, _, bl, bc, -1⟩, rfl, ⟨back_iter g3.hy g3.u hz, fun q hq => by rcases hq with rfl | rfl | rfl; exact heap_lt g3.hy; exact g3.u.lt.1; exact g3.u.lt.2, g3.cb, by dsimp only; omega⟩, ?_⟩
      rintro _ u4 f4
      exact ⟨(), rfl, f3.trans f4⟩
    intro _ _ W1 eW
    have hgW1 := hgW.ext eW
    have ha1 := eW.heap ha
    have hv1 := eW.heap hv
    refine ⟨?_, ?_⟩
    · refine ⟨_, box_cell ha1, _, _, _, box_cell hgW1.h1, ?_⟩
      refine bcase_mk (fun h => by simp only [ge_iff_le, decide_eq_true_eq] at h; omega) (fun _ => ?_)
      refine ⟨_, _, _, box_cell hgW1.h1, _, box_cell ha1, k, rfl, hkl, hgW1.ca.fld (j := 0) (one_cell (s := s) (j := 0) hm rfl) fun b4 o hb4 => ⟨_, hb4, ?_⟩⟩
      refine bcase_mk (fun h => by simp [atN] at h) (fun _ => ?_)
      refine ⟨_, _, _, box_cell hgW1.h1, _, box_cell ha1, k, rfl, hkl, hgW1.ca.fld (one_cell (s := s) (j := 1) hm rfl) fun b5 o5 hb5 => ⟨_, hb5, (), by simp [atN], rfl⟩⟩
    intro _ _ W2 hW2
    replace hW2 := hW2.symm
    subst hW2
    refine ⟨_, box_cell ha1, inr_i64 (by omega) (by omega), rfl, box_old ha1, box_free ha1, fun W3 hs3 => ?_⟩
    have st1 := Step.ext eW hM.lt
    refine ⟨_, st1.trans (Step.stored hs3 (ones_two.2 (.inl rfl)) (fun q hq => (st1.dom q hq).1)), rfl, ?_, v, (hs3.other (k := b) (by show b ≠ b6; omega)).trans hv1⟩
    have := hs3.box ha1
    simpa using this
  · rintro D W ⟨rfl, ha, v, hv⟩ hM
    have hgW := hg18.fr hM.fr nd
    have eW := hM.ext e018 (fun q hq => by rcases ones_two.1 hq with h | h <;> omega)
    refine ⟨_, box_cell ha, _, _, _, box_cell hgW.h1, ?_⟩
    refine bcase_mk (fun _ => ?_) (fun h => by rw [lenX_eq, List.length_map] at h; simp at h)
    refine ⟨(), rfl, hgW.u, ?_⟩
    rintro _ W1 eW1
    have hv1 := eW1.heap hv
    exact ⟨rfl, box_old hv1, box_free hv1, fun W2 hs2 => ⟨_, box_cell (hs2.box hv1), fun W3 ht => ⟨(), rfl, Ext.turn ((eW.trans eW1).stored hs2 (by show _ ≤ b; omega)) ht⟩⟩⟩
  · rintro D W h
    cases h

end Go.Proofs.YthkcphnkllnfcaaDoor
