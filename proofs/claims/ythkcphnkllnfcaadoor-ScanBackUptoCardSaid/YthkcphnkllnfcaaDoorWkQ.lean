/-
  Chapter 1: the law on the way back.
-/
import Derived.Test.YthkcphnkllnfcaaDoorWkP
import Derived.Test.YthkcphnkllnfcaaDoorUs
set_option linter.unusedVariables false
set_option linter.unusedSimpArgs false
namespace Go.Proofs.YthkcphnkllnfcaaDoor
open Go Go.RowKit Vc Ut

theorem ones_three {a b c q : Nat} : ones [a, b, c] q ↔ q = a ∨ q = b ∨ q = c := by simp [ones]

theorem lawBack_ok : sLawS.Ok Tryd.prog 8 := by
  refine lawBack_vc ⟨sback_ok, sall_ok, next_ok, last_ok, wakes_ok, trivial⟩ ?_
  rintro (s : ByteArray) w ⟨hU, hs⟩ b w1 hn1 b1 w2 hn2
  have hcn := cnt_le s
  have hal : (allN s).length = cnt s := by simp [allN]
  have hbl : (backN s).length = cnt s := back_len s
  have hut := hU.lt
  have z1 := hn1.size
  have z2 := hn2.size
  have hs2 := hn2.ext.heap hn1.heap
  have e02 : Ext w w2 := hn1.ext.trans hn2.ext
  refine ⟨s, box_cell hs2, s, rfl, trivial, ?_⟩
  rintro x w3 ⟨hx, hxs, e23⟩
  have hs3 := e23.heap hs2
  refine ⟨s, box_cell hs3, s, rfl, trivial, ?_⟩
  rintro y w4 ⟨hy, hys, e34⟩
  intro b2 w5 hn5 b3 w6 hn6
  have z5 := hn5.size
  have z6 := hn6.size
  have s23 := e23.size
  have s34 := e34.size
  have e46 := hn5.ext.trans hn6.ext
  have e36 := e34.trans e46
  have e06 := (e02.trans e23).trans e36
  have hU6 := hU.ext e06
  have hxl := heap_lt hxs
  have hyl := heap_lt hys
  dsimp only [ptrB]
  have h41 : (41 : TypeId) ≠ 3 := by decide
  have h26 : (26 : TypeId) ≠ 21 := by decide
  have hs6 := e36.heap hs3
  have hr6 : w6.heap[b1]? = some (.cells #[.bool false] 4) := (e23.trans e36).heap hn2.heap
  have hy6 := e46.heap hys
  have nd0 : ∀ q, q < b2 → ¬ (q = b2 ∨ q = b3 ∨ blk none = some q ∨ blk none = some q) := by
    rintro q hq (h | h | h | h)
    · omega
    · omega
    · cases h
    · cases h
  refine ⟨(backN s).map (atN s), (fun q => q = x ∨ q = 0 ∨ q = 1), (fun q => q = b2 ∨ q = b3 ∨ blk none = some q ∨ blk none = some q), back_iter (e36.heap hxs) hU6 (by omega), ⟨?_, ?_⟩,
    ⟨none, 0, none, 0, rfl, (⟨hn6.ext.heap hn5.heap, Row.nil _ _ _⟩ : Grow w6 b2 _ _ none 0 []), (⟨hn6.heap, Row.nil _ _ _⟩ : Grow w6 b3 _ _ none 0 [])⟩, ?_, ?_, ?_, ?_, trivial⟩
  · rintro q (h | h | h | h)
    · omega
    · omega
    · cases h
    · cases h
  · rintro q (rfl | rfl | rfl)
    · exact ⟨by omega, nd0 _ (by omega)⟩
    · exact ⟨by omega, nd0 _ (by omega)⟩
    · exact ⟨by omega, nd0 _ (by omega)⟩
  · rintro k D W W' ⟨a, ac, c, cc, rfl, hg, hh⟩ hsz hq
    exact ⟨a, ac, c, cc, rfl, hg.keep fun q hq' => hq q (.inr (hq'.elim .inl (fun h => .inr (.inr (.inl h))))), hh.keep fun q hq' => hq q (.inr (hq'.elim (fun h => .inr (.inl h)) (fun h => .inr (.inr (.inr h)))))⟩
  · rintro _ k D W W' h hsz hq
    exact h
  · rintro k p D W hp ⟨a, ac, c, cc, rfl, hg, hh⟩ hM
    have hkl : k < cnt s := by have := (List.getElem?_eq_some_iff.1 hp).1; simpa [hbl] using this
    have hln : (((((backN s).map (atN s)).take k).map fun p => Value.int .i64 (p.1 : Int))).length ≤ cnt s := by simp; omega
    have hln2 : (((((backN s).map (atN s)).take k).map fun p => Value.int .i32 p.2)).length ≤ cnt s := by simp; omega
    refine ⟨a, _, ac, box_cell hg.hb, fun b4 w7 hn7 => ?_⟩
    obtain ⟨a', ac', w8, hr, hko, ho, hfz, hpost⟩ := hg.push (P := Tryd.prog) (tt := 41) (ty := 41) elem64 h41 hn7 rfl (by unfold maxLen; omega) (by omega)
    refine ⟨a', ac', w8, hr, hko, rfl, ho, hfz, fun w9 hs9 => ?_⟩
    obtain ⟨hg9, hfr, hnew⟩ := hpost hs9
    have hne1 : b3 ≠ b2 := by omega
    have hh9 : Grow w9 b3 _ _ c cc _ := hh.fr hfr (by
      rintro q (rfl | hq) (h | h)
      · exact hne1 h
      · exact hg.row.off hh.hb (by decide) h
      · rw [h] at hq; exact hh.row.off hg.hb (by decide) hq
      · exact hg.row.off2 hh.row (by decide) h hq)
    refine ⟨c, _, cc, box_cell hh9.hb, fun b5 w10 hn10 => ?_⟩
    obtain ⟨c', cc', w11, hr2, hko2, ho2, hfz2, hpost2⟩ := hh9.push (P := Tryd.prog) (tt := 26) (ty := 26) elem32 h26 hn10 rfl (by unfold maxLen; omega) (by omega)
    refine ⟨c', cc', w11, hr2, hko2, rfl, ho2, hfz2, fun w12 hs12 => ?_⟩
    obtain ⟨hh12, hfr2, hnew2⟩ := hpost2 hs12
    have hg12 : Grow w12 b2 _ _ a' ac' _ := hg9.fr hfr2 (by
      rintro q (rfl | hq) (h | h)
      · exact hne1 h.symm
      · exact hh9.row.off hg9.hb (by decide) h
      · rw [h] at hq; exact hg9.row.off hh9.hb (by decide) hq
      · exact hh9.row.off2 hg9.row (by decide) h hq)
    have hsz := hfr.size
    refine ⟨_, ⟨(hfr.mono (fun x _ hx => hx.elim .inl (fun h => .inr (.inr (.inl h))))).trans hfr2 (fun x _ hx => hx.elim (fun h => .inr (.inl h)) (fun h => .inr (.inr (.inr h)))), ?_⟩, a', ac', c', cc', rfl, ?_, ?_⟩
    · rintro q (rfl | rfl | hq | hq)
      · exact ⟨heap_lt hg12.hb, .inl (.inl rfl)⟩
      · exact ⟨heap_lt hh12.hb, .inl (.inr (.inl rfl))⟩
      · exact ⟨hg12.row.lt hq, (hnew q hq).elim (fun h => .inl (.inr (.inr (.inl h)))) .inr⟩
      · exact ⟨hh12.row.lt hq, (hnew2 q hq).elim (fun h => .inl (.inr (.inr (.inr h)))) (fun h => .inr (Nat.le_trans hsz h))⟩
    · rw [take_snoc (f := fun p : Nat × Int => Value.int .i64 (p.1 : Int)) hp]; exact hg12
    · rw [take_snoc (f := fun p : Nat × Int => Value.int .i32 p.2) hp]; exact hh12
  · rintro D W ⟨a, ac, c, cc, rfl, hg, hh⟩ hM
    rw [lenX_eq, List.take_length, List.map_map] at hg hh
    have eW : Ext w W := hM.ext e06 (fun q hq => by
      rcases hq with h | h | h | h
      · omega
      · omega
      · cases h
      · cases h)
    have hsW := (hM.old (heap_lt hs6) (nd0 b (by omega))).trans hs6
    have hrW := (hM.old (heap_lt hr6) (nd0 b1 (by omega))).trans hr6
    have hyW := (hM.old (heap_lt hy6) (nd0 y (by omega))).trans hy6
    have hgl : ((backN s).map ((fun p : Nat × Int => Value.int .i64 (p.1 : Int)) ∘ atN s)).length = cnt s := by simp [hbl]
    have hhl : ((backN s).map ((fun p : Nat × Int => Value.int .i32 p.2) ∘ atN s)).length = cnt s := by simp [hbl]
    refine ⟨a, _, ac, box_cell hg.hb, ?_⟩
    intro b4 w7 hn7
    obtain ⟨p1, p2, p3⟩ := new_box hn7
    refine ⟨rfl, p1, p2, fun w8 hs8 => ?_⟩
    obtain ⟨e8, k4, hb4, z8⟩ := p3 hs8
    intro b5 w9 hn9
    obtain ⟨p1, p2, p3⟩ := new_box hn9
    refine ⟨rfl, p1, p2, fun w10 hs10 => ?_⟩
    obtain ⟨e10, k5, hb5, z10⟩ := p3 hs10
    have eW10 := e8.trans e10
    have e010 := eW.trans eW10
    have hU10 := hU.ext e010
    have hs10' := eW10.heap hsW
    have hr10 := eW10.heap hrW
    have hg10 := hg.ext eW10
    have hh10 := hh.ext eW10
    have k4' := e10.heap k4
    rw [hgl] at k4'
    have hsWz := hM.fr.size
    have lb : b2 < W.heap.size := heap_lt hg.hb
    have lb3 : b3 < W.heap.size := heap_lt hh.hb
    have nd : ∀ q, q < W.heap.size → q ≠ b1 → ¬ ones [b4, b5, b1] q := by
      rintro q hq h1 h
      rcases ones_three.1 h with h | h | h <;> omega
    refine ⟨(allN s).map (atN s), (fun q => q = y), ones [b4, b5, b1], all_iter (eW10.heap hyW), ⟨?_, ?_⟩, ⟨rfl, ?_, ?_, _, hr10⟩, ?_, ?_, ?_, ?_, ?_⟩
    · rintro q hq
      have := heap_lt hrW
      rcases ones_three.1 hq with rfl | rfl | rfl <;> omega
    · rintro q rfl
      have := heap_lt hyW
      exact ⟨by omega, nd _ this (by omega)⟩
    · rw [k4']; simp
    · rw [k5]; simp [pos]
    · rintro k D W W' ⟨rfl, ha, hb, v, hv⟩ hsz hq
      exact ⟨rfl, (hq b4 (.inr (ones_three.2 (.inl rfl)))).trans ha, (hq b5 (.inr (ones_three.2 (.inr (.inl rfl))))).trans hb, v, (hq b1 (.inr (ones_three.2 (.inr (.inr rfl))))).trans hv⟩
    · rintro _ k D W W' h hsz hq
      exact h
    · rintro k p D1 W1 hp ⟨rfl, ha, hb, v, hv⟩ hM1
      have hkl : k < cnt s := by have := (List.getElem?_eq_some_iff.1 hp).1; simpa [hal] using this
      have hp' : p = atN s k := by rw [List.getElem?_map, all_at hkl] at hp; simpa using hp.symm
      subst hp'
      have hps := cnt_lt.1 hkl
      have hpl := pos_le s k
      have d4 := dcN_le4 hps
      have d1 := dcN_pos s (pos s k)
      have dl := dcN_le hps
      have hbk : cnt s - 1 - (cnt s - 1 - k) = k := by omega
      have hba := back_at (s := s) (k := cnt s - 1 - k) (by omega)
      rw [hbk] at hba
      refine ⟨_, box_cell ha, inr_i64 (by omega) (by omega), rfl, box_old ha, box_free ha, fun w11 hs11 => ?_⟩
      have hdom := hM1.lt
      have st1 := Step.stored hs11 (ones_three.2 (.inl rfl)) hdom
      have hM2 := hM1.step st1
      have ha2 := hs11.box ha
      rw [show ((cnt s : Int) - k) - 1 = ((cnt s - 1 - k : Nat) : Int) from by omega] at ha2
      have hb2 := (hs11.other (k := b5) (by show b5 ≠ b4; omega)).trans hb
      have hv2 := (hs11.other (k := b1) (by show b1 ≠ b4; have := heap_lt hrW; omega)).trans hv
      have gk : ∀ q, q = b2 ∨ blk a = some q → ¬ ones [b4, b5, b1] q := by
        rintro q (rfl | hq)
        · exact nd _ lb (by omega)
        · exact nd q (hg.row.lt hq) (fun e => by subst e; exact hg.row.off hrW (by decide) hq)
      have hk' : ∀ q, q = b3 ∨ blk c = some q → ¬ ones [b4, b5, b1] q := by
        rintro q (rfl | hq)
        · exact nd _ lb3 (by omega)
        · exact nd q (hh.row.lt hq) (fun e => by subst e; exact hh.row.off hrW (by decide) hq)
      have hg2 := hg10.fr hM2.fr gk
      have hh2 := hh10.fr hM2.fr hk'
      have hs2' := (hM2.old (heap_lt hs10') (nd b (heap_lt hsW) (by omega))).trans hs10'
      have hut1 : ∀ q, q < w.heap.size → ¬ ones [b4, b5, b1] q := fun q hq => nd q (Nat.lt_of_lt_of_le hq eW.size) (by omega)
      have hU2 := hU10.fr hM2.fr (hut1 _ hut.1) (hut1 _ hut.2)
      refine ⟨?_, ?_⟩
      · refine ⟨_, box_cell ha2, bcase_mk (fun h => by simp only [decide_eq_true_eq] at h; omega) (fun _ => ?_)⟩
        refine ⟨_, _, _, box_cell hg2.hb, _, box_cell ha2, cnt s - 1 - k, rfl, by rw [hgl]; omega, hg2.row.cells.ptr (v := .int .i64 (pos s k : Int)) (by rw [List.getElem?_map, hba]; rfl) fun b6 o hb6 => ⟨_, hb6, ?_⟩⟩
        refine bcase_mk (fun h => by simp [atN] at h) (fun _ => ?_)
        refine ⟨_, _, _, box_cell hh2.hb, _, box_cell ha2, cnt s - 1 - k, rfl, by rw [hhl]; omega, hh2.row.cells.ptr (v := .int .i32 (dcR s (pos s k))) (by rw [List.getElem?_map, hba]; rfl) fun b6 o hb6 => ⟨_, hb6, ?_⟩⟩
        refine bcase_mk (fun h => by simp [atN] at h) (fun _ => ?_)
        exact ⟨_, box_cell hb2, (), by simp [atN], rfl⟩
      intro _ _ w12 hw12
      replace hw12 := hw12.symm
      subst hw12
      obtain ⟨q1, q2⟩ := drop_next hkl
      obtain ⟨q3, q4⟩ := ls_take (s := s) (m := k + 1) (by omega) (by omega)
      rw [show k + 1 - 1 = k from by omega] at q3 q4
      have hps1 := pos_succ hps
      refine ⟨s, box_cell hs2', pos s k, rfl, hpl, Nat.le_refl _, _, rfl, ⟨hU2, by rw [size_ext (Nat.le_refl _)]; omega⟩, ?_⟩
      rintro ⟨r, n⟩ w13 ⟨hr, hn, e1213⟩
      dsimp only at hr hn ⊢
      rw [q2] at hr; rw [q1] at hn
      subst hr hn
      have hs13 := e1213.heap hs2'
      refine ⟨s, box_cell hs13, inr_i64 (by simp only [atN]; omega) (by simp only [atN]; omega), pos s (k + 1), by simp only [atN]; omega, Nat.zero_le _, pos_le s (k + 1), _, rfl, ⟨hU2.ext e1213, by rw [size_ext (pos_le s (k + 1))]; have := pos_le s (k + 1); omega⟩, ?_⟩
      rintro ⟨r, n⟩ w14 ⟨hr, hn, e1314⟩
      dsimp only at hr hn ⊢
      rw [q3] at hr; rw [q4] at hn
      subst hr hn
      have e1214 := e1213.trans e1314
      have hs14 := e1214.heap hs2'
      have hb14 := e1214.heap hb2
      have ha14 := e1214.heap ha2
      have hv14 := e1214.heap hv2
      refine ⟨?_, ?_⟩
      · refine bcase_mk (fun h => by simp [atN] at h) (fun _ => ?_)
        refine bcase_mk (fun h => by simp [atN] at h) (fun _ => ?_)
        refine bcase_mk (fun h => by simp at h) (fun _ => ?_)
        refine bcase_mk (fun h => by simp only [decide_eq_true_eq] at h; omega) (fun _ => ?_)
        refine bcase_mk (fun h => by simp only [gt_iff_lt, decide_eq_true_eq] at h; omega) (fun _ => ?_)
        refine bcase_mk (fun h => ?_) (fun _ => ⟨(), rfl, rfl⟩)
        have h1 : dcN s (pos s k) = 1 := by simp only [beq_iff_eq] at h; omega
        have h2 := dc_one h1
        have hbt : bt s (pos s k) < 256 := UInt8.toNat_lt _
        refine ⟨s, box_cell hs14, pos s k, rfl, hps, inr_i32 (by omega) (by show (bt s (pos s k) : Int) ≤ _; omega), ?_⟩
        refine bcase_mk (fun h => ⟨(), ?_, rfl⟩) (fun _ => ⟨(), rfl, rfl⟩)
        by_cases h3 : bt s (pos s k) < 128
        · rw [if_pos h3] at h2
          exfalso
          have h4 : (atN s k).2 = ((s.data.toList.getD (pos s k) 0).toNat : Int) := h2
          rw [h4] at h
          simp at h
        · rw [if_neg h3] at h2
          simp [atN, h2]
      intro _ _ w15 hw15
      replace hw15 := hw15.symm
      subst hw15
      refine ⟨inr_i64 (by simp only [atN]; omega) (by simp only [atN]; omega), rfl, box_old hb14, box_free hb14, fun w16 hs16 => ?_⟩
      have st2 := st1.trans (Step.ext e1214 (fun q hq => (st1.dom q hq).1))
      refine ⟨_, st2.trans (Step.stored hs16 (ones_three.2 (.inr (.inl rfl))) (fun q hq => (st2.dom q hq).1)), rfl, ?_, ?_, v, ?_⟩
      · rw [hs16.other (k := b4) (by show b4 ≠ b5; omega), ha14, show ((cnt s - 1 - k : Nat) : Int) = (cnt s : Int) - ((k + 1 : Nat) : Int) from by omega]
      · rw [hs16.box hb14, hps1]; simp [atN]
      · rw [hs16.other (k := b1) (by show b1 ≠ b5; have := heap_lt hrW; omega)]; exact hv14
    · rintro D1 W1 ⟨rfl, ha, hb, v, hv⟩ hM1
      rw [lenX_eq, List.length_map, hal] at ha hb
      rw [pos_cnt] at hb
      have hs1 := (hM1.old (heap_lt hs10') (nd b (heap_lt hsW) (by omega))).trans hs10'
      have e1 := hM1.ext e010 (fun q hq => by have := eW.size; rcases ones_three.1 hq with h | h | h <;> omega)
      refine ⟨_, box_cell ha, bcase_mk (fun _ => ?_) (fun h => by simp at h)⟩
      refine ⟨_, box_cell hb, s, box_cell hs1, bcase_mk (fun _ => ?_) (fun h => by simp at h)⟩
      refine ⟨(), rfl, hU.ext e1, ?_⟩
      rintro _ W2 e2
      have hv2 := e2.heap hv
      exact ⟨rfl, box_old hv2, box_free hv2, fun W3 hs3 => ⟨_, box_cell (hs3.box hv2), fun W4 ht => ⟨(), rfl, Ext.turn ((e1.trans e2).stored hs3 (by show _ ≤ b1; omega)) ht⟩⟩⟩
    · rintro D1 W1 h
      cases h

end Go.Proofs.YthkcphnkllnfcaaDoor
