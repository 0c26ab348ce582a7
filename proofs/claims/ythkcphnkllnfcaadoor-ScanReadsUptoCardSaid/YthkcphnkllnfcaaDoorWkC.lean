/-
  Chapter 1: iterators.
-/
import Derived.Test.YthkcphnkllnfcaaDoorVgC
import Derived.Test.YthkcphnkllnfcaaDoorWkB
import Derived.Test.YthkcphnkllnfcaaDoorGi
set_option linter.unusedVariables false
set_option linter.unusedSimpArgs false
namespace Go.Proofs.YthkcphnkllnfcaaDoor
open Go Go.RowKit Vc Ut

theorem xs_at (s : ByteArray) (l : List Nat) {k n : Nat} (h : l[k]? = some n) : (((l.map (atN s)).map encIt).getD k []) = [.int .i64 (pos s n), .int .i32 (dcR s (pos s n))] := by
  simp only [List.getD_eq_getElem?_getD, List.getElem?_map, h]; rfl
theorem xs_len (s : ByteArray) (l : List Nat) : ((l.map (atN s)).map encIt).length = l.length := by simp

theorem itAll_ok : itAll.Ok Tryd.prog 54 := by
  refine itAll_vc trivial ?_
  rintro ⟨s, bx⟩ i W hb hi
  dsimp only at hb hi ⊢
  refine ⟨s, box_cell hb, fun r w1 hn => ?_⟩
  have hr : r = W.heap.size := hn.1
  have hlen : (((allN s).map (atN s)).map encIt).length = cnt s := by rw [xs_len]; simp [allN]
  refine ⟨⟨(0, i.D0), Nat.zero_le _, hi.stab 0 i.D0 W w1 hi.j0 hn.ext.size (fun q hq => hn.ext.block q (hq.elim id (hi.d0 q))), Mid.start hn.ext hi.d0, r, rfl, by omega, fun h => by have := hi.d0 r h; omega, hn.heap⟩, ?_⟩
  rintro _ ⟨n, D⟩ w2 ⟨hn1, hJ, hM, r', hr', hB, hD, hit⟩
  dsimp only at hn1 hJ hM hD hit ⊢
  obtain rfl : r = r' := by simpa using hr'
  refine ⟨s, pos s n, hit, ?_⟩
  refine bcase_mk (fun h => ?_) (fun h => ?_)
  · have hp : pos s n < s.size := by simpa using h
    have hlt := cnt_lt.2 hp
    intro w3 hnx
    have hJ3 := hi.stab n D w2 w3 hJ (by rw [hnx.size]; exact Nat.le_refl _) (fun q hq => hnx.other (by rintro rfl; exact hq.elim (fun h => by omega) hD))
    have hM3 := hM.own hnx.fr (fun q hq => by omega)
    have hit3 := hnx.heap hit
    rw [← pos_succ hp] at hit3
    refine ⟨rfl, (n, D), (xs_at s (allN s) (all_at hlt)).symm, ⟨by dsimp only; rw [hlen]; exact hlt, hJ3, hM3⟩, ?_⟩
    rintro b1 w4 ⟨D', hst, h1, h2⟩
    dsimp only at hst h1 h2
    have hM4 := hM3.step hst
    refine bcase_mk (fun hb1 => ?_) (fun hb1 => ?_)
    · exact ⟨D', hM4, .inr (h2 (by simpa using hb1))⟩
    · have hrl := heap_lt hit3
      refine ⟨(n + 1, D'), ⟨by dsimp only; omega, h1 (by simpa using hb1), hM4, r, rfl, hB, ?_, ?_⟩, by dsimp only; omega⟩
      · intro hd'; exact (hst.dom r hd').2.elim hD (fun h => by omega)
      · exact (hst.fr.block r hrl hD).trans hit3
  · have hn2 := cnt_end (s := s) (by simpa using h) hn1
    subst hn2
    exact ⟨D, hM, .inl (by rw [hlen]; exact hJ)⟩

theorem ls_take {s : ByteArray} {m : Nat} (h0 : 0 < m) (hm : m ≤ cnt s) : lsR (s.extract 0 (pos s m)) = dcR s (pos s (m - 1)) ∧ lsN (s.extract 0 (pos s m)) = dcN s (pos s (m - 1)) := by
  unfold lsR lsN dcR dcN
  rw [cnt_take hm, if_neg (by omega), if_neg (by omega), pos_take (by omega) hm, dc_take (by omega) hm]
  exact ⟨rfl, rfl⟩

theorem itBack_ok : itBack.Ok Tryd.prog 55 := by
  refine itBack_vc ⟨decl_ok, trivial⟩ ?_
  rintro ⟨s, bx⟩ i W ⟨hb, hU, hsm⟩ hi
  dsimp only at hb hU hsm hi ⊢
  have hlen : (((backN s).map (atN s)).map encIt).length = cnt s := by rw [xs_len, back_len]
  have hps : pos s (cnt s) = s.size := pos_cnt s
  refine ⟨s, box_cell hb, ⟨(0, i.D0), by dsimp only; rw [Nat.sub_zero, hps], Nat.zero_le _, hi.j0, Mid.start (Ext.refl _) hi.d0⟩, ?_⟩
  rintro _ ⟨k, D⟩ w1 ⟨hk, hJ, hM⟩
  dsimp only at hk hJ hM ⊢
  have hUw : U8 w1 := hU.fr hM.fr (hi.cd _ (.inr (.inl rfl))) (hi.cd _ (.inr (.inr rfl)))
  have hbw : w1.heap[bx]? = some (.cells #[.string s] 9) := (hM.old (heap_lt hb) (hi.cd bx (.inl rfl))).trans hb
  have hple := pos_le s (cnt s - k)
  refine bcase_mk (fun h => ?_) (fun h => ?_)
  · have hp : 0 < pos s (cnt s - k) := by simp only [gt_iff_lt, decide_eq_true_eq] at h; omega
    have hk1 : k < cnt s := by
      by_cases e : k < cnt s
      · exact e
      · rw [show cnt s - k = 0 from by omega] at hp; simp [pos] at hp
    obtain ⟨e1, e2⟩ := ls_take (s := s) (m := cnt s - k) (by omega) (by omega)
    refine ⟨s, box_cell hbw, pos s (cnt s - k), rfl, Nat.zero_le _, hple, _, rfl, ⟨hUw, by rw [size_ext hple]; omega⟩, ?_⟩
    rintro ⟨r, n⟩ w2 ⟨hr, hn, hw2⟩
    dsimp only at hr hn ⊢
    rw [e1] at hr; rw [e2] at hn
    subst hr hn
    have hs1 : pos s (cnt s - k) = pos s (cnt s - k - 1) + dcN s (pos s (cnt s - k - 1)) := by
      have := pos_succ (s := s) (n := cnt s - k - 1) (cnt_lt.1 (by omega))
      rwa [show cnt s - k - 1 + 1 = cnt s - k from by omega] at this
    have e3 : (pos s (cnt s - k) : Int) - (dcN s (pos s (cnt s - k - 1)) : Int) = (pos s (cnt s - k - 1) : Int) := by omega
    rw [e3]
    have hJ2 := hi.stab k D w1 w2 hJ hw2.size (fun q hq => hw2.block q (hq.elim (fun h => Nat.lt_of_lt_of_le h hM.fr.size) (hM.lt q)))
    have hM2 := hM.own (Fr.of_ext (S := fun _ => False) hw2) (fun q hq => hq.elim)
    refine ⟨inr_i64 (by omega) (by omega), rfl, (k, D), ?_, ⟨by dsimp only; rw [hlen]; exact hk1, hJ2, hM2⟩, ?_⟩
    · rw [xs_at s (backN s) (back_at hk1), show cnt s - k - 1 = cnt s - 1 - k from by omega]
    rintro b1 w3 ⟨D', hst, h1, h2⟩
    dsimp only at hst h1 h2
    have hM3 := hM2.step hst
    refine bcase_mk (fun hb1 => ?_) (fun hb1 => ?_)
    · exact ⟨D', hM3, .inr (h2 (by simpa using hb1))⟩
    · refine ⟨(k + 1, D'), by dsimp only; rw [show cnt s - (k + 1) = cnt s - k - 1 from by omega], ⟨by dsimp only; omega, h1 (by simpa using hb1), hM3⟩, by dsimp only; omega⟩
  · have hp : pos s (cnt s - k) = 0 := by simp only [gt_iff_lt, decide_eq_false_iff_not] at h; omega
    have hk1 : k = cnt s := by
      by_cases e : k = cnt s
      · exact e
      · have := pos_strict (s := s) (m := 0) (n := cnt s - k) (by omega) (by omega)
        have := dcN_pos s (pos s 0); omega
    subst hk1
    exact ⟨D, hM, .inl (by rw [hlen]; exact hJ)⟩

theorem sall_ok : (sIter 54).Ok Tryd.prog 29 := by
  refine sall_vc trivial ?_
  rintro s w _ b w1 hn
  exact ⟨b, rfl, by have := hn.1; omega, hn.heap, hn.ext⟩
theorem sback_ok : (sIter 55).Ok Tryd.prog 30 := by
  refine sback_vc trivial ?_
  rintro s w _ b w1 hn
  exact ⟨b, rfl, by have := hn.1; omega, hn.heap, hn.ext⟩

/-- An iterator that was made, ranged over later. -/
theorem all_iter {s : ByteArray} {b : Nat} {w : World} (h : w.heap[b]? = some (.cells #[.string s] 9)) : IterAt Tryd.prog (itV 54 b) (((allN s).map (atN s)).map encIt) (fun q => q = b) w :=
  itAll_ok (s, b) w h (fun q hq => by cases hq; exact heap_lt h) (fun W _ hq => (hq b rfl).trans h)
theorem back_iter {s : ByteArray} {b : Nat} {w : World} (h : w.heap[b]? = some (.cells #[.string s] 9)) (hU : U8 w) (hs : s.size ≤ 67108864) :
    IterAt Tryd.prog (itV 55 b) (((backN s).map (atN s)).map encIt) (fun q => q = b ∨ q = 0 ∨ q = 1) w := by
  refine itBack_ok (s, b) w ⟨h, hU, hs⟩ (fun q hq => ?_) (fun W hW hq => ⟨(hq b (.inl rfl)).trans h, ?_, hs⟩)
  · rcases hq with rfl | rfl | rfl
    · exact heap_lt h
    · exact hU.lt.1
    · exact hU.lt.2
  · have k : ∀ (g o : Nat) (v : Value), itBack.C (s, b) g → w.cell? ⟨g, o, none⟩ = some v → W.cell? ⟨g, o, none⟩ = some v := fun g o v hg hc =>
      (World.cell?_of_block (w := w) (hq g hg)).trans hc
    exact ⟨fun c hc => k _ _ _ (.inr (.inl rfl)) (hU.1 c hc), fun i hi => ⟨k _ _ _ (.inr (.inr rfl)) (hU.2 i hi).1, k _ _ _ (.inr (.inr rfl)) (hU.2 i hi).2⟩⟩

theorem ones_two {a b q : Nat} : ones [a, b] q ↔ q = a ∨ q = b := by simp [ones]

theorem last_ok : (sDec lsR lsN).Ok Tryd.prog 15 := by
  refine last_vc ⟨sback_ok, trivial⟩ ?_
  rintro (s : ByteArray) w ⟨hU, hsm⟩ b w1 hn b1 w2 hn1 b2 w3 hn2
  have hb := hn.1; have hb1 := hn1.1; have hb2 := hn2.1
  have hs1 := hn.size; have hs2 := hn1.size; have hs3 := hn2.size
  have e3 : Ext w w3 := (hn.ext.trans hn1.ext).trans hn2.ext
  have hbx := (hn1.ext.trans hn2.ext).heap hn.heap
  refine ⟨s, box_cell hbx, s, rfl, trivial, ?_⟩
  rintro x w4 ⟨hx, hxs, hw4⟩
  have e4 := e3.trans hw4
  have h1 : w4.heap[b1]? = some (.cells #[.int .i32 0] 21) := hw4.heap (hn2.ext.heap hn1.heap)
  have h2 : w4.heap[b2]? = some (.cells #[.int .i64 0] 3) := hw4.heap hn2.heap
  have hbx4 := hw4.heap hbx
  have hl2 := heap_lt h2
  have hU4 := hU.ext e4
  have hUl := hU.lt
  dsimp only [ptrB]
  refine ⟨(backN s).map (atN s), _, ones [b1, b2], back_iter hxs hU4 hsm, ⟨?_, ?_⟩, ⟨rfl, rfl, rfl, rfl⟩, ?_, ?_, ?_, ?_, ?_⟩
  · rintro q hq; rcases ones_two.1 hq with rfl | rfl <;> omega
  · rintro q (rfl | rfl | rfl)
    · exact ⟨heap_lt hxs, fun hq => by rcases ones_two.1 hq with h | h <;> omega⟩
    · exact ⟨hU4.lt.1, fun hq => by rcases ones_two.1 hq with h | h <;> omega⟩
    · exact ⟨hU4.lt.2, fun hq => by rcases ones_two.1 hq with h | h <;> omega⟩
  · rintro k D W W' ⟨rfl, rfl, ha, hb⟩ hsz hq
    exact ⟨rfl, rfl, (hq b1 (.inr (ones_two.2 (.inl rfl)))).trans ha, (hq b2 (.inr (ones_two.2 (.inr rfl)))).trans hb⟩
  · rintro _ k D W W' ⟨rfl, h0, ha, hb⟩ hsz hq
    exact ⟨rfl, h0, (hq b1 (.inr (ones_two.2 (.inl rfl)))).trans ha, (hq b2 (.inr (ones_two.2 (.inr rfl)))).trans hb⟩
  · rintro k p D W hp ⟨rfl, rfl, ha, hb⟩ hM w5 hd
    have h0 : 0 < cnt s := by
      by_cases h : 0 < cnt s
      · exact h
      · have := (List.getElem?_eq_some_iff.1 hp).1; rw [List.length_map, back_len] at this; omega
    have hp' : p = atN s (cnt s - 1) := by rw [List.getElem?_map, back_at h0] at hp; simp at hp; exact hp.symm
    subst hp'
    have hlast : pos s (cnt s - 1) + dcN s (pos s (cnt s - 1)) = s.size := by
      rw [← pos_succ (cnt_lt.1 (by omega)), show cnt s - 1 + 1 = cnt s from by omega]; exact pos_cnt s
    have hsW : W.heap[b]? = some (.cells #[.string s] 9) := (hM.old (heap_lt hbx4) (fun hq => by rcases ones_two.1 hq with h | h <;> omega)).trans hbx4
    have ha5 := (show w5.heap[b1]? = _ from by rw [hd.heap]; exact ha).trans h1
    have hb5 := (show w5.heap[b2]? = _ from by rw [hd.heap]; exact hb).trans h2
    have hnb : ¬ ones [b1, b2] b := fun hq => by rcases ones_two.1 hq with h | h <;> omega
    refine ⟨hnb, s, box_cell hsW, inr_i64 (by simp only [atN]; omega) (by simp only [atN]; omega), rfl, box_old ha5, box_free ha5, fun w6 hs6 => ?_⟩
    have ha6 := hs6.box ha5
    have hb6 := (hs6.other (k := b2) (by show b2 ≠ b1; omega)).trans hb5
    refine ⟨(Fr.stored hs6).mono (fun x _ hx => by subst hx; exact ones_two.2 (.inl rfl)), rfl, box_old hb6, box_free hb6, fun w7 hs7 => ?_⟩
    have hb7 := hs7.box hb6
    have ha7 := (hs7.other (k := b1) (by show b1 ≠ b2; omega)).trans ha6
    have hdom := hM.lt
    refine ⟨ones [b1, b2], ?_, rfl, h0, ?_, ?_⟩
    · have s5 := Step.ext (D := ones [b1, b2]) hd.ext hdom
      have s6 := s5.trans (Step.stored hs6 (ones_two.2 (.inl rfl)) (fun q hq => (s5.dom q hq).1))
      exact s6.trans (Step.stored hs7 (ones_two.2 (.inr rfl)) (fun q hq => (s6.dom q hq).1))
    · rw [ha7]; unfold lsR; rw [if_neg (by omega)]; rfl
    · rw [hb7]; unfold lsN; rw [if_neg (by omega)]
      simp only [atN]
      rw [show ((s.size : Nat) : Int) - ((pos s (cnt s - 1) : Nat) : Int) = ((dcN s (pos s (cnt s - 1)) : Nat) : Int) from by omega]
  · rintro D W ⟨hlen, rfl, ha, hb⟩ hM
    have h0 : cnt s = 0 := by rw [lenX_eq, List.length_map, back_len] at hlen; exact hlen
    have ha5 := ha.trans h1
    have hb5 := hb.trans h2
    refine ⟨rfl, box_old ha5, box_free ha5, fun w6 hs6 => ?_⟩
    have ha6 := hs6.box ha5
    have hb6 := (hs6.other (k := b2) (by show b2 ≠ b1; omega)).trans hb5
    refine ⟨rfl, box_old hb6, box_free hb6, fun w7 hs7 => ?_⟩
    have hb7 := hs7.box hb6
    have ha7 := (hs7.other (k := b1) (by show b1 ≠ b2; omega)).trans ha6
    refine ⟨65533, box_cell ha7, 0, box_cell hb7, fun w8 ht => ⟨(65533, 0), rfl, ?_, ?_, ?_⟩⟩
    · unfold lsR; rw [if_pos h0]
    · unfold lsN; rw [if_pos h0]
    · have eW := hM.ext e4 (fun q hq => by rcases ones_two.1 hq with h | h <;> omega)
      exact Ext.turn ((eW.stored hs6 (by show _ ≤ b1; omega)).stored hs7 (by show _ ≤ b2; omega)) ht
  · rintro D W ⟨rfl, h0, ha, hb⟩ hM
    refine ⟨lsR s, box_cell ha, lsN s, box_cell hb, fun w8 ht => ⟨(_, _), rfl, rfl, rfl, ?_⟩⟩
    exact Ext.turn (hM.ext e4 (fun q hq => by rcases ones_two.1 hq with h | h <;> omega)) ht

theorem goes_ok : sGoes.Ok Tryd.prog 31 := by
  refine goes_vc trivial ?_
  rintro g w ⟨hit, hC, hc, hl⟩ b w1 hn b1 w2 hn1 b2 w3 hn2 b3 w4 hn3
  have hb := hn.1; have hb1 := hn1.1; have hb2 := hn2.1; have hb3 := hn3.1
  have hs1 := hn.size; have hs2 := hn1.size; have hs3 := hn2.size; have hs4 := hn3.size
  have e4 : Ext w w4 := ((hn.ext.trans hn1.ext).trans hn2.ext).trans hn3.ext
  have hk4 := hn3.heap
  refine ⟨rfl, box_old hk4, box_free hk4, fun w5 hst => ?_⟩
  have hk5 := hst.box hk4
  have e5 : Ext w w5 := e4.stored hst (by show _ ≤ b3; omega)
  have ot : ∀ {q o}, w4.heap[q]? = some o → q ≠ b3 → w5.heap[q]? = some o := fun h hq => (hst.other hq).trans h
  have hw5 := ot (((hn1.ext.trans hn2.ext).trans hn3.ext).heap hn.heap) (by omega)
  have hm5 := ot ((hn2.ext.trans hn3.ext).heap hn1.heap) (by omega)
  have hr5 := ot (hn3.ext.heap hn2.heap) (by omega)
  have hl3 := heap_lt hk5
  dsimp only [ptrB]
  have nd : ∀ q, q < b2 → ¬ ones [b3, b2] q := fun q hq h => by rcases ones_two.1 h with h | h <;> omega
  refine ⟨g.l.map (atN g.s), g.C, ones [b3, b2], hit.later e5.size (fun q hq => e5.block q (hC q hq)), ⟨?_, ?_⟩, ⟨rfl, hk5, _, hr5⟩, ?_, ?_, ?_, ?_, ?_⟩
  · rintro q hq; rcases ones_two.1 hq with rfl | rfl <;> omega
  · rintro q hq
    have := hC q hq
    exact ⟨by omega, nd q (by omega)⟩
  · rintro k D W W' ⟨rfl, ha, v, hb⟩ hsz hq
    exact ⟨rfl, (hq b3 (.inr (ones_two.2 (.inl rfl)))).trans ha, v, (hq b2 (.inr (ones_two.2 (.inr rfl)))).trans hb⟩
  · rintro _ k D W W' ⟨rfl, hb⟩ hsz hq
    exact ⟨rfl, (hq b2 (.inr (ones_two.2 (.inr rfl)))).trans hb⟩
  · rintro k p D W hp ⟨rfl, ha, v, hb⟩ hM
    have hkl : k < g.l.length := by have := (List.getElem?_eq_some_iff.1 hp).1; simpa using this
    obtain ⟨n, hn⟩ : ∃ n, g.l[k]? = some n := ⟨_, List.getElem?_eq_getElem hkl⟩
    have hp' : p = atN g.s n := by rw [List.getElem?_map, hn] at hp; simpa using hp.symm
    subst hp'
    have hwW := (hM.old (heap_lt hw5) (nd _ (by omega))).trans hw5
    have hmW := (hM.old (heap_lt hm5) (nd _ (by omega))).trans hm5
    have hcW : CellsAt W g.a (g.l.flatMap (oneV g.s)) := hc.mid e5 hM.fr (fun q hq => nd q (by omega))
    have hdom := hM.lt
    have put : ∀ (v' : Bool) {w6 : World}, Stored W ⟨b2, 0, none⟩ (.bool v') w6 → Step (ones [b3, b2]) W w6 (ones [b3, b2]) ∧ w6.heap[b2]? = some (.cells #[.bool v'] 4) := fun v' w6 hs6 =>
      ⟨Step.stored hs6 (ones_two.2 (.inr rfl)) hdom, hs6.box hb⟩
    refine ⟨_, box_cell ha, _, box_cell hmW, ?_⟩
    refine bcase_mk (fun h => ⟨rfl, box_old hb, box_free hb, fun w6 hs6 => ⟨_, (put true hs6).1, rfl, (put true hs6).2⟩⟩) (fun _ => ?_)
    refine ⟨_, box_cell ha, _, _, _, box_cell hwW, ?_⟩
    refine bcase_mk (fun h => by simp only [ge_iff_le, decide_eq_true_eq] at h; omega) (fun _ => ?_)
    refine ⟨_, _, _, box_cell hwW, _, box_cell ha, k, rfl, hkl, hcW.fld (j := 0) (one_cell (s := g.s) (j := 0) hn rfl) fun b4 o hb4 => ⟨_, hb4, ?_⟩⟩
    refine bcase_mk (fun h => by simp [atN] at h) (fun _ => ?_)
    refine ⟨_, _, _, box_cell hwW, _, box_cell ha, k, rfl, hkl, hcW.fld (one_cell (s := g.s) (j := 1) hn rfl) fun b5 o5 hb5 => ⟨_, hb5, ?_⟩⟩
    refine bcase_mk (fun h => by simp [atN] at h) (fun _ => ?_)
    refine ⟨_, box_cell ha, inr_i64 (by omega) (by omega), rfl, box_old ha, box_free ha, fun w6 hs6 => ⟨_, Step.stored hs6 (ones_two.2 (.inl rfl)) hdom, rfl, ?_, v, (hs6.other (k := b2) (by show b2 ≠ b3; omega)).trans hb⟩⟩
    have := hs6.box ha
    simpa using this
  · rintro D W ⟨rfl, ha, v, hb⟩ hM
    have hwW := (hM.old (heap_lt hw5) (nd _ (by omega))).trans hw5
    have eW := hM.ext e5 (fun q hq => by rcases ones_two.1 hq with h | h <;> omega)
    refine ⟨_, box_cell ha, _, _, _, box_cell hwW, rfl, box_old hb, box_free hb, fun w6 hs6 => ⟨_, box_cell (hs6.box hb), fun w7 ht => ⟨(), ?_, Ext.turn (eW.stored hs6 (by show _ ≤ b2; omega)) ht⟩⟩⟩
    rw [lenX_eq, List.length_map]; simp
  · rintro D W ⟨rfl, hb⟩ hM
    have eW := hM.ext e5 (fun q hq => by rcases ones_two.1 hq with h | h <;> omega)
    exact ⟨true, box_cell hb, fun w7 ht => ⟨(), rfl, Ext.turn eW ht⟩⟩

end Go.Proofs.YthkcphnkllnfcaaDoor
