/-
  Chapter 3: the program's iterators, and what is told by them.
-/
import Derived.Test.YtniiamobbgnjaaaDoorVgI
import Derived.Test.YtniiamobbgnjaaaDoorWkO
set_option linter.unusedVariables false
set_option linter.unusedSimpArgs false
namespace Go.Proofs.YtniiamobbgnjaaaDoor
open Go Go.RowKit Vc Ut Tb Cl Orb

theorem pc_get {s : ByteArray} {k : Nat} (h : k < ncl s) : (pcL s)[k]? = some (pcP s k) := by
  unfold pcL; rw [List.getElem?_map, List.getElem?_range h]; rfl
theorem pc_len (s : ByteArray) : (pcL s).length = ncl s := by simp [pcL]
theorem pcr_get {s : ByteArray} {k : Nat} (h : k < ncl s) : (pcR s)[k]? = some (pcP s (ncl s - 1 - k)) := by
  unfold pcR; rw [List.getElem?_map, List.getElem?_range h]; rfl
theorem pcr_len (s : ByteArray) : (pcR s).length = ncl s := by simp [pcR]
theorem xs_of {l : List (Nat × ByteArray)} {k : Nat} {p : Nat × ByteArray} (h : l[k]? = some p) : (l.map encPc).getD k [] = encPc p := by
  simp only [List.getD_eq_getElem?_getD, List.getElem?_map, h]; rfl
theorem next_drop {s : ByteArray} {i : Nat} (hi : i ≤ ncl s) : nextL (s.extract (bp s i) s.size) + bp s i = bp s (i + 1) := bp_drop hi 1

theorem itPc_ok : itPc.Ok Tryd.prog 47 := by
  refine itPc_vc ⟨cnext_ok, trivial⟩ ?_
  rintro ⟨s, bx⟩ i W ⟨hb, hU, hsm⟩ hi
  dsimp only at hb hU hsm hi ⊢
  have hlen : ((pcL s).map encPc).length = ncl s := by rw [List.length_map, pc_len]
  refine ⟨⟨(0, i.D0), rfl, Nat.zero_le _, hi.j0, Mid.start (Ext.refl _) hi.d0⟩, ?_⟩
  rintro _ ⟨k, D⟩ w1 ⟨hk, hJ, hM⟩
  dsimp only at hk hJ hM ⊢
  have hUw : U8 w1 := hU.fr hM.fr (hi.cd _ (.inr (.inl rfl))) (hi.cd _ (.inr (.inr rfl)))
  have hbw : w1.heap[bx]? = some (.cells #[.string s] 9) := (hM.old (heap_lt hb) (hi.cd bx (.inl rfl))).trans hb
  have hle := bp_le s k
  refine ⟨s, box_cell hbw, ?_⟩
  refine bcase_mk (fun h => ?_) (fun h => ?_)
  · have hlt : k < ncl s := bp_lt.2 (by have := of_decide_eq_true h; omega)
    refine ⟨s, box_cell hbw, bp s k, rfl, hle, Nat.le_refl _, _, rfl, ⟨hUw, ext_size (n := bk s k) hsm⟩, ?_⟩
    rintro _ w2 ⟨rfl, hw2⟩
    have hnd := next_drop hk
    have hle1 := bp_le s (k + 1)
    have hbw2 := hw2.heap hbw
    have e3 : (bp s k : Int) + (nextL (s.extract (bp s k) s.size) : Int) = (bp s (k + 1) : Int) := by omega
    rw [e3]
    have hJ2 := hi.stab k D w1 w2 hJ hw2.size (fun q hq => hw2.block q (hq.elim (fun h => Nat.lt_of_lt_of_le h hM.fr.size) (hM.lt q)))
    have hM2 := hM.own (Fr.of_ext (S := fun _ => False) hw2) (fun q hq => hq.elim)
    refine ⟨s, box_cell hbw2, inr_i64 (by omega) (by omega), bp s k, rfl, bp s (k + 1), rfl, by omega, hle1, rfl, (k, D), ?_, ⟨by dsimp only; rw [hlen]; exact hlt, hJ2, hM2⟩, ?_⟩
    · rw [xs_of (pc_get hlt)]; rfl
    rintro b1 w3 ⟨D', hst, h1, h2⟩
    dsimp only at hst h1 h2
    have hM3 := hM2.step hst
    refine bcase_mk (fun hb1 => ?_) (fun hb1 => ?_)
    · exact ⟨D', hM3, .inr (h2 (by simpa using hb1))⟩
    · exact ⟨inr_i64 (by omega) (by omega), (k + 1, D'), rfl, ⟨hlt, h1 (by simpa using hb1), hM3⟩, by dsimp only; omega⟩
  · have hk2 : k = ncl s := by
      by_cases hc : k < ncl s
      · have := bp_lt.1 hc; have := of_decide_eq_false h; omega
      · omega
    subst hk2
    exact ⟨D, hM, .inl (by rw [hlen]; exact hJ)⟩

theorem itBk_ok : itBk.Ok Tryd.prog 33 := by
  refine itBk_vc trivial ?_
  rintro ⟨s, bl, bs, a, c⟩ i W ⟨⟨hb, hrow, hs⟩, hsm⟩ hi
  dsimp only at hb hrow hs hsm hi ⊢
  have hlen : ((pcR s).map encPc).length = ncl s := by rw [List.length_map, pcr_len]
  have hncl := ncl_le s
  refine ⟨a, _, c, box_cell hb, inr_i64 (by omega) (by omega), ⟨(0, i.D0), by dsimp only; congr 1; omega, Nat.zero_le _, hi.j0, Mid.start (Ext.refl _) hi.d0⟩, ?_⟩
  rintro _ ⟨k, D⟩ w1 ⟨hk, hJ, hM⟩
  dsimp only at hk hJ hM ⊢
  have hbw : w1.heap[bl]? = _ := (hM.old (heap_lt hb) (hi.cd bl (.inl rfl))).trans hb
  have hsw : w1.heap[bs]? = _ := (hM.old (heap_lt hs) (hi.cd bs (.inr (.inl rfl)))).trans hs
  have hrw := hrow.fr hM.fr (fun q hq => hi.cd q (.inr (.inr hq)))
  refine bcase_mk (fun h => ?_) (fun h => ?_)
  · have hlt : k < ncl s := by have := of_decide_eq_true h; omega
    have g1 : ∀ {j : Nat} {K : Nat → Nat → Prop}, j ≤ ncl s → (∀ b o, w1.cell? ⟨b, o + j, none⟩ = some (.int .i64 (bp s j)) → K b o) → ptrE a K := fun hj hK => hrw.get (by rw [List.getElem?_map, bord_at hj]; rfl) hK
    intro w2 hd
    have e1 : ncl s - 1 - k + 1 = ncl s - k := by omega
    have hJ2 := hi.stab k D w1 w2 hJ hd.ext.size (fun q hq => hd.ext.block q (hq.elim (fun h => Nat.lt_of_lt_of_le h hM.fr.size) (hM.lt q)))
    have hM2 := hM.own (Fr.of_ext (S := fun _ => False) hd.ext) (fun q hq => hq.elim)
    refine ⟨a, _, c, box_cell hbw, inr_i64 (by omega) (by omega), ncl s - 1 - k, by omega, by omega, g1 (by omega) fun b o hb1 => ⟨_, hb1, s, box_cell hsw, a, _, c, box_cell hbw, inr_i64 (by omega) (by omega), ncl s - 1 - k, by omega, by omega, g1 (by omega) fun b o hb2 => ⟨_, hb2, a, _, c, box_cell hbw, ncl s - k, by omega, by omega, g1 (by omega) fun b o hb3 => ⟨_, hb3, bp s (ncl s - 1 - k), rfl, bp s (ncl s - k), rfl, bp_mono s (by omega), bp_le s _, rfl, (k, D), ?_, ⟨by dsimp only; rw [hlen]; exact hlt, hJ2, hM2⟩, ?_⟩⟩⟩⟩
    · rw [xs_of (pcr_get hlt)]; unfold encPc pcP; rw [e1]
    rintro b1 w3 ⟨D', hst, h1, h2⟩
    dsimp only at hst h1 h2
    have hM3 := hM2.step hst
    refine bcase_mk (fun hb1 => ?_) (fun hb1 => ?_)
    · exact ⟨D', hM3, .inr (h2 (by simpa using hb1))⟩
    · exact ⟨inr_i64 (by omega) (by omega), (k + 1, D'), by dsimp only; congr 1; omega, ⟨hlt, h1 (by simpa using hb1), hM3⟩, by dsimp only; omega⟩
  · have hk2 : k = ncl s := by have := of_decide_eq_false h; omega
    subst hk2
    exact ⟨D, hM, .inl (by rw [hlen]; exact hJ)⟩

theorem cpieces_ok : (sIter 47).Ok Tryd.prog 31 := by
  refine cpieces_vc trivial ?_
  rintro s w _ b w1 hn
  exact ⟨b, rfl, by have := hn.1; omega, hn.heap, hn.ext⟩
theorem call_ok : (sIter 47).Ok Tryd.prog 12 := by
  refine call_vc ⟨cpieces_ok, trivial⟩ ?_
  rintro s w _
  refine ⟨s, rfl, trivial, ?_⟩
  rintro x w1 ⟨h1, h2, h3⟩
  exact ⟨x, rfl, h1, h2, h3⟩

/-- The blocks that a text's iterator looks into. -/
def cC (x : Nat) : Nat → Prop := fun q => q = x ∨ q = 0 ∨ q = 1
theorem cC_lt {x : Nat} {w : World} (hx : x < w.heap.size) (hU : U8 w) : ∀ q, cC x q → q < w.heap.size := by
  rintro q (rfl | rfl | rfl)
  · exact hx
  · exact hU.lt.1
  · exact hU.lt.2
theorem pc_iter {s : ByteArray} {b : Nat} {w : World} (h : w.heap[b]? = some (.cells #[.string s] 9)) (hU : U8 w) (hs : s.size ≤ 67108864) : IterAt Tryd.prog (itV 47 b) ((pcL s).map encPc) (cC b) w := by
  refine itPc_ok (s, b) w ⟨h, hU, hs⟩ (cC_lt (heap_lt h) hU) (fun W hW hq => ⟨(hq b (.inl rfl)).trans h, ?_, hs⟩)
  have k : ∀ (g o : Nat) (v : Value), itPc.C (s, b) g → w.cell? ⟨g, o, none⟩ = some v → W.cell? ⟨g, o, none⟩ = some v := fun g o v hg hc =>
    (World.cell?_of_block (w := w) (hq g hg)).trans hc
  exact ⟨fun c hc => k _ _ _ (.inr (.inl rfl)) (hU.1 c hc), fun i hi => ⟨k _ _ _ (.inr (.inr rfl)) (hU.2 i hi).1, k _ _ _ (.inr (.inr rfl)) (hU.2 i hi).2⟩⟩
def cB (g : GBk) : Nat → Prop := fun q => q = g.bl ∨ q = g.bs ∨ blk g.a = some q
theorem cB_lt {g : GBk} {w : World} (h : BkAt g w) : ∀ q, cB g q → q < w.heap.size := by
  rintro q (rfl | rfl | hq)
  · exact heap_lt h.1
  · exact heap_lt h.2.2
  · exact h.2.1.lt hq
theorem bk_iter {g : GBk} {w : World} (h : BkAt g w) (hs : g.s.size ≤ 67108864) : IterAt Tryd.prog (.func (.func 33) #[] #[.pointer (some ⟨g.bl, 0, none⟩), .pointer (some ⟨g.bs, 0, none⟩)]) ((pcR g.s).map encPc) (cB g) w := by
  refine itBk_ok g w ⟨h, hs⟩ (cB_lt h) (fun W hW hq => ⟨⟨(hq _ (.inl rfl)).trans h.1, h.2.1.keep (fun q hq' => hq q (.inr (.inr hq'))), (hq _ (.inr (.inl rfl))).trans h.2.2⟩, hs⟩)

theorem ends_len (s : ByteArray) : (endsI s).length = ncl s := by simp [endsI]
theorem ends_at {s : ByteArray} {i : Nat} (h : i < ncl s) : (endsI s)[i]? = some (bp s (i + 1) : Int) := by
  unfold endsI
  rw [List.getElem?_map, List.getElem?_range h]; rfl
theorem ends_ok : (sSL .i64 3 endsI).Ok Tryd.prog 32 := by
  refine ends_vc ⟨cpieces_ok, trivial⟩ ?_
  rintro (s : ByteArray) w ⟨hU, hsm⟩ b w1 hn1
  have hb1 := hn1.size
  have hncl := ncl_le s
  have hut := hU.lt
  refine ⟨s, rfl, trivial, ?_⟩
  rintro x w2 ⟨hx, hxs, e12⟩
  have e02 := hn1.ext.trans e12
  have hU2 := hU.ext e02
  dsimp only [ptrB]
  have h41 : (31 : TypeId) ≠ 3 := by decide
  have hbw := e12.heap hn1.heap
  refine ⟨pcL s, cC x, (fun q => q = b ∨ blk none = some q), pc_iter hxs hU2 hsm, ⟨?_, ?_⟩, ⟨none, 0, rfl, (⟨hbw, Row.nil _ _ _⟩ : Grow w2 b _ _ none 0 [])⟩, ?_, ?_, ?_, ?_, trivial⟩
  · rintro q (rfl | h)
    · exact heap_lt hbw
    · cases h
  · intro q hq
    refine ⟨cC_lt (heap_lt hxs) hU2 q hq, ?_⟩
    rintro (h | h)
    · rcases hq with h' | h' | h' <;> omega
    · cases h
  · rintro k D W W' ⟨a, c, rfl, hg⟩ hsz hq
    exact ⟨a, c, rfl, hg.keep fun q hq' => hq q (.inr hq')⟩
  · rintro _ k D W W' h hsz hq
    exact h
  · rintro k p D W hp ⟨a, c, rfl, hg⟩ hM
    have hkl : k < ncl s := by have := (List.getElem?_eq_some_iff.1 hp).1; rwa [pc_len] at this
    rw [pc_get hkl] at hp
    cases hp
    have hle := bp_le s (k + 1)
    have hmo := bp_mono s (show k ≤ k + 1 by omega)
    have hsz : ((pcP s k).1 : Int) + ((pcP s k).2.size : Int) = (bp s (k + 1) : Int) := by unfold pcP; dsimp only; rw [ext_sz hle hmo]; omega
    rw [hsz]
    have hln : (((endsI s).take k).map (Value.int .i64)).length ≤ ncl s := by simp [ends_len]; omega
    refine ⟨a, _, c, box_cell hg.hb, inr_i64 (by omega) (by omega), fun b1 w4 hn4 => ?_⟩
    obtain ⟨a', c', w5, hr, hko, ho, hfz, hpost⟩ := hg.push (P := Tryd.prog) (tt := 31) (ty := 31) elem64 h41 hn4 rfl (by unfold maxLen; omega) (by omega)
    refine ⟨a', c', w5, hr, hko, rfl, ho, hfz, fun w6 hs6 => ?_⟩
    obtain ⟨hg6, hfr, hnew⟩ := hpost hs6
    refine ⟨_, ⟨hfr, ?_⟩, a', c', rfl, ?_⟩
    · rintro q (rfl | hq)
      · exact ⟨heap_lt hg6.hb, .inl (.inl rfl)⟩
      · exact ⟨hg6.row.lt hq, (hnew q hq).elim (fun h => .inl (.inr h)) .inr⟩
    · rw [take_snoc (ends_at hkl)]; exact hg6
  · rintro D W ⟨a, c, rfl, hg⟩ hM
    rw [lenX_eq, pc_len, List.take_of_length_le (by rw [ends_len]; exact Nat.le_refl _)] at hg
    refine ⟨a, _, c, box_cell hg.hb, fun w3 ht => ⟨(a, (endsI s).length, c), by rw [List.length_map], rfl, ?_⟩⟩
    have eW : Ext w W := hM.ext e02 (fun q hq => by rcases hq with rfl | h; omega; cases h)
    have hrow := hg.row
    rw [List.length_map] at hrow
    refine ⟨hrow.turn ht, fun q hq => ?_, Ext.turn eW ht⟩
    have := (hM.dom q (.inr hq)).2
    have hs2 := e02.size
    rcases this with (h | h) | h
    · omega
    · cases h
    · omega

theorem ccount_ok : (sSN ncl).Ok Tryd.prog 18 := by
  refine ccount_vc ⟨ends_ok, trivial⟩ ?_
  rintro (s : ByteArray) w ⟨hU, hsm⟩
  refine ⟨s, rfl, ⟨hU, hsm⟩, ?_⟩
  rintro ⟨a, n, c⟩ w1 ⟨hn, hm⟩
  dsimp only at hn hm ⊢
  exact ⟨ncl s, by rw [hn, ends_len], rfl, hm.ext⟩

theorem ones_one {a q : Nat} : ones [a] q ↔ q = a := by simp [ones]
theorem ones_two {a b q : Nat} : ones [a, b] q ↔ q = a ∨ q = b := by simp [ones]

theorem clast_ok : (sSN lastL).Ok Tryd.prog 16 := by
  refine clast_vc ⟨cpieces_ok, trivial⟩ ?_
  rintro (s : ByteArray) w ⟨hU, hsm⟩ b w1 hn1
  have hut := hU.lt
  obtain ⟨ho, hf, hst⟩ := new_box hn1
  refine ⟨rfl, ho, hf, fun w2 hs2 => ?_⟩
  obtain ⟨e02, hb2, hbe, hsz2⟩ := hst hs2
  refine ⟨s, rfl, trivial, ?_⟩
  rintro x w3 ⟨hx, hxs, e23⟩
  have e03 := e02.trans e23
  have hU3 := hU.ext e03
  have hb3 := e23.heap hb2
  dsimp only [ptrB]
  refine ⟨pcL s, cC x, ones [b], pc_iter hxs hU3 hsm, ⟨?_, ?_⟩, ⟨rfl, hb3⟩, ?_, ?_, ?_, ?_, trivial⟩
  · intro q hq; rw [ones_one] at hq; subst hq; exact heap_lt hb3
  · intro q hq
    refine ⟨cC_lt (heap_lt hxs) hU3 q hq, fun h => ?_⟩
    rw [ones_one] at h
    rcases hq with h' | h' | h' <;> omega
  · rintro k D W W' ⟨rfl, ha⟩ hsz hq
    exact ⟨rfl, (hq b (.inr (ones_one.2 rfl))).trans ha⟩
  · rintro _ k D W W' h hsz hq
    exact h
  · rintro k p D W hp ⟨rfl, ha⟩ hM
    have hkl : k < ncl s := by have := (List.getElem?_eq_some_iff.1 hp).1; rwa [pc_len] at this
    rw [pc_get hkl] at hp
    cases hp
    refine ⟨rfl, box_old ha, box_free ha, fun w6 hs6 => ⟨_, Step.stored hs6 (ones_one.2 rfl) hM.lt, rfl, ?_⟩⟩
    have := hs6.box ha
    rw [if_neg (by omega), Nat.add_sub_cancel]
    rw [show ((pcP s k).2.size : Int) = (bp s (k + 1) : Int) - bp s k from by unfold pcP; exact ext_sz (bp_le s _) (bp_mono s (by omega))] at this
    exact this
  · rintro D W ⟨rfl, ha⟩ hM
    rw [lenX_eq, pc_len] at ha
    have eW : Ext w W := hM.ext e03 (fun q hq => by rw [ones_one] at hq; omega)
    refine ⟨_, box_cell ha, fun w7 ht => ⟨lastL s, ?_, rfl, Ext.turn eW ht⟩⟩
    congr 1
    unfold lastL
    by_cases h0 : ncl s = 0
    · rw [if_pos h0]; have := ncl_zero.1 h0; omega
    · rw [if_neg h0, bp_end]; have := bp_le s (ncl s - 1); omega

theorem cis_ok : sIsB.Ok Tryd.prog 22 := by
  refine cis_vc ⟨cpieces_ok, trivial⟩ ?_
  rintro ⟨s, p⟩ w ⟨hU, hsm⟩ b w1 hn1 b1 w2 hn2
  dsimp only at hU hsm ⊢
  have hut := hU.lt
  have hs1 := hn1.size; have hs2 := hn2.size
  refine ⟨s, rfl, trivial, ?_⟩
  rintro x w3 ⟨hx, hxs, e23⟩
  have e02 := hn1.ext.trans hn2.ext
  have e03 := e02.trans e23
  have hU3 := hU.ext e03
  have hp3 := (hn2.ext.trans e23).heap hn1.heap
  have hb3 := e23.heap hn2.heap
  dsimp only [ptrB]
  have nd : ∀ q, q ≠ b1 → ¬ ones [b1] q := fun q hq h => hq (ones_one.1 h)
  refine ⟨pcL s, cC x, ones [b1], pc_iter hxs hU3 hsm, ⟨?_, ?_⟩, ⟨rfl, fun j hj => by omega, _, hb3⟩, ?_, ?_, ?_, ?_, ?_⟩
  · intro q hq; rw [ones_one] at hq; subst hq; exact heap_lt hb3
  · intro q hq
    refine ⟨cC_lt (heap_lt hxs) hU3 q hq, nd q ?_⟩
    rcases hq with h' | h' | h' <;> omega
  · rintro k D W W' ⟨rfl, hj, v, ha⟩ hsz hq
    exact ⟨rfl, hj, v, (hq b1 (.inr (ones_one.2 rfl))).trans ha⟩
  · rintro _ k D W W' ⟨rfl, ha⟩ hsz hq
    exact ⟨rfl, (hq b1 (.inr (ones_one.2 rfl))).trans ha⟩
  · rintro k pp D W hp ⟨rfl, hj, v, ha⟩ hM
    have hkl : k < ncl s := by have := (List.getElem?_eq_some_iff.1 hp).1; rwa [pc_len] at this
    rw [pc_get hkl] at hp
    cases hp
    have hpW := (hM.old (heap_lt hp3) (nd b (by omega))).trans hp3
    refine ⟨p, box_cell hpW, ?_⟩
    refine bcase_mk (fun h => ?_) (fun h => ?_)
    · have h : p ≤ (bp s k : Int) := by have := of_decide_eq_true h; exact this
      refine ⟨p, box_cell hpW, rfl, box_old ha, box_free ha, fun w6 hs6 => ⟨_, Step.stored hs6 (ones_one.2 rfl) hM.lt, rfl, ?_⟩⟩
      have hh := hs6.box ha
      have hv : ((pcP s k).1 : Int) == p ↔ isB s p = true := by
        show ((bp s k : Int) == p) = true ↔ _
        rw [beq_iff_eq, isB_iff]
        constructor
        · intro e; exact ⟨k, by omega, e⟩
        · rintro ⟨i, hi, e⟩
          by_cases hik : i < k
          · have := hj i hik; omega
          · have := bp_mono s (show k ≤ i by omega); omega
      rw [show (((pcP s k).1 : Int) == p) = isB s p from Bool.eq_iff_iff.2 hv] at hh
      exact hh
    · have h : (bp s k : Int) < p := by have := of_decide_eq_false h; exact Int.not_le.1 this
      refine ⟨_, Step.refl hM.lt, rfl, fun j hj' => ?_, v, ha⟩
      by_cases hjk : j = k
      · subst hjk; exact h
      · exact hj j (by omega)
  · rintro D W ⟨rfl, hj, v, ha⟩ hM
    rw [lenX_eq, pc_len] at hj
    have hpW := (hM.old (heap_lt hp3) (nd b (by omega))).trans hp3
    have eW : Ext w W := hM.ext e03 (fun q hq => by rw [ones_one] at hq; omega)
    refine ⟨p, box_cell hpW, rfl, box_old ha, box_free ha, fun w6 hs6 => ⟨_, box_cell (hs6.box ha), fun w7 ht => ⟨_, rfl, ?_, Ext.turn (eW.stored hs6 (by show _ ≤ b1; omega)) ht⟩⟩⟩
    have hv : (p == (s.size : Int)) = true ↔ isB s p = true := by
      rw [beq_iff_eq, isB_iff]
      constructor
      · intro e; exact ⟨ncl s, Nat.le_refl _, by rw [bp_end]; exact e.symm⟩
      · rintro ⟨i, hi, e⟩
        by_cases hik : i < ncl s
        · have := hj i hik; omega
        · have : i = ncl s := by omega
          subst this; rw [bp_end] at e; exact e.symm
    exact Bool.eq_iff_iff.2 hv
  · rintro D W ⟨rfl, ha⟩ hM
    have eW : Ext w W := hM.ext e03 (fun q hq => by rw [ones_one] at hq; omega)
    exact ⟨_, box_cell ha, fun w7 ht => ⟨_, rfl, rfl, Ext.turn eW ht⟩⟩

theorem clamp_min (s : ByteArray) (p : Int) : (if (s.size : Int) < (if (0 : Int) > p then (0 : Int) else p) then (s.size : Int) else if (0 : Int) > p then (0 : Int) else p) = (clampN s p : Int) := by
  unfold clampN
  split <;> split <;> (try split) <;> (try split) <;> omega
theorem cat_ok : sAt.Ok Tryd.prog 20 := by
  refine cat_vc ⟨cpieces_ok, trivial⟩ ?_
  rintro ⟨s, p⟩ w ⟨hU, hsm⟩ b w1 hn1 b1 w2 hn2 b2 w3 hn3
  dsimp only at hU hsm ⊢
  have hut := hU.lt
  have hs1 := hn1.size; have hs2 := hn2.size; have hs3 := hn3.size
  have e13 := hn2.ext.trans hn3.ext
  have e03 := hn1.ext.trans e13
  have hpb := e13.heap hn1.heap
  refine ⟨p, box_cell hpb, rfl, box_old hpb, box_free hpb, fun w4 hs4 => ?_⟩
  have hp4 := hs4.box hpb
  rw [clamp_min] at hp4
  have e04 : Ext w w4 := e03.stored hs4 (by show _ ≤ b; omega)
  have h14 := (hs4.other (k := b1) (by show b1 ≠ b; omega)).trans (hn3.ext.heap hn2.heap)
  have h24 := (hs4.other (k := b2) (by show b2 ≠ b; omega)).trans hn3.heap
  have hsz4 := hs4.size
  refine ⟨s, rfl, trivial, ?_⟩
  rintro x w5 ⟨hx, hxs, e45⟩
  have e05 := e04.trans e45
  have hU5 := hU.ext e05
  have hp5 := e45.heap hp4
  have h15 := e45.heap h14
  have h25 := e45.heap h24
  dsimp only [ptrB]
  have nd : ∀ q, q ≠ b1 → q ≠ b2 → ¬ ones [b1, b2] q := fun q hq hq2 h => (ones_two.1 h).elim hq hq2
  refine ⟨pcL s, cC x, ones [b1, b2], pc_iter hxs hU5 hsm, ⟨?_, ?_⟩, ⟨rfl, fun j hj => by omega, _, _, h15, h25⟩, ?_, ?_, ?_, ?_, ?_⟩
  · intro q hq; rcases ones_two.1 hq with rfl | rfl
    · exact heap_lt h15
    · exact heap_lt h25
  · intro q hq
    refine ⟨cC_lt (heap_lt hxs) hU5 q hq, nd q ?_ ?_⟩
    · rcases hq with h' | h' | h' <;> omega
    · rcases hq with h' | h' | h' <;> omega
  · rintro k D W W' ⟨rfl, hj, v, u, ha, hb⟩ hsz hq
    exact ⟨rfl, hj, v, u, (hq b1 (.inr (ones_two.2 (.inl rfl)))).trans ha, (hq b2 (.inr (ones_two.2 (.inr rfl)))).trans hb⟩
  · rintro _ k D W W' ⟨rfl, ha, hb⟩ hsz hq
    exact ⟨rfl, (hq b1 (.inr (ones_two.2 (.inl rfl)))).trans ha, (hq b2 (.inr (ones_two.2 (.inr rfl)))).trans hb⟩
  · rintro k pp D W hp ⟨rfl, hj, v, u, ha, hb⟩ hM
    have hkl : k < ncl s := by have := (List.getElem?_eq_some_iff.1 hp).1; rwa [pc_len] at this
    rw [pc_get hkl] at hp
    cases hp
    have hpW := (hM.old (heap_lt hp5) (nd b (by omega) (by omega))).trans hp5
    have hle := bp_le s (k + 1)
    have hsz : ((pcP s k).1 : Int) + ((pcP s k).2.size : Int) = (bp s (k + 1) : Int) := by unfold pcP; dsimp only; rw [ext_sz hle (bp_mono s (by omega))]; omega
    rw [hsz]
    refine ⟨_, box_cell hpW, inr_i64 (by omega) (by omega), ?_⟩
    refine bcase_mk (fun h => ?_) (fun h => ?_)
    · have h : clampN s p < bp s (k + 1) := by have := of_decide_eq_true h; omega
      refine ⟨inr_i64 (by omega) (by omega), rfl, box_old ha, box_free ha, fun w6 hs6 => ?_⟩
      have hb6 := (hs6.other (k := b2) (by show b2 ≠ b1; omega)).trans hb
      refine ⟨rfl, box_old hb6, box_free hb6, fun w7 hs7 => ?_⟩
      have s6 := Step.stored hs6 (ones_two.2 (.inl rfl)) hM.lt
      refine ⟨_, s6.trans (Step.stored hs7 (ones_two.2 (.inr rfl)) (fun q hq => (s6.dom q hq).1)), rfl, ?_, ?_⟩
      · have := (hs7.other (k := b1) (by show b1 ≠ b2; omega)).trans (hs6.box ha)
        rw [ix_of (by omega) hj (.inr h)]; exact this
      · have := hs7.box hb6
        rw [ix_of (by omega) hj (.inr h)]; exact this
    · have h : bp s (k + 1) ≤ clampN s p := by have := of_decide_eq_false h; omega
      refine ⟨_, Step.refl hM.lt, rfl, fun j hj' => ?_, v, u, ha, hb⟩
      by_cases hjk : j = k
      · subst hjk; exact h
      · exact hj j (by omega)
  · rintro D W ⟨rfl, hj, v, u, ha, hb⟩ hM
    rw [lenX_eq, pc_len] at hj
    have eW : Ext w W := hM.ext e05 (fun q hq => by rcases ones_two.1 hq with h | h <;> omega)
    refine ⟨rfl, box_old ha, box_free ha, fun w6 hs6 => ?_⟩
    have hb6 := (hs6.other (k := b2) (by show b2 ≠ b1; omega)).trans hb
    refine ⟨rfl, box_old hb6, box_free hb6, fun w7 hs7 => ?_⟩
    have ha7 := (hs7.other (k := b1) (by show b1 ≠ b2; omega)).trans (hs6.box ha)
    have hb7 := hs7.box hb6
    refine ⟨_, box_cell ha7, _, box_cell hb7, fun w8 ht => ⟨(s.size, s.size), rfl, ?_, Ext.turn ((eW.stored hs6 (by show _ ≤ b1; omega)).stored hs7 (by show _ ≤ b2; omega)) ht⟩⟩
    rw [ix_of (Nat.le_refl _) hj (.inl rfl), bp_end, bp_out (by omega)]
  · rintro D W ⟨rfl, ha, hb⟩ hM
    have eW : Ext w W := hM.ext e05 (fun q hq => by rcases ones_two.1 hq with h | h <;> omega)
    exact ⟨_, box_cell ha, _, box_cell hb, fun w8 ht => ⟨(_, _), rfl, rfl, Ext.turn eW ht⟩⟩

theorem bord_cons (s : ByteArray) : bordI s = 0 :: endsI s := by
  unfold bordI endsI
  rw [List.range_succ_eq_map, List.map_cons, List.map_map]
  rfl
theorem cback_ok : sBackC.Ok Tryd.prog 13 := by
  refine cback_vc ⟨ends_ok, trivial⟩ ?_
  rintro (s : ByteArray) w ⟨hU, hsm⟩ b w1 hn1 b1 w2 hn2
  have hs1 := hn1.size; have hs2 := hn2.size
  have hncl := ncl_le s
  have e02 := hn1.ext.trans hn2.ext
  refine ⟨s, box_cell (hn2.ext.heap hn1.heap), s, rfl, ⟨hU.ext e02, hsm⟩, ?_⟩
  rintro ⟨ea, en, ec⟩ w3 ⟨hen, hm⟩
  dsimp only at hen hm ⊢
  have hel := ends_len s
  subst hen
  have hm0 := Made.box (s := 1) (n := 1) (w0 := w1) hn2 (Ext.refl _) rfl (by unfold maxLen; omega)
  obtain ⟨a', c', w4, hrun, hko, hm4, _⟩ := (hm0.later hm.ext).pushS (P := Tryd.prog) (t := 31) (ty := 31) (sa := ea) (m := (endsI s).length) (cx := ec) elem64 (by decide) (news := (endsI s).map (Value.int .i64)) (by simp) hm.row.cells (one_ints _ _) (by unfold maxLen; omega) (.inr (by omega))
  refine ⟨a', c', w4, hrun, hko, ?_⟩
  intro b2 w5 hn5
  obtain ⟨ho, hf, hst⟩ := new_box hn5
  refine ⟨rfl, ho, hf, fun w6 hs6 => ?_⟩
  obtain ⟨e46, hb6, hbe, _⟩ := hst hs6
  have hsz := hm4.ext.size
  have hmF := hm4.later e46
  have hvs : [Value.int .i64 0] ++ (endsI s).map (Value.int .i64) = (bordI s).map (Value.int .i64) := by rw [bord_cons]; rfl
  have hrow := hmF.row
  rw [hvs] at hrow
  refine ⟨⟨s, b2, b, a', c'⟩, rfl, rfl, ⟨?_, ?_, ?_⟩, by dsimp only; omega, by dsimp only; omega, fun q hq => (hmF.earlier hn1.ext).new q hq, (hmF.earlier hn1.ext).ext⟩
  · rw [show ncl s + 1 = 1 + (endsI s).length from by omega]; exact hb6
  · rw [show ncl s + 1 = 1 + (endsI s).length from by omega]; exact hrow
  · have h1 : Ext w1 w6 := hmF.ext
    exact h1.heap hn1.heap

end Go.Proofs.YtniiamobbgnjaaaDoor
