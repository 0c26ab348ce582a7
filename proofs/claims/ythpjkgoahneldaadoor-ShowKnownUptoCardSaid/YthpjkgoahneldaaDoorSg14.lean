/-
  Texts joined by program: WkI, Sy, WkSd, Gs, WkSp, WkSe.
-/
import Derived.Test.YthpjkgoahneldaaDoorSg13
import Derived.Test.YthpjkgoahneldaaDoorSg12
import Derived.Test.YthpjkgoahneldaaDoorSg08
import Derived.Test.YthpjkgoahneldaaDoorSg10
import Derived.Lib.AppendStr
set_option linter.unusedVariables false
set_option linter.unusedSimpArgs false

section
/-
  Chapter 3: the program's iterators, and what is told by them.
-/
namespace Go.Proofs.YthpjkgoahneldaaDoor
open Go Go.RowKit Vc Ut Tb Cl Orb

theorem pc_get {s : ByteArray} {k : Nat} (h : k < ncl s) : (pcL s)[k]? = some (pcP s k) := by
  unfold pcL; rw [List.getElem?_map, List.getElem?_range h]; rfl
theorem pc_len (s : ByteArray) : (pcL s).length = ncl s := by simp [pcL]
theorem pcr_get {s : ByteArray} {k : Nat} (h : k < ncl s) : (pcR s)[k]? = some (pcP s (ncl s - 1 - k)) := by
  unfold pcR; rw [List.getElem?_map, List.getElem?_range h]; rfl
theorem pcr_len (s : ByteArray) : (pcR s).length = ncl s := by simp [pcR]
theorem xs_of {l : List (Nat × ByteArray)} {k : Nat} {p : Nat × ByteArray} (h : l[k]? = some p) : (l.map encPc).getD k [] = encPc p := by
  simp only [List.getD_eq_getElem?_getD, List.getElem?_map, h]; rfl
theorem next_drop {s : ByteArray} {i : Nat} (hi : i ≤ ncl s) : nextL (s.extract (bp s i) s.size) + bp s i = bp s (i + 1) := bp_drop hi 1

theorem itPc_ok : itPc.Ok Tryd.prog 101 := by
  refine itPc_vc ⟨cnext_ok, trivial⟩ ?_
  rintro ⟨s, bx⟩ i W ⟨hb, hU, hsm⟩ hi
  dsimp only at hb hU hsm hi ⊢
  have hlen : ((pcL s).map encPc).length = ncl s := by rw [List.length_map, pc_len]
  refine ⟨⟨(0, i.D0), rfl, Nat.zero_le _, hi.j0, Mid.start (Ext.refl _) hi.d0⟩, ?_⟩
  rintro _ ⟨k, D⟩ w1 ⟨hk, hJ, hM⟩
  dsimp only at hk hJ hM ⊢
  have hUw : U8 w1 := hU.fr hM.fr (hi.cd _ (.inr (.inl rfl))) (hi.cd _ (.inr (.inr rfl)))
  have hbw : w1.heap[bx]? = some (.cells #[.string s] 9) := (hM.old (heap_lt hb) (hi.cd bx (.inl rfl))).trans hb
  have hle := bp_le s k
  refine ⟨s, box_cell hbw, ?_⟩
  refine bcase_mk (fun h => ?_) (fun h => ?_)
  · have hlt : k < ncl s := bp_lt.2 (by have := of_decide_eq_true h; omega)
    refine ⟨s, box_cell hbw, bp s k, rfl, hle, Nat.le_refl _, _, rfl, ⟨hUw, ext_size (n := bk s k) hsm⟩, ?_⟩
    rintro _ w2 ⟨rfl, hw2⟩
    have hnd := next_drop hk
    have hle1 := bp_le s (k + 1)
    have hbw2 := hw2.heap hbw
    have e3 : (bp s k : Int) + (nextL (s.extract (bp s k) s.size) : Int) = (bp s (k + 1) : Int) := by omega
    rw [e3]
    have hJ2 := hi.stab.use hJ hw2.size (fun q hq => hw2.block q (hq.elim (fun h => Nat.lt_of_lt_of_le h hM.fr.size) (hM.lt q)))
    have hM2 := hM.own (Fr.of_ext (S := fun _ => False) hw2) (fun q hq => hq.elim)
    refine ⟨s, box_cell hbw2, inr_i64 (by omega) (by omega), bp s k, rfl, bp s (k + 1), rfl, by omega, hle1, rfl, (k, D), ?_, ⟨by dsimp only; rw [hlen]; exact hlt, hJ2, hM2⟩, ?_⟩
    · rw [xs_of (pc_get hlt)]; rfl
    rintro b1 w3 ⟨D', hst, h1, h2⟩
    dsimp only at hst h1 h2
    have hM3 := hM2.step hst
    refine bcase_mk (fun hb1 => ?_) (fun hb1 => ?_)
    · exact ⟨D', hM3, .inr (h2 (by simpa using hb1))⟩
    · exact ⟨inr_i64 (by omega) (by omega), (k + 1, D'), rfl, ⟨hlt, h1 (by simpa using hb1), hM3⟩, by dsimp only; omega⟩
  · have hk2 : k = ncl s := by
      by_cases hc : k < ncl s
      · have := bp_lt.1 hc; have := of_decide_eq_false h; omega
      · omega
    subst hk2
    exact ⟨D, hM, .inl (by rw [hlen]; exact hJ)⟩


theorem cpieces_ok : (sIter 101).Ok Tryd.prog 65 := by
  refine cpieces_vc trivial ?_
  rintro s w _ b w1 hn
  exact ⟨b, rfl, by have := hn.1; omega, hn.heap, hn.ext⟩
theorem call_ok : (sIter 101).Ok Tryd.prog 55 := by
  refine call_vc ⟨cpieces_ok, trivial⟩ ?_
  rintro s w _
  refine ⟨s, rfl, trivial, ?_⟩
  rintro x w1 ⟨h1, h2, h3⟩
  exact ⟨x, rfl, h1, h2, h3⟩

/-- The blocks that a text's iterator looks into. -/
def cC (x : Nat) : Nat → Prop := fun q => q = x ∨ q = 0 ∨ q = 1
theorem cC_lt {x : Nat} {w : World} (hx : x < w.heap.size) (hU : U8 w) : ∀ q, cC x q → q < w.heap.size := by
  rintro q (rfl | rfl | rfl)
  · exact hx
  · exact hU.lt.1
  · exact hU.lt.2
theorem pc_iter {s : ByteArray} {b : Nat} {w : World} (h : w.heap[b]? = some (.cells #[.string s] 9)) (hU : U8 w) (hs : s.size ≤ 67108864) : IterAt Tryd.prog (itV 101 b) ((pcL s).map encPc) (cC b) w := by
  refine itPc_ok (s, b) w ⟨h, hU, hs⟩ (cC_lt (heap_lt h) hU) (fun W hW hq => ⟨(hq b (.inl rfl)).trans h, ?_, hs⟩)
  have k : ∀ (g o : Nat) (v : Value), itPc.C (s, b) g → w.cell? ⟨g, o, none⟩ = some v → W.cell? ⟨g, o, none⟩ = some v := fun g o v hg hc =>
    (World.cell?_of_block (w := w) (hq g hg)).trans hc
  exact ⟨fun c hc => k _ _ _ (.inr (.inl rfl)) (hU.1 c hc), fun i hi => ⟨k _ _ _ (.inr (.inr rfl)) (hU.2 i hi).1, k _ _ _ (.inr (.inr rfl)) (hU.2 i hi).2⟩⟩
def cB (g : GBk) : Nat → Prop := fun q => q = g.bl ∨ q = g.bs ∨ blk g.a = some q
theorem cB_lt {g : GBk} {w : World} (h : BkAt g w) : ∀ q, cB g q → q < w.heap.size := by
  rintro q (rfl | rfl | hq)
  · exact heap_lt h.1
  · exact heap_lt h.2.2
  · exact h.2.1.lt hq

theorem ends_len (s : ByteArray) : (endsI s).length = ncl s := by simp [endsI]
theorem ends_at {s : ByteArray} {i : Nat} (h : i < ncl s) : (endsI s)[i]? = some (bp s (i + 1) : Int) := by
  unfold endsI
  rw [List.getElem?_map, List.getElem?_range h]; rfl


theorem ones_one {a q : Nat} : ones [a] q ↔ q = a := by simp [ones]
theorem ones_two {a b q : Nat} : ones [a, b] q ↔ q = a ∨ q = b := by simp [ones]


theorem cis_ok : sIsB.Ok Tryd.prog 28 := by
  refine cis_vc ⟨cpieces_ok, trivial⟩ ?_
  rintro ⟨s, p⟩ w ⟨hU, hsm⟩ b w1 hn1 b1 w2 hn2
  dsimp only at hU hsm ⊢
  have hut := hU.lt
  have hs1 := hn1.size; have hs2 := hn2.size
  refine ⟨s, rfl, trivial, ?_⟩
  rintro x w3 ⟨hx, hxs, e23⟩
  have e02 := hn1.ext.trans hn2.ext
  have e03 := e02.trans e23
  have hU3 := hU.ext e03
  have hp3 := (hn2.ext.trans e23).heap hn1.heap
  have hb3 := e23.heap hn2.heap
  dsimp only [ptrB]
  have nd : ∀ q, q ≠ b1 → ¬ ones [b1] q := fun q hq h => hq (ones_one.1 h)
  refine ⟨pcL s, cC x, ones [b1], pc_iter hxs hU3 hsm, ⟨?_, ?_⟩, ⟨rfl, fun j hj => by omega, _, hb3⟩, ?_, ?_, ?_, ?_, ?_⟩
  · intro q hq; rw [ones_one] at hq; subst hq; exact heap_lt hb3
  · intro q hq
    refine ⟨cC_lt (heap_lt hxs) hU3 q hq, nd q ?_⟩
    rcases hq with h' | h' | h' <;> omega
  · rintro k D W W' ⟨rfl, hj, v, ha⟩ hsz hq
    exact ⟨rfl, hj, v, hq b1 _ (.inr (ones_one.2 rfl)) ha (.inl rfl)⟩
  · rintro _ k D W W' ⟨rfl, ha⟩ hsz hq
    exact ⟨rfl, hq b1 _ (.inr (ones_one.2 rfl)) ha (.inl rfl)⟩
  · rintro k pp D W hp ⟨rfl, hj, v, ha⟩ hM
    have hkl : k < ncl s := by have := (List.getElem?_eq_some_iff.1 hp).1; rwa [pc_len] at this
    rw [pc_get hkl] at hp
    cases hp
    have hpW := (hM.old (heap_lt hp3) (nd b (by omega))).trans hp3
    refine ⟨p, box_cell hpW, ?_⟩
    refine bcase_mk (fun h => ?_) (fun h => ?_)
    · have h : p ≤ (bp s k : Int) := by have := of_decide_eq_true h; exact this
      refine ⟨p, box_cell hpW, rfl, box_old ha, box_free ha, fun w6 hs6 => ⟨_, Step.stored hs6 (ones_one.2 rfl) hM.lt, rfl, ?_⟩⟩
      have hh := hs6.box ha
      have hv : ((pcP s k).1 : Int) == p ↔ isB s p = true := by
        show ((bp s k : Int) == p) = true ↔ _
        rw [beq_iff_eq, isB_iff]
        constructor
        · intro e; exact ⟨k, by omega, e⟩
        · rintro ⟨i, hi, e⟩
          by_cases hik : i < k
          · have := hj i hik; omega
          · have := bp_mono s (show k ≤ i by omega); omega
      rw [show (((pcP s k).1 : Int) == p) = isB s p from Bool.eq_iff_iff.2 hv] at hh
      exact hh
    · have h : (bp s k : Int) < p := by have := of_decide_eq_false h; exact Int.not_le.1 this
      refine ⟨_, Step.refl hM.lt, rfl, fun j hj' => ?_, v, ha⟩
      by_cases hjk : j = k
      · subst hjk; exact h
      · exact hj j (by omega)
  · rintro D W ⟨rfl, hj, v, ha⟩ hM
    rw [lenX_eq, pc_len] at hj
    have hpW := (hM.old (heap_lt hp3) (nd b (by omega))).trans hp3
    have eW : Ext w W := hM.ext e03 (fun q hq => by rw [ones_one] at hq; omega)
    refine ⟨p, box_cell hpW, rfl, box_old ha, box_free ha, fun w6 hs6 => ⟨_, box_cell (hs6.box ha), fun w7 ht => ⟨_, rfl, ?_, Ext.turn (eW.stored hs6 (by show _ ≤ b1; omega)) ht⟩⟩⟩
    have hv : (p == (s.size : Int)) = true ↔ isB s p = true := by
      rw [beq_iff_eq, isB_iff]
      constructor
      · intro e; exact ⟨ncl s, Nat.le_refl _, by rw [bp_end]; exact e.symm⟩
      · rintro ⟨i, hi, e⟩
        by_cases hik : i < ncl s
        · have := hj i hik; omega
        · have : i = ncl s := by omega
          subst this; rw [bp_end] at e; exact e.symm
    exact Bool.eq_iff_iff.2 hv
  · rintro D W ⟨rfl, ha⟩ hM
    have eW : Ext w W := hM.ext e03 (fun q hq => by rw [ones_one] at hq; omega)
    exact ⟨_, box_cell ha, fun w7 ht => ⟨_, rfl, rfl, Ext.turn eW ht⟩⟩

theorem clamp_min (s : ByteArray) (p : Int) : (if (s.size : Int) < (if (0 : Int) > p then (0 : Int) else p) then (s.size : Int) else if (0 : Int) > p then (0 : Int) else p) = (clampN s p : Int) := by
  unfold clampN
  split <;> split <;> (try split) <;> (try split) <;> omega

theorem bord_cons (s : ByteArray) : bordI s = 0 :: endsI s := by
  unfold bordI endsI
  rw [List.range_succ_eq_map, List.map_cons, List.map_map]
  rfl

end Go.Proofs.YthpjkgoahneldaaDoor
end

section
/-
  What is shown of a text, cluster by cluster: widths, the place where it is cut, its plain form.
-/
namespace Go.Proofs.YthpjkgoahneldaaDoor
open Go Vc Ut Tb Cl Orb

theorem numL (x : Nat) : ∀ j, (numS x j).length = j
  | 0 => rfl
  | j + 1 => by simp only [numS, List.length_cons, numL x j]
theorem strZ (l : List UInt8) : (strL l).size = l.length := by simp [strL, ByteArray.size]
theorem name_size (x : Nat) : (nameS x).size ≤ 8 := by
  unfold nameS
  rw [ByteArray.size_append, ByteArray.size_append, strZ, strZ, strZ, numL]
  have hj : numJ x ≤ 6 := by unfold numJ digN; split <;> (try split) <;> (try split) <;> (try split) <;> (try split) <;> omega
  show 1 + numJ x + 1 ≤ 8
  omega
theorem wideR_le (r : Int) (b : Bool) : (wideR r b).toNat ≤ 2 := by
  have h0 := widR_nonneg r
  unfold wideR
  split
  · omega
  · split <;> decide
theorem blank_size (n : Nat) : (blankS n).size = n := by simp [blankS, ByteArray.size]
theorem cut_size (k : ByteArray) : (cutS k).size ≤ k.size := by
  unfold cutS
  split
  · have := pos_le k 31; rw [size_ext this]; omega
  · exact Nat.le_refl _
theorem one_w (k : ByteArray) (col : Int) (l : Lk) : (oneC k col l).2 ≤ 16 ∧ (oneC k col l).1.size ≤ k.size + 16 := by
  have h1 := tab_bd l.tab
  have h2 := stop_bd col l.tab
  have h3 := name_size (sg k 0).toNat
  have h4 := wideR_le (sg k 0) l.wide
  have h5 := cut_size k
  have h6 : (ByteArray.mk #[]).size = 0 := rfl
  have h7 : (badS (bt k 0)).size = 4 := rfl
  have h8 : (ctlS (sg k 0)).size = 2 := rfl
  have h9 := blank_size (stopN col l.tab)
  unfold oneC
  split
  · dsimp only; omega
  · split
    · dsimp only; omega
    · split
      · dsimp only; omega
      · split
        · dsimp only; omega
        · split
          · split
            · dsimp only; omega
            · dsimp only; omega
          · split
            · dsimp only; rw [ByteArray.size_append]
              have : (ByteArray.mk #[226, 151, 140]).size = 3 := rfl
              omega
            · split
              · dsimp only; omega
              · split
                · dsimp only; omega
                · dsimp only; omega
theorem oneC_col {k : ByteArray} {c c' : Int} {l : Lk} (h : c.toNat % tabN l.tab = c'.toNat % tabN l.tab) : oneC k c l = oneC k c' l := by
  have e : stopN c l.tab = stopN c' l.tab := by unfold stopN; rw [h]
  unfold oneC
  rw [e]
theorem wdU_le (s : ByteArray) (c : Int) (l : Lk) : ∀ k, wdU s c l k ≤ 16 * k
  | 0 => Nat.le_refl _
  | k + 1 => by
    have := wdU_le s c l k
    have h := (one_w (pcP s k).2 (c + wdU s c l k) l).1
    simp only [wdU]
    omega
theorem wdU_mono (s : ByteArray) (c : Int) (l : Lk) {i j : Nat} (h : i ≤ j) : wdU s c l i ≤ wdU s c l j := by
  induction j with
  | zero => have : i = 0 := by omega
            subst this; exact Nat.le_refl _
  | succ j ih =>
    rcases Nat.lt_or_ge j i with h1 | h1
    · have : i = j + 1 := by omega
      subst this; exact Nat.le_refl _
    · have := ih h1
      simp only [wdU]; omega
theorem piece_one {s : ByteArray} {i : Nat} (hi : i < ncl s) : ncl (pcP s i).2 = 1 ∧ bp (pcP s i).2 1 = (pcP s i).2.size ∧ 0 < (pcP s i).2.size := by
  obtain ⟨t, h1, h2, h3⟩ := pc_own hi
  rw [h1]
  obtain ⟨g1, g2, g3, _⟩ := own_laws h2 h3
  refine ⟨g1, g2, ?_⟩
  exact Nat.lt_of_lt_of_le g3 (cnt_le _)
theorem self_piece {k : ByteArray} (h2 : bp k 1 = k.size) : (pcP k 0).2 = k := by
  unfold pcP
  rw [show (0 : Nat) + 1 = 1 from rfl, h2, bp_zero]; exact ByteArray.extract_zero_size
theorem self_text {k : ByteArray} (h2 : bp k 1 = k.size) (h3 : 0 < k.size) (col : Int) (l : Lk) : textC k col l = oneC k col l := by
  unfold textC
  rw [if_neg (by omega), self_piece h2]
theorem piece_text {s : ByteArray} {i : Nat} (hi : i < ncl s) (col : Int) (l : Lk) : textC (pcP s i).2 col l = oneC (pcP s i).2 col l := by
  obtain ⟨h1, h2, h3⟩ := piece_one hi
  exact self_text h2 h3 col l
theorem cut_at {s : ByteArray} {w : Int} {l : Lk} {i : Nat} (hi : i < ncl s) (hn : ∀ j, j < i → ¬ w < (wdU s 0 l (j + 1) : Int)) (h : w < (wdU s 0 l (i + 1) : Int)) : cutI s w l = i := by
  unfold cutI
  have : (List.range (ncl s)).find? (fun i => decide (w < (wdU s 0 l (i + 1) : Int))) = some i := by
    rw [List.find?_range_eq_some]
    exact ⟨decide_eq_true h, List.mem_range.2 hi, fun j hj => by simpa using hn j hj⟩
  rw [this]; rfl
theorem cut_none {s : ByteArray} {w : Int} {l : Lk} (hn : ∀ j, j < ncl s → ¬ w < (wdU s 0 l (j + 1) : Int)) : cutI s w l = ncl s := by
  unfold cutI
  have : (List.range (ncl s)).find? (fun i => decide (w < (wdU s 0 l (i + 1) : Int))) = none := by
    rw [List.find?_eq_none]
    intro x hx
    simpa using hn x (List.mem_range.1 hx)
  rw [this]; rfl
theorem cutP_at {s : ByteArray} {w : Int} {l : Lk} {i : Nat} (hi : i < ncl s) (hn : ∀ j, j < i → ¬ w < (wdU s 0 l (j + 1) : Int)) (h : w < (wdU s 0 l (i + 1) : Int)) : cutP s w l = bp s i := by
  unfold cutP; rw [cut_at hi hn h, if_pos hi]
theorem cutP_none {s : ByteArray} {w : Int} {l : Lk} (hn : ∀ j, j < ncl s → ¬ w < (wdU s 0 l (j + 1) : Int)) : cutP s w l = if w < 0 then 0 else s.size := by
  unfold cutP; rw [cut_none hn, if_neg (Nat.lt_irrefl _)]
theorem plainU_size (s : ByteArray) : ∀ k, (plainU s k).size ≤ bp s k + 16 * k
  | 0 => Nat.zero_le _
  | k + 1 => by
    have h := plainU_size s k
    have h1 := (one_w (pcP s k).2 0 rawL).2
    have h2 : (pcP s k).2.size = bp s (k + 1) - bp s k := size_ext (bp_le s _)
    have h3 := bp_mono s (show k ≤ k + 1 by omega)
    have h4 : (plainP (pcP s k).2).size ≤ (pcP s k).2.size + 16 := by
      unfold plainP
      split
      · exact Nat.le_trans (show (4 : Nat) ≤ 16 by decide) (Nat.le_add_left _ _)
      · split
        · exact Nat.le_trans (show (2 : Nat) ≤ 16 by decide) (Nat.le_add_left _ _)
        · split
          · exact Nat.le_trans (show (2 : Nat) ≤ 16 by decide) (Nat.le_add_left _ _)
          · exact h1
    simp only [plainU]
    rw [ByteArray.size_append]
    omega

end Go.Proofs.YthpjkgoahneldaaDoor
end

section
/-
  Chapter 6: how many columns a text takes, where it is cut: both walks.
-/
namespace Go.Proofs.YthpjkgoahneldaaDoor
open Go Go.RowKit Vc Ut Tb Cl

theorem DB.lt {w : World} (h : DB w) : 5 < w.heap.size := World.block_lt_of_cell? w _ h
theorem DB.fr {S : Nat → Prop} {w w' : World} (h : DB w) (hf : Fr S w w') (h0 : ¬ S 5) : DB w' :=
  (World.cell?_of_block (w := w) (hf.block _ h.lt h0)).trans h
theorem stop_zero (t : Int) : stopN 0 t = tabN t := by
  unfold stopN
  rw [show (0 : Int).toNat = 0 from rfl, Nat.zero_mod]; rfl
theorem stop_sub (c t : Int) : (stopN 0 t : Int) - (stopN c t : Int) = ((c.toNat % tabN t : Nat) : Int) := by
  have h := tab_bd t
  have := Nat.mod_lt c.toNat (show 0 < tabN t by omega)
  rw [stop_zero]
  unfold stopN
  omega
theorem red_bd (c : Int) (l : Lk) : 0 ≤ redC c l ∧ redC c l ≤ 16 := by
  have h := tab_bd l.tab
  have := Nat.mod_lt c.toNat (show 0 < tabN l.tab by omega)
  unfold redC
  omega
theorem wdU_succ (s : ByteArray) (c : Int) (l : Lk) (k : Nat) : ((wdU s c l (k + 1) : Nat) : Int) = (wdU s c l k : Int) + ((oneC (pcP s k).2 (c + wdU s c l k) l).2 : Int) := by
  simp only [wdU]; omega

theorem pc_size (s : ByteArray) (i : Nat) : (pcP s i).2.size = bp s (i + 1) - bp s i := size_ext (bp_le s _)
theorem pc_small {s : ByteArray} {i : Nat} (h : s.size ≤ 67108864) : (pcP s i).2.size ≤ 67108864 := by
  have := pc_size s i; have := bp_le s (i + 1); omega
theorem ones_three {a b c q : Nat} : ones [a, b, c] q ↔ q = a ∨ q = b ∨ q = c := by simp [ones]

set_option maxRecDepth 100000 in
theorem widc_ok : (sTxN wideS).Ok Tryd.prog 48 := by
  refine widC_vc ⟨stop_ok, call_ok, textp_ok, trivial⟩ ?_
  rintro ⟨s, col, l⟩ w ⟨hU, hD, hsm⟩ b w1 hn1 b1 w2 hn2 b2 w3 hn3
  dsimp only at hU hD hsm ⊢
  have z1 := hn1.size; have z2 := hn2.size; have z3 := hn3.size
  have hut := hU.lt; have hdt := hD.lt
  have e03 : Ext w w3 := Ext.trans hn1.ext (Ext.trans hn2.ext hn3.ext)
  have h3 := hn3.heap
  have nb : b ≠ b2 := by omega
  have nb1 : b1 ≠ b2 := by omega
  have nbb : b1 ≠ b := by omega
  refine ⟨rfl, box_old h3, box_free h3, fun w4 hs4 => ?_⟩
  have e04 : Ext w w4 := Ext.stored e03 hs4 (by show _ ≤ b2; omega)
  have h42 := hs4.box h3
  have h40 := (hs4.other (k := b) nb).trans ((Ext.trans hn2.ext hn3.ext).heap hn1.heap)
  have h41 := (hs4.other (k := b1) nb1).trans (hn3.ext.heap hn2.heap)
  intro w5 hd5
  obtain ⟨c0, c1, c2, c3, c4⟩ := look_at (l := l) h41
  refine ⟨l.tab, c0, l.wide, c1, l.want, c2, l.join, c3, l.raw, c4, col, box_cell h40, l.tab, c0, l.wide, c1, l.want, c2, l.join, c3, l.raw, c4, (0, l), rfl, trivial, ?_⟩
  rintro x w6 ⟨hx, e56⟩
  refine ⟨e56, (col, l), rfl, trivial, ?_⟩
  rintro y w7 ⟨hy, e67⟩
  dsimp only at hx hy
  have e47 : Ext w4 w7 := Ext.trans hd5.ext (Ext.trans e56 e67)
  have hxy : (x : Int) - (y : Int) = redC col l := by rw [hx, hy, stop_sub]; rfl
  rw [hxy]
  have hrb := red_bd col l
  have h70 := e47.heap h40
  refine ⟨inr_i64 (by omega) (by omega), rfl, box_old h70, box_free h70, fun w8 hs8 => ?_⟩
  have e08 : Ext w w8 := Ext.stored (Ext.trans e04 e47) hs8 (by show _ ≤ b; omega)
  have h80 := hs8.box h70
  have h81 := (hs8.other (k := b1) nbb).trans (e47.heap h41)
  have h82 := (hs8.other (k := b2) nb.symm).trans (e47.heap h42)
  refine ⟨s, rfl, trivial, ?_⟩
  rintro v w9 ⟨hv, hvs, e89⟩
  have e09 := Ext.trans e08 e89
  have hU9 := hU.ext e09
  have hD9 := hD.ext e09
  have h90 := e89.heap h80
  have h91 := e89.heap h81
  have h92 := e89.heap h82
  have hncl := ncl_le s
  have l0 := heap_lt h90; have l1 := heap_lt h91; have l2 := heap_lt h92; have lv := heap_lt hvs
  have z8 := e08.size
  have hb8 := heap_lt h82
  dsimp only [ptrB]
  have nd : ∀ q, q ≠ b2 → ¬ ones [b2] q := fun q hq h => hq (ones_one.1 h)
  refine ⟨pcL s, cC v, ones [b2], pc_iter hvs hU9 hsm, ⟨?_, ?_⟩, ⟨rfl, h92⟩, ?_, ?_, ?_, ?_, trivial⟩
  · intro q hq; rw [ones_one] at hq; subst hq; exact l2
  · intro q hq
    refine ⟨cC_lt lv hU9 q hq, nd q ?_⟩
    rcases hq with h' | h' | h' <;> omega
  · rintro k D W W' ⟨rfl, ha⟩ hsz hq
    exact ⟨rfl, hq b2 _ (.inr (ones_one.2 rfl)) ha (.inl rfl)⟩
  · rintro _ k D W W' h hsz hq
    exact h
  · rintro k p D W hp ⟨rfl, ha⟩ hM
    have hkl : k < ncl s := by have := (List.getElem?_eq_some_iff.1 hp).1; rwa [pc_len] at this
    rw [pc_get hkl] at hp
    cases hp
    have hW0 := (hM.old l0 (nd b nb)).trans h90
    have hW1 := (hM.old l1 (nd b1 nb1)).trans h91
    obtain ⟨d0, d1, d2, d3, d4⟩ := look_at (l := l) hW1
    have hwl := wdU_le s (redC col l) l k
    have how := (one_w (pcP s k).2 (redC col l + wdU s (redC col l) l k) l).1
    have hps := pc_small (s := s) (i := k) hsm
    refine ⟨_, box_cell hW0, _, box_cell ha, inr_i64 (by omega) (by omega), l.tab, d0, l.wide, d1, l.want, d2, l.join, d3, l.raw, d4, ⟨(pcP s k).2, redC col l + wdU s (redC col l) l k, l⟩, rfl, ⟨hU9.fr hM.fr (nd _ (by omega)) (nd _ (by omega)), hD9.fr hM.fr (nd _ (by omega)), hps⟩, ?_⟩
    rintro ⟨t, n⟩ V ⟨ht, eV⟩
    dsimp only at ht ⊢
    rw [piece_text hkl] at ht
    have hn : n = (oneC (pcP s k).2 (redC col l + wdU s (redC col l) l k) l).2 := by rw [← ht]
    have haV := eV.heap ha
    refine ⟨_, box_cell haV, inr_i64 (by omega) (by omega), rfl, box_old haV, box_free haV, fun V2 hsV => ⟨_, (Step.ext eV hM.lt).trans (Step.stored hsV (ones_one.2 rfl) (fun q hq => Nat.lt_of_lt_of_le (hM.lt q hq) eV.size)), rfl, ?_⟩⟩
    have := hsV.box haV
    rw [wdU_succ, ← hn]; exact this
  · rintro D W ⟨rfl, ha⟩ hM
    rw [lenX_eq, pc_len] at ha
    have eW : Ext w W := hM.ext e09 (fun q hq => by rw [ones_one] at hq; omega)
    exact ⟨_, box_cell ha, fun w7 ht => ⟨wideS s col l, rfl, rfl, Ext.turn eW ht⟩⟩

set_option maxRecDepth 100000 in
theorem cutc_ok : (sTxN cutP).Ok Tryd.prog 50 := by
  refine cutC_vc ⟨stop_ok, call_ok, textp_ok, trivial⟩ ?_
  rintro ⟨s, col, l⟩ w ⟨hU, hD, hsm⟩ b w1 hn1 b1 w2 hn2 b2 w3 hn3 b3 w4 hn4 b4 w5 hn5
  dsimp only at hU hD hsm ⊢
  have z1 := hn1.size; have z2 := hn2.size; have z3 := hn3.size; have z4 := hn4.size; have z5 := hn5.size
  have hut := hU.lt; have hdt := hD.lt
  have e35 : Ext w3 w5 := Ext.trans hn4.ext hn5.ext
  have e25 : Ext w2 w5 := Ext.trans hn3.ext e35
  have e05 : Ext w w5 := Ext.trans hn1.ext (Ext.trans hn2.ext e25)
  have h50 := (Ext.trans hn2.ext e25).heap hn1.heap
  have h51 := e25.heap hn2.heap
  have h52 := e35.heap hn3.heap
  have h53 := hn5.ext.heap hn4.heap
  have h54 := hn5.heap
  refine ⟨rfl, box_old h53, box_free h53, fun w6 hs6 => ?_⟩
  have e06 : Ext w w6 := Ext.stored e05 hs6 (by show _ ≤ b3; omega)
  have h60 := (hs6.other (k := b) (by show b ≠ b3; omega)).trans h50
  have h61 := (hs6.other (k := b1) (by show b1 ≠ b3; omega)).trans h51
  have h62 := (hs6.other (k := b2) (by show b2 ≠ b3; omega)).trans h52
  have h63 := hs6.box h53
  have h64 := (hs6.other (k := b4) (by show b4 ≠ b3; omega)).trans h54
  refine ⟨rfl, box_old h64, box_free h64, fun w7 hs7 => ?_⟩
  have e07 : Ext w w7 := Ext.stored e06 hs7 (by show _ ≤ b4; omega)
  have h70 := (hs7.other (k := b) (by show b ≠ b4; omega)).trans h60
  have h71 := (hs7.other (k := b1) (by show b1 ≠ b4; omega)).trans h61
  have h72 := (hs7.other (k := b2) (by show b2 ≠ b4; omega)).trans h62
  have h73 := (hs7.other (k := b3) (by show b3 ≠ b4; omega)).trans h63
  have h74 := hs7.box h64
  refine ⟨s, rfl, trivial, ?_⟩
  rintro v w9 ⟨hv, hvs, e79⟩
  have e09 := Ext.trans e07 e79
  have hU9 := hU.ext e09
  have hD9 := hD.ext e09
  have h90 := e79.heap h70
  have h91 := e79.heap h71
  have h92 := e79.heap h72
  have h93 := e79.heap h73
  have h94 := e79.heap h74
  have hncl := ncl_le s
  have l0 := heap_lt h90; have l1 := heap_lt h91; have l2 := heap_lt h92; have l3 := heap_lt h93; have l4 := heap_lt h94; have lv := heap_lt hvs
  have k4 := heap_lt h74
  dsimp only [ptrB]
  have n23 : b2 ≠ b3 := by omega
  have n24 : b2 ≠ b4 := by omega
  have n34 : b3 ≠ b4 := by omega
  have nd : ∀ q, q < b2 ∨ b4 < q → ¬ ones [b2, b3, b4] q := fun q hq h => by rcases ones_three.1 h with h | h | h <;> omega
  have dm : ∀ {q : Nat}, q = b2 ∨ q = b3 ∨ q = b4 → ones [b2, b3, b4] q := ones_three.2
  refine ⟨pcL s, cC v, ones [b2, b3, b4], pc_iter hvs hU9 hsm, ⟨?_, ?_⟩, ⟨rfl, fun j hj => by omega, ⟨_, h92⟩, h93, h94⟩, ?_, ?_, ?_, ?_, ?_⟩
  · intro q hq; rcases ones_three.1 hq with rfl | rfl | rfl
    · exact l2
    · exact l3
    · exact l4
  · intro q hq
    refine ⟨cC_lt lv hU9 q hq, nd q ?_⟩
    rcases hq with h' | h' | h' <;> omega
  · rintro k D W W' ⟨rfl, hj, ⟨v, ha⟩, hb, hc⟩ hsz hq
    exact ⟨rfl, hj, ⟨v, hq b2 _ (.inr (dm (.inl rfl))) ha (.inl rfl)⟩, hq b3 _ (.inr (dm (.inr (.inl rfl)))) hb (.inl rfl), hq b4 _ (.inr (dm (.inr (.inr rfl)))) hc (.inl rfl)⟩
  · rintro _ k D W W' ⟨rfl, ha⟩ hsz hq
    exact ⟨rfl, hq b2 _ (.inr (dm (.inl rfl))) ha (.inl rfl)⟩
  · rintro k p D W hp ⟨rfl, hj, ⟨v, ha⟩, hb, hc⟩ hM
    have hkl : k < ncl s := by have := (List.getElem?_eq_some_iff.1 hp).1; rwa [pc_len] at this
    rw [pc_get hkl] at hp
    cases hp
    have hW0 := (hM.old l0 (nd b (by omega))).trans h90
    have hW1 := (hM.old l1 (nd b1 (by omega))).trans h91
    obtain ⟨d0, d1, d2, d3, d4⟩ := look_at (l := l) hW1
    have hwl := wdU_le s 0 l k
    have how := (one_w (pcP s k).2 (wdU s 0 l k) l).1
    have hps := pc_small (s := s) (i := k) hsm
    refine ⟨_, box_cell hb, l.tab, d0, l.wide, d1, l.want, d2, l.join, d3, l.raw, d4, ⟨(pcP s k).2, wdU s 0 l k, l⟩, rfl, ⟨hU9.fr hM.fr (nd _ (by omega)) (nd _ (by omega)), hD9.fr hM.fr (nd _ (by omega)), hps⟩, ?_⟩
    rintro ⟨t, n⟩ V ⟨ht, eV⟩
    dsimp only at ht ⊢
    rw [piece_text hkl] at ht
    have hn : n = (oneC (pcP s k).2 (wdU s 0 l k) l).2 := by rw [← ht]
    have hsucc : ((wdU s 0 l (k + 1) : Nat) : Int) = (wdU s 0 l k : Int) + (n : Int) := by rw [wdU_succ, hn, Int.zero_add]
    have hbV := eV.heap hb
    have lVt := fun q (hq : ones [b2, b3, b4] q) => Nat.lt_of_lt_of_le (hM.lt q hq) eV.size
    refine ⟨_, box_cell hbV, inr_i64 (by omega) (by omega), rfl, box_old hbV, box_free hbV, fun V2 hsV => ?_⟩
    have hsz2 := hsV.size
    have lV2 := fun q (hq : ones [b2, b3, b4] q) => (show q < V2.heap.size by rw [hsV.size]; exact lVt q hq)
    have st2 := (Step.ext eV hM.lt).trans (Step.stored hsV (dm (.inr (.inl rfl))) lVt)
    have hb2 := hsV.box hbV
    rw [← hsucc] at hb2
    have h02 := (hsV.other (k := b) (by show b ≠ b3; omega)).trans (eV.heap hW0)
    have ha2 := (hsV.other (k := b2) n23).trans (eV.heap ha)
    have hc2 := (hsV.other (k := b4) n34.symm).trans (eV.heap hc)
    refine ⟨_, box_cell hb2, _, box_cell h02, bcase_mk (fun h => ?_) (fun h => ?_)⟩
    · have h := of_decide_eq_true h
      refine ⟨_, box_cell hc2, rfl, box_old ha2, box_free ha2, fun V3 hs3 => ⟨_, st2.trans (Step.stored hs3 (dm (.inl rfl)) lV2), rfl, ?_⟩⟩
      rw [cutP_at hkl hj h]
      exact hs3.box ha2
    · have h := of_decide_eq_false h
      have hbm := bp_mono s (show k ≤ k + 1 by omega)
      have hbl := bp_le s (k + 1)
      have hpz := pc_size s k
      have hend : ((pcP s k).1 : Int) + ((pcP s k).2.size : Int) = (bp s (k + 1) : Int) := by
        rw [hpz]; show (bp s k : Int) + ((bp s (k + 1) - bp s k : Nat) : Int) = _; omega
      rw [hend]
      refine ⟨inr_i64 (by omega) (by omega), rfl, box_old hc2, box_free hc2, fun V3 hs3 => ⟨_, st2.trans (Step.stored hs3 (dm (.inr (.inr rfl))) lV2), rfl, fun j hj' => ?_, ⟨v, (hs3.other (k := b2) n24).trans ha2⟩, (hs3.other (k := b3) n34).trans hb2, hs3.box hc2⟩⟩
      by_cases hjk : j = k
      · subst hjk; exact h
      · exact hj j (by omega)
  · rintro D W ⟨rfl, hj, ⟨v, ha⟩, hb, hc⟩ hM
    rw [lenX_eq, pc_len] at hj hc
    have hW0 := (hM.old l0 (nd b (by omega))).trans h90
    have eW : Ext w W := hM.ext e09 (fun q hq => by rcases ones_three.1 hq with h | h | h <;> omega)
    have hcut := cutP_none hj
    refine ⟨_, box_cell hW0, bcase_mk (fun h => ?_) (fun h => ?_)⟩
    · have h := of_decide_eq_true h
      rw [if_pos h] at hcut
      exact ⟨rfl, box_old ha, box_free ha, fun W2 hs2 => ⟨_, box_cell (hs2.box ha), fun W3 ht => ⟨0, rfl, hcut.symm, Ext.turn (Ext.stored eW hs2 (by show _ ≤ b2; omega)) ht⟩⟩⟩
    · have h := of_decide_eq_false h
      rw [if_neg h] at hcut
      rw [bp_end] at hc
      exact ⟨_, box_cell hc, rfl, box_old ha, box_free ha, fun W2 hs2 => ⟨_, box_cell (hs2.box ha), fun W3 ht => ⟨s.size, rfl, hcut.symm, Ext.turn (Ext.stored eW hs2 (by show _ ≤ b2; omega)) ht⟩⟩⟩
  · rintro D W ⟨rfl, ha⟩ hM
    have eW : Ext w W := hM.ext e09 (fun q hq => by rcases ones_three.1 hq with h | h | h <;> omega)
    exact ⟨_, box_cell ha, fun w7 ht => ⟨_, rfl, rfl, Ext.turn eW ht⟩⟩

/-! ### The document's -/
theorem rest_ok : sRest.Ok Tryd.prog 82 := by
  refine rest_vc ⟨tab_ok, trivial⟩ ?_
  rintro ⟨c, l⟩ w hc b w1 hn
  dsimp only at hc ⊢
  obtain ⟨c0, c1, c2, c3, c4⟩ := look_at (l := l) hn.heap
  refine ⟨l.tab, c0, l.wide, c1, l.want, c2, l.join, c3, l.raw, c4, (0, l), rfl, trivial, ?_⟩
  rintro x w2 ⟨hx, e2⟩
  dsimp only at hx
  rw [stop_zero] at hx
  have ht := tab_bd l.tab
  subst hx
  refine ⟨hc, by omega, c.toNat % tabN l.tab, ?_, rfl, Ext.trans hn.ext e2⟩
  rw [Int.natCast_emod, Int.toNat_of_nonneg hc]

set_option maxRecDepth 100000 in
theorem widr_ok : (sTxN wideS).Ok Tryd.prog 49 := by
  refine widR_vc ⟨rallP_ok, rest_ok, textr_ok, trivial⟩ ?_
  rintro ⟨s, col, l⟩ w ⟨hU, hD, hsm⟩ b w1 hn
  dsimp only at hU hD hsm ⊢
  have hncl := ncl_le s
  refine ⟨bcase_mk (fun h => ⟨(), by rw [if_pos (of_decide_eq_true h)], rfl⟩) (fun h => ⟨(), by rw [if_neg (of_decide_eq_false h)], rfl⟩), ?_⟩
  rintro _ _ w2 hw2
  replace hw2 := hw2.symm
  subst hw2
  have e1 : Ext w w1 := hn.ext
  refine ⟨s, rfl, ⟨hU.ext e1, hsm⟩, ?_⟩
  rintro ⟨a, n, c⟩ w2 ⟨hnn, hm⟩
  dsimp only at hnn hm ⊢
  subst hnn
  have e12 : Ext w1 w2 := hm.ext
  have e02 := Ext.trans e1 e12
  have hce := hm.row.cells
  obtain ⟨c0, c1, c2, c3, c4⟩ := look_at (l := l) (e12.heap hn.heap)
  refine ⟨⟨0, rfl, rfl, Nat.zero_le _, Ext.refl _⟩, ?_⟩
  rintro _ i w3 ⟨hi, e23⟩
  refine bcase_mk (fun h => ?_) (fun h => ?_)
  · have hlt : i < ncl s := by have := of_decide_eq_true h; omega
    intro w4 hd4
    have q0 := e23.cell c0; have q1 := e23.cell c1; have q2 := e23.cell c2; have q3 := e23.cell c3; have q4 := e23.cell c4
    refine ⟨i, rfl, hlt, (hce.ext e23).fld (s := 2) (j := 1) (pc_at hlt (by decide)) fun b1 o1 hc1 => ⟨(pcP s i).2, hc1, l.tab, q0, l.wide, q1, l.want, q2, l.join, q3, l.raw, q4, l.tab, q0, l.wide, q1, l.want, q2, l.join, q3, l.raw, q4, l.tab, q0, l.wide, q1, l.want, q2, l.join, q3, l.raw, q4, (if col < 0 then 0 else col, l), rfl, by dsimp only; split <;> omega, ?_⟩⟩
    rintro x w5 ⟨hx, e45⟩
    refine ⟨e45, (wdU s (redC col l) l i, l), rfl, Int.natCast_nonneg _, ?_⟩
    rintro y w6 ⟨hy, e56⟩
    dsimp only at hx hy
    have ht := tab_bd l.tab
    have hxl : x < tabN l.tab := by rw [hx]; exact Nat.mod_lt _ (by omega)
    have hyl : y < tabN l.tab := by rw [hy]; exact Nat.mod_lt _ (by omega)
    have e06 := Ext.trans e02 (Ext.trans e23 (Ext.trans hd4.ext (Ext.trans e45 e56)))
    have hps := pc_small (s := s) (i := i) hsm
    refine ⟨e56, inr_i64 (by omega) (by omega), ⟨(pcP s i).2, (x : Int) + (y : Int), l⟩, rfl, ⟨hU.ext e06, hD.ext e06, hps⟩, ?_⟩
    rintro ⟨t, m⟩ w7 ⟨ht7, e67⟩
    dsimp only at ht7 ⊢
    rw [piece_text hlt] at ht7
    have hxc : x = col.toNat % tabN l.tab := by
      rw [hx]
      by_cases hneg : col < 0
      · rw [if_pos hneg, show col.toNat = 0 from by omega]; rfl
      · rw [if_neg hneg]
    have hcol : ((x : Int) + (y : Int)).toNat % tabN l.tab = (redC col l + wdU s (redC col l) l i).toNat % tabN l.tab := by
      have hr : redC col l = (x : Int) := by rw [hxc]; rfl
      rw [show ((wdU s (redC col l) l i : Nat) : Int).toNat = wdU s (redC col l) l i from rfl] at hy
      rw [show ((x : Int) + (y : Int)).toNat = x + y from by omega, show (redC col l + wdU s (redC col l) l i).toNat = x + wdU s (redC col l) l i from by omega, hy, Nat.add_mod_mod]
    rw [oneC_col hcol] at ht7
    have hm2 : m = (oneC (pcP s i).2 (redC col l + wdU s (redC col l) l i) l).2 := by rw [← ht7]
    have hwl := wdU_le s (redC col l) l i
    have how := (one_w (pcP s i).2 (redC col l + wdU s (redC col l) l i) l).1
    refine ⟨inr_i64 (by omega) (by omega), inr_i64 (by omega) (by omega), i + 1, by simp, by rw [wdU_succ, ← hm2], ⟨hlt, Ext.trans e23 (Ext.trans hd4.ext (Ext.trans e45 (Ext.trans e56 e67)))⟩, by omega⟩
  · have hi2 : i = ncl s := by have := of_decide_eq_false h; omega
    subst hi2
    exact ⟨wideS s col l, rfl, rfl, Ext.trans e02 e23⟩

set_option maxRecDepth 100000 in
theorem cutr_ok : (sTxN cutP).Ok Tryd.prog 51 := by
  refine cutR_vc ⟨rallP_ok, rest_ok, textr_ok, trivial⟩ ?_
  rintro ⟨s, col, l⟩ w ⟨hU, hD, hsm⟩ b w1 hn
  dsimp only at hU hD hsm ⊢
  have hncl := ncl_le s
  have e1 : Ext w w1 := hn.ext
  refine ⟨s, rfl, ⟨hU.ext e1, hsm⟩, ?_⟩
  rintro ⟨a, n, c⟩ w2 ⟨hnn, hm⟩
  dsimp only at hnn hm ⊢
  subst hnn
  have e12 : Ext w1 w2 := hm.ext
  have e02 := Ext.trans e1 e12
  have hce := hm.row.cells
  obtain ⟨c0, c1, c2, c3, c4⟩ := look_at (l := l) (e12.heap hn.heap)
  refine ⟨⟨0, rfl, rfl, rfl, Nat.zero_le _, fun j hj => by omega, Ext.refl _⟩, ?_⟩
  rintro _ i w3 ⟨hi, hj, e23⟩
  refine bcase_mk (fun h => ?_) (fun h => ?_)
  · have hlt : i < ncl s := by have := of_decide_eq_true h; omega
    intro w4 hd4
    have q0 := e23.cell c0; have q1 := e23.cell c1; have q2 := e23.cell c2; have q3 := e23.cell c3; have q4 := e23.cell c4
    have e04 := Ext.trans e02 (Ext.trans e23 hd4.ext)
    have hps := pc_small (s := s) (i := i) hsm
    refine ⟨i, rfl, hlt, (hce.ext e23).fld (s := 2) (j := 1) (pc_at hlt (by decide)) fun b1 o1 hc1 => ⟨(pcP s i).2, hc1, l.tab, q0, l.wide, q1, l.want, q2, l.join, q3, l.raw, q4, ⟨(pcP s i).2, wdU s 0 l i, l⟩, rfl, ⟨hU.ext e04, hD.ext e04, hps⟩, ?_⟩⟩
    rintro ⟨t, m⟩ w5 ⟨ht5, e45⟩
    dsimp only at ht5 ⊢
    rw [piece_text hlt] at ht5
    have hm2 : m = (oneC (pcP s i).2 (wdU s 0 l i) l).2 := by rw [← ht5]
    have hsucc : ((wdU s 0 l (i + 1) : Nat) : Int) = (wdU s 0 l i : Int) + (m : Int) := by rw [wdU_succ, hm2, Int.zero_add]
    have hwl := wdU_le s 0 l i
    have how := (one_w (pcP s i).2 (wdU s 0 l i) l).1
    have e25 := Ext.trans e23 (Ext.trans hd4.ext e45)
    rw [← hsucc]
    refine ⟨inr_i64 (by omega) (by omega), bcase_mk (fun h => ?_) (fun h => ?_)⟩
    · have h := of_decide_eq_true h
      exact ⟨bp s i, rfl, (cutP_at hlt hj h).symm, Ext.trans e02 e25⟩
    · have h := of_decide_eq_false h
      intro w6 hd6
      have hbm := bp_mono s (show i ≤ i + 1 by omega)
      have hbl := bp_le s (i + 1)
      have hpz := pc_size s i
      have hend : ((bp s i : Nat) : Int) + ((pcP s i).2.size : Int) = (bp s (i + 1) : Int) := by rw [hpz]; omega
      refine ⟨i, rfl, hlt, (hce.ext e25).fld (s := 2) (j := 0) (pc_at hlt (by decide)) fun b5 o5 hc5 => ⟨(bp s i : Int), hc5, i, rfl, hlt, (hce.ext e25).fld (s := 2) (j := 1) (pc_at hlt (by decide)) fun b6 o6 hc6 => ⟨(pcP s i).2, hc6, ?_⟩⟩⟩
      rw [hend]
      refine ⟨inr_i64 (by omega) (by omega), inr_i64 (by omega) (by omega), i + 1, by simp, rfl, rfl, ⟨hlt, fun j hj' => ?_, Ext.trans e25 hd6.ext⟩, by omega⟩
      by_cases hji : j = i
      · subst hji; exact h
      · exact hj j (by omega)
  · have hi2 : i = ncl s := by have := of_decide_eq_false h; omega
    subst hi2
    have hcut := cutP_none hj
    refine bcase_mk (fun h => ?_) (fun h => ?_)
    · rw [if_pos (of_decide_eq_true h)] at hcut
      exact ⟨0, rfl, hcut.symm, Ext.trans e02 e23⟩
    · rw [if_neg (of_decide_eq_false h)] at hcut
      exact ⟨s.size, by rw [bp_end], hcut.symm, Ext.trans e02 e23⟩

end Go.Proofs.YthpjkgoahneldaaDoor
end

section
/-
  append(b, s...) of a string's bytes onto a row of one's own.
-/
namespace Go.Proofs.YthpjkgoahneldaaDoor.Vc
open Go Go.RowKit

theorem Row.pushStr {P : Program} {w : World} {t u ty e : TypeId} (hE : ElemOk P t e 1 1) (hu : P.underlying u = some .string) {ad : Option Addr} {n c : Nat} {vs : List Value} (h : Row w e 1 ad n vs c) (s : ByteArray) (hb : n + s.size ≤ 70368744177664) :
    ∃ ad' c' w2, AppRun P #[t, u] ty (.slice ad n c) (.string s) w ad' (n + s.size) c' w2 ∧ KO w w2 ∧ Row w2 e 1 ad' (n + s.size) (vs ++ Lib.strCells s) c' ∧ w.grownBy w2 (blk ad) ∧
      (ad' = ad ∨ (ad' = some ⟨w.heap.size, 0, none⟩ ∧ w.heap.size < w2.heap.size ∧ Ext w w2)) := by
  obtain ⟨i, z, hi, hz, hsize, hby, hzs⟩ := hE.info
  have ht := hE.und
  have hlen : (vs ++ Lib.strCells s).length = (n + s.size) * 1 := by rw [List.length_append, h.1, Lib.strCells_length]; omega
  have h63 : n + s.size ≤ maxLen := by unfold maxLen; omega
  have hko : ∀ {w2 : World}, w.grownBy w2 (blk ad) → KO w w2 := fun hg => KO.grown hg (fun j o hj ho => by
    rcases h.2 with ⟨h1, _⟩ | ⟨g, cur, h1, h2, _⟩
    · subst h1; cases hj
    · subst h1; cases hj; rw [h2] at ho; cases ho; rfl)
  have grown : ∀ (old : Nat), old < n + s.size → ∀ (row : Option Nat) (xs : Array Value), xs = vs.toArray ++ (Lib.strCells s).toArray →
      Row (w.drew.alloc (.cells (xs ++ Builtin.zeroCells z.cells (grownCap w (n + s.size) old e - (n + s.size))) e)) e 1 (some ⟨w.heap.size, 0, none⟩) (n + s.size) (vs ++ Lib.strCells s) (grownCap w (n + s.size) old e) ∧
      w.grownBy (w.drew.alloc (.cells (xs ++ Builtin.zeroCells z.cells (grownCap w (n + s.size) old e - (n + s.size))) e)) row ∧ w.heap.size < (w.drew.alloc (.cells (xs ++ Builtin.zeroCells z.cells (grownCap w (n + s.size) old e - (n + s.size))) e)).heap.size ∧
      Ext w (w.drew.alloc (.cells (xs ++ Builtin.zeroCells z.cells (grownCap w (n + s.size) old e - (n + s.size))) e)) := by
    intro old ho row xs hxs
    subst hxs
    have hge := grownCap_ge w (n + s.size) old e
    have hcm : grownCap w (n + s.size) old e ≤ maxLen := grownCap_le_maxLen w (n + s.size) old e h63
    refine ⟨⟨hlen, .inr ⟨w.heap.size, _, rfl, heap_alloc_new w.drew _, hge, hcm, ?_, ?_⟩⟩, ⟨rfl, rfl, rfl, by simp, fun k hk _ => heap_alloc_old w.drew _ hk⟩, by simp, (Below.drew (Below.refl _ w)).alloc (by simp) _⟩
    · have h1 := h.1
      have h2 := Lib.strCells_length s
      simp only [Array.size_append, List.size_toArray, size_zeroCells, hzs]
      omega
    · simp only [Array.toList_append, List.append_assoc]
      rw [← List.append_assoc, ← hlen]
      exact List.take_left
  rcases h.2 with ⟨rfl, rfl, rfl⟩ | ⟨g, cur, rfl, hg, hnc, hcm, hcs, htake⟩
  · have hx : vs = [] := List.eq_nil_of_length_eq_zero (by simpa using h.1)
    subst hx
    by_cases h0 : s.size = 0
    · have hs : s = ByteArray.mk #[] := by
        cases s with | mk d => cases d with | mk l => cases l with
          | nil => rfl
          | cons x l => simp [ByteArray.size] at h0
      subst hs
      refine ⟨none, 0, w, ?_, KOE.refl _ _, (show Row w e 1 none 0 [] 0 from h), ⟨rfl, rfl, rfl, Nat.le_refl _, fun _ _ _ => rfl⟩, .inl rfl⟩
      unfold AppRun
      simp [Builtin.append_, run_underlying ht, run_underlying hu, sizeOf, typeInfo, hi, Builtin.lenOf, Builtin.firstCells, ByteArray.size]
    · have hr := run_append_nil_string (P := P) w t u ty e i z ht hu hi hz s (by omega) (by omega) (by rw [hby]; omega)
      have hgr := grown 0 (by omega) (blk none) (s.data.map (fun b => Value.int .u8 b.toNat)) (by
        apply Array.ext'; simp [Lib.strCells])
      simp only [Nat.zero_add] at hgr ⊢
      exact ⟨_, _, _, hr, hko hgr.2.1, hgr.1, hgr.2.1, .inr ⟨rfl, hgr.2.2⟩⟩
  · by_cases hroom : n + s.size ≤ c
    · have hfit : n + s.size ≤ cur.size := by omega
      have hr := Lib.run_append_room_string (P := P) w t u ty e i ht hu hi hsize g n c cur hg s hroom hfit
      have hgb : w.grownBy (w.setRow g (cur.toList.take n ++ Lib.strCells s ++ cur.toList.drop (n + s.size)).toArray) (blk (some ⟨g, 0, none⟩)) := ⟨rfl, rfl, rfl, by simp, fun k _ hk => setRow_other w g k _ (fun e => hk (by simp [blk, e]))⟩
      refine ⟨_, _, _, hr, hko hgb, ⟨hlen, .inr ⟨g, _, rfl, setRow_heap w g cur _ e _ hg, hroom, hcm, ?_, ?_⟩⟩, hgb, .inl rfl⟩
      · simp only [List.size_toArray, List.length_append, List.length_take, List.length_drop, Array.length_toList, Lib.strCells_length]
        omega
      · rw [Nat.mul_one] at htake
        rw [htake, ← hlen]
        exact List.take_left
    · have holds : ∀ (j : Nat) v, vs[j]? = some v → w.cell? ((⟨g, 0, none⟩ : Addr).add j) = some v := by
        intro j v hv
        rcases h.cells with h0 | ⟨b', o', e1, e2⟩
        · subst h0; simp at hv
        · cases e1; rw [add_lit]; exact e2 j v hv
      have hr := Lib.run_append_grow_string (P := P) w t u ty e i z ht hu hi hz ⟨g, 0, none⟩ n c vs (by rw [hsize]; exact h.1) holds s (by omega) (by omega) (growslice_fits (by omega) (by rw [hby]; omega))
      have hgr := grown c (by omega) (blk (some ⟨g, 0, none⟩)) _ rfl
      exact ⟨_, _, _, hr, hko hgr.2.1, hgr.1, hgr.2.1, .inr ⟨rfl, hgr.2.2⟩⟩

theorem Made.pushStr {P : Program} {w0 w : World} {t u ty e : TypeId} (hE : ElemOk P t e 1 1) (hu : P.underlying u = some .string) {ad : Option Addr} {n c : Nat} {vs : List Value} (h : Made w0 w e 1 ad n vs c) (s : ByteArray) (hb : n + s.size ≤ 70368744177664) :
    ∃ ad' c' w2, AppRun P #[t, u] ty (.slice ad n c) (.string s) w ad' (n + s.size) c' w2 ∧ KO w w2 ∧ Made w0 w2 e 1 ad' (n + s.size) (vs ++ Lib.strCells s) c' := by
  obtain ⟨ad', c', w2, hr, hko, hrow, hg, hor⟩ := h.row.pushStr (P := P) (ty := ty) hE hu s hb
  exact ⟨ad', c', w2, hr, hko, h.grown hrow hg hor⟩

end Go.Proofs.YthpjkgoahneldaaDoor.Vc
end

section
/-
  Chapter 6: a text in plain form: both walks.
-/
namespace Go.Proofs.YthpjkgoahneldaaDoor
open Go Go.RowKit Vc Ut Tb Cl

theorem row_of_heap {w w' : World} {e : TypeId} {s n c : Nat} {ad : Option Addr} {vs : List Value} (h : Row w e s ad n vs c) (hk : ∀ g o, blk ad = some g → w.heap[g]? = some o → isRec o = false → w'.heap[g]? = some o) : Row w' e s ad n vs c := by
  obtain ⟨h1, h2⟩ := h
  refine ⟨h1, h2.imp id ?_⟩
  rintro ⟨g, cur, rfl, h3, h4⟩
  exact ⟨g, cur, rfl, hk g _ rfl h3 rfl, h4⟩
theorem u8L_app (l m : List UInt8) : u8L (l ++ m) = u8L l ++ u8L m := List.map_append
theorem copy_ok : sCopy.Ok Tryd.prog 123 := by
  rintro ⟨b, p, a, n, c⟩ w ⟨hp, hh⟩
  dsimp only at hp hh
  have hb := heap_lt hh
  have h0 : w.cell? ⟨b, 0, none⟩ = some (.pointer p) := by rw [cell_of_heap hh]; rfl
  rcases hp with rfl | rfl
  · have hsh : w.shape? b = some (95, 2) := by simp [World.shape?, hh]
    refine (Any.Builder_copyCheck_fresh (ρ := Tryd.lays105_ren) { Tryd.lays105 with } Tryd.Builder_Extra_105.toX72 b w h0 hsh (frozen_of_heap hh _)).mono ?_
    rintro e w' ⟨he, hw⟩
    have hs : Stored w ⟨b, 0, none⟩ (.pointer (some ⟨b, 0, none⟩)) w' := hw
    refine ⟨(), he, ⟨hs.heap hh, ?_⟩, by rw [hw]; exact KO.setCell _ _ _⟩
    exact (Step.stored (D := fun q => q = b) hs rfl (by rintro q rfl; exact hb)).fr
  · refine (Any.Builder_copyCheck_used (ρ := Tryd.lays105_ren) { Tryd.lays105 with } Tryd.Builder_Extra_105.toX72 b w h0).mono ?_
    rintro e w' ⟨he, hw⟩
    subst hw
    exact ⟨(), he, ⟨hh, Fr.refl _ _⟩, KOE.refl _ _⟩

theorem grown_at {w w1 : World} {a : Option Addr} {b : Nat} {o : Obj} (h : w.grownBy w1 (blk a)) (hb : w.heap[b]? = some o) (hne : blk a ≠ some b) : w1.heap[b]? = some o :=
  (h.block b (Array.getElem?_eq_some_iff.1 hb).1 (Ne.symm hne)).trans hb
theorem builder_str : Tryd.prog.underlying 9 = some .string := by kernel_rfl
theorem row_ne {w : World} {n c b : Nat} {a : Option Addr} {vs : List Value} {cs : Array Value} (h : Row w 5 1 a n vs c) (hb : w.heap[b]? = some (.cells cs 95)) : blk a ≠ some b := by
  rcases h.2 with ⟨rfl, _⟩ | ⟨g, cur, rfl, h3, _⟩
  · intro h; cases h
  · intro h
    cases h
    rw [hb] at h3
    cases h3
theorem wrStr_ok : sWrStr.Ok Tryd.prog 83 := by
  refine wrStr_vc ⟨copy_ok, trivial⟩ ?_
  rintro ⟨b, p, a, c, vs, s⟩ w ⟨hp, hh, hrow, hlen⟩
  dsimp only at hp hh hrow hlen ⊢
  refine ⟨⟨b, p, a, vs.length, c⟩, rfl, ⟨hp, hh⟩, ?_⟩
  rintro _ w1 ⟨hh1, hf1⟩
  dsimp only at hh1 hf1
  have hne := row_ne hrow hh
  have hrow1 : Row w1 5 1 a vs.length vs c := row_of_heap hrow fun g o hg ho _ => (hf1.block g (heap_lt ho) (fun h => hne (by rw [hg, h]))).trans ho
  obtain ⟨a', c', w2, hrun, hko, hrow2, hgr, hor⟩ := hrow1.pushStr (P := Tryd.prog) (ty := 64) elem8 builder_str s (by omega)
  have hh2 := grown_at hgr hh1 hne
  refine ⟨a, vs.length, c, by rw [cell_of_heap hh1]; rfl, a', c', w2, hrun, hko, rfl, ⟨_, by rw [cell_of_heap hh2]; rfl⟩, frozen_of_heap hh2 _, fun w3 hs3 => ⟨(a', c', s.size), rfl, rfl, hs3.heap hh2, ?_, ?_, ?_⟩⟩
  · exact row_of_heap hrow2 fun g o hg ho _ => (hs3.other (by show g ≠ b; rintro rfl; exact row_ne hrow2 hh2 hg)).trans ho
  · exact ((hf1.mono (T := fun q => q = b ∨ blk a = some q) (fun x _ h => .inl h)).trans (Fr.grown hgr) (fun x _ h => .inr h)).trans (Fr.stored hs3) (fun x _ h => .inl h)
  · intro q hq
    rcases hor with rfl | ⟨rfl, _, _⟩
    · exact .inl hq
    · cases hq
      exact .inr hf1.size
theorem strB_ok : sStrB.Ok Tryd.prog 84 := by
  rintro ⟨b, base, p, a, c, l⟩ w ⟨hp, hh, hrow, hb, hbq⟩
  dsimp only at hp hh hrow hb hbq
  have hlb := heap_lt hh
  have hlen : (u8L l).length = l.length := u8L_len l
  have hat : Lib.BuilderAt 95 5 base b (.pointer p) (u8L l) w := by
    refine ⟨hb, .slice a l.length c, hh, ⟨by rw [Nat.mul_one], ?_⟩, ?_⟩
    · rcases hrow.2 with ⟨rfl, h0, rfl⟩ | ⟨g, cur, rfl, h3, h4, h5, h6, h7⟩
      · left; exact ⟨by rw [h0], by omega⟩
      · right; rw [hlen]; exact ⟨g, c, cur, rfl, hbq g rfl, h3, h4, h5, h6, h7⟩
    · intro h
      rcases hrow.2 with ⟨rfl, _⟩ | ⟨g, cur, rfl, h3, _⟩
      · cases h
      · cases h
        rw [hh] at h3
        cases h3
  have his : Lib.IsBuilder 95 5 base b (Lib.byteCells l) w := by
    rcases hp with rfl | rfl
    · exact .inl hat
    · exact .inr hat
  refine (Any.Builder_String_any_k (ρ := Tryd.lays105_ren) { Tryd.lays105 with } Tryd.Builder_Extra_105 base b l w (Lib.IsBuilderF.of his) (by omega)).mono ?_
  rintro e w' ⟨he, _, hbel, hoth⟩
  refine ⟨strL l, he, ⟨rfl, hbel⟩, ⟨hbel.size, fun k o _ hk ho => hoth k o hk ?_ ?_⟩⟩
  · rintro h
    cases h
    rw [hh] at hk
    cases hk
    cases ho
  · rintro cs fz rfl
    cases ho

/-! ### The builder in use -/
theorem BdL.ext {b : Nat} {L : List UInt8} {D : Nat → Prop} {W W' : World} (h : BdL b L D W) (hx : Ext W W') : BdL b L D W' := by
  obtain ⟨p, a, c, h1, h2, h3, h4⟩ := h.at'
  exact ⟨p, a, c, h1, h2, hx.heap h3, h4.ext hx⟩
theorem BdL.keep {b : Nat} {L : List UInt8} {D : Nat → Prop} {W W' : World} (h : BdL b L D W) (hq : ∀ q o, D q → W.heap[q]? = some o → isRec o = false → W'.heap[q]? = some o) : BdL b L D W' := by
  obtain ⟨p, a, c, h1, h2, h3, h4⟩ := h.at'
  exact ⟨p, a, c, h1, h2, hq b _ ((h2 b).2 (.inl rfl)) h3 rfl, row_of_heap h4 fun g o hg ho hr => hq g o ((h2 g).2 (.inr hg)) ho hr⟩
theorem BdL.wr {b : Nat} {L : List UInt8} {D : Nat → Prop} {W : World} {t : ByteArray} {K : World → Prop} (h : BdL b L D W) (hb : L.length + t.size ≤ 70368744177664)
    (hK : ∀ (D' : Nat → Prop) (w1 : World), Step D W w1 D' → BdL b (L ++ t.data.toList) D' w1 → K w1) :
    ∃ g2 : GWr, (#[.pointer (some ⟨b, 0, none⟩), .string t] : Array Value) = #[.pointer (some ⟨g2.b, 0, none⟩), .string g2.s] ∧ sWrStr.pre g2 W ∧ ∀ (x : Option Addr × Nat × Nat) (w1 : World), sWrStr.post g2 W x w1 → K w1 := by
  obtain ⟨p, a, c, h1, h2, h3, h4⟩ := h.at'
  have hl := u8L_len L
  have hlt := u8L_len t.data.toList
  have hts := size_list t
  refine ⟨⟨b, p, a, c, u8L L, t⟩, rfl, ⟨h1, h3, h4, by dsimp only; omega⟩, ?_⟩
  rintro ⟨a', c', n⟩ w1 ⟨hn, hh, hr, hf, hnew⟩
  dsimp only at hn hh hr hf hnew
  have e : (u8L (L ++ t.data.toList)).length = (u8L L).length + t.size := by rw [u8L_app, List.length_append, hlt, hts]
  refine hK (fun q => q = b ∨ blk a' = some q) w1 ⟨hf.mono fun x _ hx => (h2 x).2 hx, ?_⟩ ⟨_, a', c', .inr rfl, fun q => Iff.rfl, by rw [e]; exact hh, by rw [e, u8L_app]; exact hr⟩
  rintro q (rfl | hq)
  · exact ⟨heap_lt hh, .inl ((h2 _).2 (.inl rfl))⟩
  · exact ⟨hr.lt hq, (hnew q hq).imp (fun h => (h2 q).2 (.inr h)) id⟩
theorem plL_len (s : ByteArray) (k : Nat) : (plL s k).length = (plainU s k).size := size_list _
theorem plL_succ (s : ByteArray) (k : Nat) : plL s (k + 1) = plL s k ++ (plainP (pcP s k).2).data.toList := by
  unfold plL
  simp only [plainU]
  rw [ByteArray.toList_data_append]
theorem strL_self (x : ByteArray) : strL x.data.toList = x := by
  unfold strL
  apply ByteArray.ext
  simp

set_option maxRecDepth 100000 in
theorem plainc_ok : sPlainC.Ok Tryd.prog 52 := by
  refine plC_vc ⟨call_ok, wrStr_ok, textp_ok, strB_ok, trivial⟩ ?_
  rintro (s : ByteArray) w ⟨hU, hD, hsm⟩ b w1 hn
  have hut := hU.lt; have hdt := hD.lt
  have z1 := hn.size
  have hncl := ncl_le s
  refine ⟨s, rfl, trivial, ?_⟩
  rintro v w2 ⟨hv, hvs, e12⟩
  have e01 : Ext w w1 := hn.ext
  have e02 := Ext.trans e01 e12
  have hU2 := hU.ext e02
  have hD2 := hD.ext e02
  have h2 := e12.heap hn.heap
  have lb := heap_lt h2; have lv := heap_lt hvs
  dsimp only [ptrB]
  have nd : ∀ q, q ≠ b → ¬ (q = b ∨ blk none = some q) := fun q hq h => h.elim hq (fun h => by cases h)
  refine ⟨pcL s, cC v, (fun q => q = b ∨ blk none = some q), pc_iter hvs hU2 hsm, ⟨?_, ?_⟩, ⟨none, none, 0, .inl rfl, fun q => Iff.rfl, h2, Row.nil _ _ _⟩, ?_, ?_, ?_, ?_, trivial⟩
  · rintro q (rfl | h)
    · exact lb
    · cases h
  · intro q hq
    refine ⟨cC_lt lv hU2 q hq, nd q ?_⟩
    rcases hq with h' | h' | h' <;> omega
  · intro k D W W' h hsz hq
    exact h.keep fun q o hd ho hr => hq q o (.inr hd) ho (.inl hr)
  · rintro _ k D W W' h hsz hq
    exact h
  · rintro k p D W hp hB hM
    have hkl : k < ncl s := by have := (List.getElem?_eq_some_iff.1 hp).1; rwa [pc_len] at this
    rw [pc_get hkl] at hp
    cases hp
    have hsz := plainU_size s k
    have hll := plL_len s k
    have hbl := bp_le s k
    have hps := pc_small (s := s) (i := k) hsm
    rw [str_eq, str_eq, str_eq]
    refine bcase_mk (fun h => ?_) (fun h => ?_)
    · have h := of_decide_eq_true h
      refine hB.wr (by show _ + 2 ≤ _; omega) fun D1 V1 st1 hB1 => ?_
      refine hB1.wr (by rw [List.length_append]; show _ + 2 + 2 ≤ _; omega) fun D2 V2 st2 hB2 => ⟨D2, st1.trans st2, ?_⟩
      rw [plL_succ]
      unfold plainP
      rw [if_pos h]
      rw [List.append_assoc] at hB2
      exact hB2
    have hn1 := of_decide_eq_false h
    refine bcase_mk (fun h => ?_) (fun h => ?_)
    · have h := of_decide_eq_true h
      refine hB.wr (by show _ + 2 ≤ _; omega) fun D1 V1 st1 hB1 => ⟨D1, st1, ?_⟩
      rw [plL_succ]
      unfold plainP
      rw [if_neg hn1, if_pos h]
      exact hB1
    have hn2 := of_decide_eq_false h
    refine bcase_mk (fun h => ?_) (fun h => ?_)
    · have h := of_decide_eq_true h
      refine hB.wr (by show _ + 2 ≤ _; omega) fun D1 V1 st1 hB1 => ⟨D1, st1, ?_⟩
      rw [plL_succ]
      unfold plainP
      rw [if_neg hn1, if_neg hn2, if_pos h]
      exact hB1
    have hn3 := of_decide_eq_false h
    refine ⟨⟨(pcP s k).2, 0, rawL⟩, rfl, ⟨hU2.fr hM.fr (nd _ (by omega)) (nd _ (by omega)), hD2.fr hM.fr (nd _ (by omega)), hps⟩, ?_⟩
    rintro ⟨t, n⟩ V ⟨ht, eV⟩
    dsimp only at ht ⊢
    rw [piece_text hkl] at ht
    have htt : t = (oneC (pcP s k).2 0 rawL).1 := by rw [← ht]
    have htz := (one_w (pcP s k).2 0 rawL).2
    rw [← htt] at htz
    refine (hB.ext eV).wr (by omega) fun D1 V1 st1 hB1 => ⟨D1, (Step.ext eV hM.lt).trans st1, ?_⟩
    rw [plL_succ]
    unfold plainP
    rw [if_neg hn1, if_neg hn2, if_neg hn3, ← htt]
    exact hB1
  · rintro D W hB hM
    rw [lenX_eq, pc_len] at hB
    obtain ⟨p, a, c, g1, g2, g3, g4⟩ := hB.at'
    have eW : Ext w W := hM.ext e02 (fun q hq => by
      rcases hq with h | h
      · omega
      · cases h)
    have hz2 := e02.size
    rw [u8L_len] at g3 g4
    refine ⟨⟨b, w.heap.size, p, a, c, plL s (ncl s)⟩, rfl, ⟨g1, g3, g4, by dsimp only; omega, fun q hq => ?_⟩, ?_⟩
    · have := (hM.dom q ((g2 q).2 (.inr hq))).2
      rcases this with (h | h) | h
      · dsimp only; omega
      · cases h
      · dsimp only; omega
    rintro x W2 ⟨hx, hbel⟩ W3 ht
    dsimp only at hx hbel
    refine ⟨plainS s, by rw [hx]; show Value.string (strL (plainU s (ncl s)).data.toList) = _; rw [strL_self]; rfl, rfl, Ext.turn (Below.trans eW hbel) ht⟩

set_option maxRecDepth 100000 in
theorem plainr_ok : sPlainC.Ok Tryd.prog 53 := by
  refine plR_vc ⟨rallP_ok, textr_ok, trivial⟩ ?_
  rintro (s : ByteArray) w ⟨hU, hD, hsm⟩
  have hncl := ncl_le s
  refine ⟨s, rfl, ⟨hU, hsm⟩, ?_⟩
  rintro ⟨la, n, lc⟩ w1 ⟨hnn, hm⟩
  dsimp only at hnn hm ⊢
  subst hnn
  have e1 : Ext w w1 := hm.ext
  have hce := hm.row.cells
  refine ⟨⟨⟨0, none, 0⟩, rfl, rfl, Nat.zero_le _, Made.nil _ _ _⟩, ?_⟩
  rintro _ ⟨i, a, c⟩ w2 ⟨hi, hm2⟩
  dsimp only at hi hm2 ⊢
  have e2 : Ext w1 w2 := hm2.ext
  have e02 := Ext.trans e1 e2
  refine bcase_mk (fun h => ?_) (fun h => ?_)
  · have hlt : i < ncl s := by have := of_decide_eq_true h; omega
    have hsz := plainU_size s i
    have hll := plL_len s i
    have hbl := bp_le s i
    have hps := pc_small (s := s) (i := i) hsm
    refine ⟨i, rfl, hlt, (hce.ext e2).fld (s := 2) (j := 1) (pc_at hlt (by decide)) fun b1 o1 hc1 => ⟨(pcP s i).2, hc1, ⟨(pcP s i).2, 0, rawL⟩, rfl, ⟨hU.ext e02, hD.ext e02, hps⟩, ?_⟩⟩
    rintro ⟨t, m⟩ w3 ⟨ht, e3⟩
    dsimp only at ht ⊢
    rw [piece_text hlt] at ht
    have htt : t = (oneC (pcP s i).2 0 rawL).1 := by rw [← ht]
    have htz := (one_w (pcP s i).2 0 rawL).2
    rw [← htt] at htz
    have hm3 := hm2.later e3
    have fin : ∀ u : ByteArray, u = plainP (pcP s i).2 → u.size ≤ (pcP s i).2.size + 16 → ∃ (a' : Option Addr) (c' : Nat) (w4 : World), AppRun Tryd.prog #[64, 9] 64 (.slice a (u8L (plL s i)).length c) (.string u) w3 a' ((u8L (plL s i)).length + u.size) c' w4 ∧ KO w3 w4 ∧ InR .i64 ((i : Int) + 1) ∧
        ∃ y : GNm, Value.int .i64 ((i : Int) + 1) = .int .i64 (y.j : Int) ∧ Value.slice a' ((u8L (plL s i)).length + u.size) c' = .slice y.a (u8L (plL s y.j)).length y.c ∧ (y.j ≤ ncl s ∧ Made w1 w4 5 1 y.a (u8L (plL s y.j)).length (u8L (plL s y.j)) y.c) ∧ ncl s - y.j < ncl s - i := by
      intro u hu huz
      have hl := u8L_len (plL s i)
      obtain ⟨a', c', w4, hr, hko, hm4⟩ := hm3.pushStr (P := Tryd.prog) (ty := 64) elem8 builder_str u (by omega)
      have e : u8L (plL s (i + 1)) = u8L (plL s i) ++ Lib.strCells u := by rw [plL_succ, u8L_app, ← hu]; rfl
      have el : (u8L (plL s (i + 1))).length = (u8L (plL s i)).length + u.size := by rw [e, List.length_append, Lib.strCells_length]
      exact ⟨a', c', w4, hr, hko, inr_i64 (by omega) (by omega), ⟨i + 1, a', c'⟩, by simp, by rw [el], ⟨hlt, by dsimp only; rw [el, e]; exact hm4⟩, by dsimp only; omega⟩
    have e23 := Ext.trans e2 e3
    refine ⟨i, rfl, hlt, (hce.ext e23).fld (s := 2) (j := 1) (pc_at hlt (by decide)) fun b5 o5 hc5 => ⟨(pcP s i).2, hc5, ?_⟩⟩
    rw [str_eq, str_eq, str_eq]
    refine bcase_mk (fun h => fin _ ?_ (by show 2 ≤ _; omega)) (fun h => ?_)
    · have h := of_decide_eq_true h
      unfold plainP
      rw [h]; rfl
    have hn3 := of_decide_eq_false h
    refine bcase_mk (fun h => fin _ ?_ (by show 2 ≤ _; omega)) (fun h => ?_)
    · have h := of_decide_eq_true h
      unfold plainP
      rw [h]; rfl
    have hn2 := of_decide_eq_false h
    refine bcase_mk (fun h => fin _ ?_ (by show 4 ≤ _; omega)) (fun h => fin _ ?_ htz)
    · have h := of_decide_eq_true h
      unfold plainP
      rw [h]; rfl
    · have hn1 := of_decide_eq_false h
      unfold plainP
      rw [if_neg hn1, if_neg hn2, if_neg hn3]; exact htt
  · have hi2 : i = ncl s := by have := of_decide_eq_false h; omega
    subst hi2
    have hl := u8L_len (plL s (ncl s))
    refine ⟨plainS s, bytesIn_of ?_ hm2.row.cells, _, rfl, rfl, e02⟩
    rw [hl, plL_len]; rfl

end Go.Proofs.YthpjkgoahneldaaDoor
end

section
/-
  Chapter 6: what every program must do; the laws that ask the document.
-/
namespace Go.Proofs.YthpjkgoahneldaaDoor
open Go Go.RowKit Vc Ut Tb Cl

theorem UD.ext {w w' : World} (h : UD w) (e : Ext w w') : UD w' := ⟨h.1.ext e, h.2.ext e⟩
theorem bcase_is {b : Bool} {P F : Prop} (h : b = true) (p : P) : bcase b P F := bcase_mk (fun _ => p) (fun h' => by rw [h] at h'; cases h')
/-- Steps of a closed chain. -/
theorem sh_step {w0 w : World} (hU : UD w0) (e : Ext w0 w) {s want : ByteArray} {col wide : Int} (l : Lk) (hsz : s.size ≤ 67108864) (hv : showsB s col l want wide = true) {K : Bool → World → Prop} (hK : ∀ w', Ext w0 w' → K true w') :
    ∃ g : GSh, (#[.string s, .int .i64 col, lkV l, .string want, .int .i64 wide] : Array Value) = sShows.args g ∧ sShows.pre g w ∧ ∀ (x : Bool) (w' : World), sShows.post g w x w' → K x w' := by
  refine ⟨⟨s, col, l, want, wide⟩, rfl, ⟨hU.1.ext e, hU.2.ext e, hsz⟩, ?_⟩
  rintro x w' ⟨hx, e'⟩
  have hx : x = showsB s col l want wide := hx
  rw [hv] at hx
  subst hx
  exact hK w' (Ext.trans e e')
theorem tx_step {f : ByteArray → Int → Lk → Nat} {w0 w : World} (hU : UD w0) (e : Ext w0 w) {s : ByteArray} {col : Int} (l : Lk) (hsz : s.size ≤ 67108864) {K : Nat → World → Prop} (hK : ∀ w', Ext w0 w' → K (f s col l) w') :
    ∃ g : GT6, (#[.string s, .int .i64 col, lkV l] : Array Value) = (sTxN f).args g ∧ (sTxN f).pre g w ∧ ∀ (x : Nat) (w' : World), (sTxN f).post g w x w' → K x w' := by
  refine ⟨⟨s, col, l⟩, rfl, ⟨hU.1.ext e, hU.2.ext e, hsz⟩, ?_⟩
  rintro x w' ⟨hx, e'⟩
  have hx : x = f s col l := hx
  subst hx
  exact hK w' (Ext.trans e e')
theorem te_step {w0 w : World} (hU : UD w0) (e : Ext w0 w) {s : ByteArray} {col : Int} (l : Lk) (hsz : s.size ≤ 67108864) {K : ByteArray × Nat → World → Prop} (hK : ∀ w', Ext w0 w' → K (textC s col l) w') :
    ∃ g : GT6, (#[.string s, .int .i64 col, lkV l] : Array Value) = sTextC.args g ∧ sTextC.pre g w ∧ ∀ (x : ByteArray × Nat) (w' : World), sTextC.post g w x w' → K x w' := by
  refine ⟨⟨s, col, l⟩, rfl, ⟨hU.1.ext e, hU.2.ext e, hsz⟩, ?_⟩
  rintro x w' ⟨hx, e'⟩
  have hx : x = textC s col l := hx
  subst hx
  exact hK w' (Ext.trans e e')
theorem pl_step {w0 w : World} (hU : UD w0) (e : Ext w0 w) {s : ByteArray} (hsz : s.size ≤ 67108864) {K : ByteArray → World → Prop} (hK : ∀ w', Ext w0 w' → K (plainS s) w') :
    ∃ g : ByteArray, (#[.string s] : Array Value) = sPlainC.args g ∧ sPlainC.pre g w ∧ ∀ (x : ByteArray) (w' : World), sPlainC.post g w x w' → K x w' := by
  refine ⟨s, rfl, ⟨hU.1.ext e, hU.2.ext e, hsz⟩, ?_⟩
  rintro x w' ⟨hx, e'⟩
  have hx : x = plainS s := hx
  subst hx
  exact hK w' (Ext.trans e e')
theorem shows_ok : sShows.Ok Tryd.prog 54 := by
  refine shows_vc ⟨textp_ok, trivial⟩ ?_
  rintro ⟨s, col, l, want, wide⟩ w ⟨hU, hD, hsz⟩ b w1 hn
  dsimp only at hU hD hsz ⊢
  obtain ⟨c0, c1, c2, c3, c4⟩ := look_at (l := l) hn.heap
  have e1 : Ext w w1 := hn.ext
  refine ⟨l.tab, c0, l.wide, c1, l.want, c2, l.join, c3, l.raw, c4, te_step (w0 := w) ⟨hU, hD⟩ e1 l hsz fun w2 e2 => ⟨_, rfl, ?_, e2⟩⟩
  unfold showsB
  rw [str_eq]; rfl
def lkZ : Lk := ⟨0, false, 0, false, false⟩
def lkR : Lk := ⟨0, false, 0, false, true⟩

set_option maxRecDepth 100000 in
theorem live_ok : (sYes UD).Ok Tryd.prog 47 := by
  refine live_vc ⟨shows_ok, widc_ok, cutc_ok, plainc_ok, trivial⟩ ?_
  rintro _ w hUD b w1 hn
  obtain ⟨c0, c1, c2, c3, c4⟩ := look_at (l := lkR) hn.heap
  have e1 : Ext w w1 := hn.ext
  have hU : UD w1 := hUD.ext e1
  refine ⟨?_, ?_⟩
  · refine sh_step hU (Ext.refl _) lkZ (by decide) (by decide +kernel) fun w2 e2 => bcase_is rfl ?_
    refine sh_step hU e2 lkZ (by decide) (by decide +kernel) fun w3 e3 => bcase_is rfl ?_
    refine ⟨_, e3.cell c0, _, e3.cell c1, _, e3.cell c2, _, e3.cell c3, _, e3.cell c4, sh_step hU e3 lkR (by decide) (by decide +kernel) fun w4 e4 => bcase_is rfl ?_⟩
    refine ⟨_, e4.cell c0, _, e4.cell c1, _, e4.cell c2, _, e4.cell c3, _, e4.cell c4, sh_step hU e4 lkR (by decide) (by decide +kernel) fun w5 e5 => bcase_is rfl ?_⟩
    exact ⟨_, e5.cell c0, _, e5.cell c1, _, e5.cell c2, _, e5.cell c3, _, e5.cell c4, sh_step hU e5 lkR (by decide) (by decide +kernel) fun w6 e6 => ⟨(), rfl, e6⟩⟩
  rintro _ _ w2 e2
  refine tx_step hU e2 lkZ (by decide) fun w3 e3 => bcase_is (by decide +kernel) ?_
  refine tx_step hU e3 lkZ (by decide) fun w4 e4 => bcase_is (by decide +kernel) ?_
  refine pl_step hU e4 (by decide) fun w5 e5 => bcase_is (by rw [str_eq]; decide +kernel) ?_
  exact ⟨_, e5.cell c0, _, e5.cell c1, _, e5.cell c2, _, e5.cell c3, _, e5.cell c4, sh_step hU e5 lkR (by decide) (by decide +kernel) fun w6 e6 => ⟨(), rfl, Ext.trans e1 e6⟩⟩

/-! ### The laws -/
theorem lawW_ok : sLawT.Ok Tryd.prog 13 := by
  refine lawW_vc ⟨widc_ok, widr_ok, live_ok, trivial⟩ ?_
  rintro ⟨s, col, l⟩ w ⟨hU, hD, hsz⟩ b w1 hn w2 hd
  dsimp only at hU hD hsz ⊢
  obtain ⟨c0, c1, c2, c3, c4⟩ := look_at (l := l) hn.heap
  have e2 : Ext w w2 := Ext.trans hn.ext hd.ext
  have hU2 : UD w := ⟨hU, hD⟩
  refine ⟨l.tab, c0, l.wide, c1, l.want, c2, l.join, c3, l.raw, c4, l.tab, c0, l.wide, c1, l.want, c2, l.join, c3, l.raw, c4, ⟨s, col, l⟩, rfl, ⟨hU.ext e2, hD.ext e2, by dsimp only; omega⟩, ?_⟩
  rintro x w3 ⟨hx, e3⟩
  refine ⟨e3, ⟨s, col, l⟩, rfl, ⟨hU.ext (Ext.trans e2 e3), hD.ext (Ext.trans e2 e3), by dsimp only; omega⟩, ?_⟩
  rintro y w4 ⟨hy, e4⟩
  have e04 := Ext.trans e2 (Ext.trans e3 e4)
  rw [hx, hy]
  exact bcase_is (by simp) ⟨(), rfl, hU2.ext e04, fun _ w5 e5 => ⟨(), rfl, Ext.trans e04 e5⟩⟩
theorem lawC_ok : sLawT.Ok Tryd.prog 14 := by
  refine lawC_vc ⟨cutc_ok, cutr_ok, live_ok, trivial⟩ ?_
  rintro ⟨s, col, l⟩ w ⟨hU, hD, hsz⟩ b w1 hn w2 hd
  dsimp only at hU hD hsz ⊢
  obtain ⟨c0, c1, c2, c3, c4⟩ := look_at (l := l) hn.heap
  have e2 : Ext w w2 := Ext.trans hn.ext hd.ext
  have hU2 : UD w := ⟨hU, hD⟩
  refine ⟨l.tab, c0, l.wide, c1, l.want, c2, l.join, c3, l.raw, c4, l.tab, c0, l.wide, c1, l.want, c2, l.join, c3, l.raw, c4, ⟨s, col, l⟩, rfl, ⟨hU.ext e2, hD.ext e2, by dsimp only; omega⟩, ?_⟩
  rintro x w3 ⟨hx, e3⟩
  refine ⟨e3, ⟨s, col, l⟩, rfl, ⟨hU.ext (Ext.trans e2 e3), hD.ext (Ext.trans e2 e3), by dsimp only; omega⟩, ?_⟩
  rintro y w4 ⟨hy, e4⟩
  have e04 := Ext.trans e2 (Ext.trans e3 e4)
  rw [hx, hy]
  exact bcase_is (by simp) ⟨(), rfl, hU2.ext e04, fun _ w5 e5 => ⟨(), rfl, Ext.trans e04 e5⟩⟩
theorem lawP_ok : sLawP.Ok Tryd.prog 15 := by
  refine lawP_vc ⟨plainc_ok, plainr_ok, live_ok, trivial⟩ ?_
  rintro (s : ByteArray) w ⟨hU, hD, hsz⟩
  have hU2 : UD w := ⟨hU, hD⟩
  refine pl_step hU2 (Ext.refl _) (by omega) fun w2 e2 => pl_step hU2 e2 (by omega) fun w3 e3 => ?_
  rw [str_eq]
  exact bcase_is (decide_eq_true rfl) ⟨(), rfl, hU2.ext e3, fun _ w5 e5 => ⟨(), rfl, Ext.trans e3 e5⟩⟩
theorem lawT_ok : sLawT.Ok Tryd.prog 12 := by
  refine lawT_vc ⟨textp_ok, textr_ok, live_ok, trivial⟩ ?_
  rintro ⟨s, col, l⟩ w ⟨hU, hD, hsz⟩ b w1 hn
  dsimp only at hU hD hsz ⊢
  have z1 := hn.size
  have hU2 : UD w := ⟨hU, hD⟩
  have hb : w.heap.size ≤ b := by omega
  dsimp only [ptrB]
  refine ⟨⟨0, rfl, by decide, ⟨_, _, hn.heap⟩, hb, hn.ext⟩, ?_⟩
  rintro _ i w2 ⟨hi, ⟨x, y, hh⟩, _, e2⟩
  refine bcase_mk (fun h => ?_) (fun h => ⟨(), rfl, hU2.ext e2, fun _ w5 e5 => ⟨(), rfl, Ext.trans e2 e5⟩⟩)
  have hlt : i < 4 := by have := of_decide_eq_true h; omega
  refine ⟨Int.natCast_nonneg _, by decide, rfl, ⟨_, by rw [cell_of_heap hh]; rfl⟩, frozen_of_heap hh _, fun w3 hs3 => ?_⟩
  have hh3 := hs3.heap hh
  have e3 : Ext w w3 := Ext.stored e2 hs3 hb
  refine ⟨rfl, ⟨_, by rw [cell_of_heap hh3]; rfl⟩, frozen_of_heap hh3 _, fun w4 hs4 => ?_⟩
  have hh4 := hs4.heap hh3
  have e4 : Ext w w4 := Ext.stored e3 hs4 hb
  have hk4 : w4.heap[b]? = some (.cells #[.int .i64 l.tab, .bool ((i : Int) % 2 == 1), .int .i8 l.want, .bool l.join, .bool (decide ((i : Int) > 1))] 57) := hh4
  obtain ⟨d0, d1, d2, d3, d4⟩ := look_at (l := ⟨l.tab, ((i : Int) % 2 == 1), l.want, l.join, decide ((i : Int) > 1)⟩) hk4
  refine ⟨_, d0, _, d1, _, d2, _, d3, _, d4, ⟨s, col, ⟨l.tab, ((i : Int) % 2 == 1), l.want, l.join, decide ((i : Int) > 1)⟩⟩, rfl, ⟨hU.ext e4, hD.ext e4, by dsimp only; omega⟩, ?_⟩
  rintro p w5 ⟨hp, e5⟩
  refine ⟨_, e5.cell d0, _, e5.cell d1, _, e5.cell d2, _, e5.cell d3, _, e5.cell d4, ⟨s, col, ⟨l.tab, ((i : Int) % 2 == 1), l.want, l.join, decide ((i : Int) > 1)⟩⟩, rfl, ⟨hU.ext (Ext.trans e4 e5), hD.ext (Ext.trans e4 e5), by dsimp only; omega⟩, ?_⟩
  rintro q w6 ⟨hq, e6⟩
  dsimp only at hp hq
  rw [← hp] at hq
  subst hq
  refine bcase_mk (fun h => ?_) (fun h => ⟨inr_i64 (by omega) (by omega), i + 1, by simp, ⟨by omega, ⟨_, _, (Ext.trans e5 e6).heap hk4⟩, hb, Ext.trans e4 (Ext.trans e5 e6)⟩, by omega⟩)
  exfalso
  rw [str_eq] at h
  simp at h

end Go.Proofs.YthpjkgoahneldaaDoor
end
