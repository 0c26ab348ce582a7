/-
  Chapter 3: the document's lists.
-/
import Derived.Test.YtniiamobbgnjaaaDoorWkN
import Derived.Test.YtniiamobbgnjaaaDoorGi
import Derived.Test.YtniiamobbgnjaaaDoorGg
set_option linter.unusedVariables false
set_option linter.unusedSimpArgs false
namespace Go.Proofs.YtniiamobbgnjaaaDoor
open Go Go.RowKit Vc Ut Tb Cl Orb

theorem elemSign : ElemOk Tryd.prog 45 49 3 24 := elemOk_mk (.agg #[.int .i32 0, .int .i64 0, .bool false]) (by kernel_rfl) (by kernel_rfl) rfl
theorem elemPiece : ElemOk Tryd.prog 23 51 2 24 := elemOk_mk (.agg #[.int .i64 0, .string ⟨#[]⟩]) (by kernel_rfl) (by kernel_rfl) rfl

theorem sg_at {s : ByteArray} {k i : Nat} (h : k + i < cnt s) : ((List.range (cnt s)).drop k)[i]? = some (k + i) := by
  rw [List.getElem?_drop, List.getElem?_range h]
theorem sgn_at {s : ByteArray} {k i j : Nat} (h : k + i < cnt s) (hj : j < 3) : (((List.range (cnt s)).drop k).flatMap (sgnV s))[i * 3 + j]? = (sgnV s (k + i))[j]? := flat_at (f := sgnV s) (s := 3) (fun _ => rfl) (sg_at h) hj
theorem sgn_one (s : ByteArray) (n : Nat) : ∀ u ∈ sgnV s n, u.oneCell' = true := by
  intro u hu
  simp only [sgnV, List.mem_cons, List.not_mem_nil, or_false] at hu
  rcases hu with rfl | rfl | rfl <;> rfl
theorem pcV_one (s : ByteArray) (n : Nat) : ∀ u ∈ pcV s n, u.oneCell' = true := by
  intro u hu
  simp only [pcV, List.mem_cons, List.not_mem_nil, or_false] at hu
  rcases hu with rfl | rfl <;> rfl
theorem pc_at {s : ByteArray} {i j : Nat} (h : i < ncl s) (hj : j < 2) : ((List.range (ncl s)).flatMap (pcV s))[i * 2 + j]? = (pcV s i)[j]? := flat_at (f := pcV s) (s := 2) (fun _ => rfl) (List.getElem?_range h) hj
theorem flat_drop {α : Type} {f : α → List Value} {s : Nat} (hf : ∀ x, (f x).length = s) : ∀ (l : List α) (n : Nat), (l.flatMap f).drop (n * s) = (l.drop n).flatMap f
  | l, 0 => by simp
  | [], n + 1 => by simp
  | x :: l, n + 1 => by
    rw [List.flatMap_cons, List.drop_succ_cons, ← flat_drop hf l n, show (n + 1) * s = (f x).length + n * s from by rw [hf x, Nat.succ_mul]; omega, ← List.drop_drop, List.drop_left]

theorem signs_ok : sSigns.Ok Tryd.prog 29 := by
  refine signs_vc ⟨rnext_ok, trivial⟩ ?_
  rintro (s : ByteArray) w ⟨hU, hsm⟩
  have hcs := cnt_le s
  refine ⟨⟨(0, none, 0), rfl, rfl, Nat.zero_le _, Made.nil _ _ _⟩, ?_⟩
  rintro _ ⟨n, a, c⟩ w1 ⟨hn, hm⟩
  dsimp only at hn hm ⊢
  refine bcase_mk (fun h => ?_) (fun h => ?_)
  · have hp : pos s n < s.size := by simpa using h
    have hlt := cnt_lt.2 hp
    obtain ⟨e1, e2⟩ := nx_drop hp
    refine ⟨pos s n, rfl, by omega, Nat.le_refl _, _, rfl, ⟨hU.ext hm.ext, ext_size hsm⟩, ?_⟩
    rintro ⟨r, k⟩ w2 ⟨hr, hk, hw2⟩
    dsimp only at hr hk ⊢
    rw [e1] at hr; rw [e2] at hk
    subst hr hk
    have key : ∀ (b : Nat) (w3 : World) (v : Bool), v = isBad s n → New w2 (.cells #[.int .i32 (dcR s (pos s n)), .int .i64 (pos s n), .bool v] 49) b w3 →
        ∃ a' c' w4, AppRun Tryd.prog #[45, 45] 45 (.slice a n c) (.slice (some ⟨b, 0, none⟩) 1 1) w3 a' (n + 1) c' w4 ∧ KO w3 w4 ∧ InR IntKind.i64 ((pos s n : Int) + (dcN s (pos s n) : Int)) ∧
        ∃ y : Nat × Option Addr × Nat, Value.int IntKind.i64 ((pos s n : Int) + (dcN s (pos s n) : Int)) = Value.int IntKind.i64 (pos s y.1 : Int) ∧ Value.slice a' (n + 1) c' = Value.slice y.2.1 y.1 y.2.2 ∧
        (y.1 ≤ cnt s ∧ Made w w4 49 3 y.2.1 y.1 ((List.range y.1).flatMap (sgnV s)) y.2.2) ∧ cnt s - y.1 < cnt s - n := by
      intro b w3 v hv hnw
      obtain ⟨a', c', w4, hrun, hko, hm4, _⟩ := (hm.later hw2).pushN (P := Tryd.prog) (ty := 45) elemSign (by decide) (m := 1) (news := sgnV s n) (by unfold sgnV sg; rw [← hv]; exact hnw) rfl (sgn_one s n) (by unfold maxLen; omega) (.inr (by omega))
      have hle := dcN_le hp
      refine ⟨a', c', w4, hrun, hko, inr_i64 (by omega) (by omega), (n + 1, a', c'), ?_, rfl, ⟨by dsimp only; omega, ?_⟩, by dsimp only; omega⟩
      · dsimp only; rw [pos_succ hp]; simp
      · dsimp only; rw [List.range_succ, List.flatMap_append]; simpa using hm4
    refine bcase_mk (fun h => ?_) (fun h => ?_)
    · intro b w3 hnw
      refine key b w3 _ ?_ hnw
      have h5 : dcR s (pos s n) = 65533 := by simpa using h
      unfold isBad
      rw [Bool.eq_iff_iff, beq_iff_eq, decide_eq_true_eq]
      omega
    · intro b w3 hnw
      refine key b w3 _ ?_ hnw
      have h5 : dcR s (pos s n) ≠ 65533 := by simpa using h
      unfold isBad
      simp [h5]
  · have hn2 := cnt_end (s := s) (by simpa using h) hn
    subst hn2
    exact ⟨(a, cnt s, c), rfl, rfl, hm⟩

theorem first_ok : sFirst.Ok Tryd.prog 30 := by
  refine first_vc ⟨ralone_ok, takes_ok, trivial⟩ ?_
  rintro ⟨s, k, a, c⟩ w ⟨hk, hsm, hc⟩
  dsimp only at hk hsm hc ⊢
  have hcs := cnt_le s
  have rd : ∀ {w' : World} {i j : Nat} {v : Value} {K : Nat → Nat → Prop}, Ext w w' → k + i < cnt s → j < 3 → (sgnV s (k + i))[j]? = some v → (∀ b o, w'.cell? ⟨b, o + i * 3 + j, none⟩ = some v → K b o) → ptrE a K := fun e hi hj hv hK =>
    (hc.ext e).fld (by rw [sgn_at hi hj]; exact hv) hK
  have E0 := Ext.refl w
  refine ⟨0, rfl, by omega, rd E0 (i := 0) (j := 2) hk (by decide) rfl fun b o hb => ⟨_, hb, ?_⟩⟩
  change bcase (isBad s k) _ _
  refine bcase_mk (fun hbad => ⟨1, rfl, by unfold firstN; rw [if_pos hbad], E0⟩) (fun hbad => ?_)
  have hcr : ∀ n1 : Int, n1 = sg s (k + 1) → 1 < cnt s - k → (sg s k == 13) = true → (n1 == 10) = crB s k := by
    rintro n1 rfl h1 h2
    unfold crB
    rw [h2, decide_eq_true (show k + 1 < cnt s by omega)]; rfl
  refine ⟨?_, ?_⟩
  · refine ⟨0, rfl, by omega, rd E0 (i := 0) (j := 0) hk (by decide) rfl fun b o hb => ⟨_, hb, ?_⟩⟩
    change bcase (sg s k == 13) _ _
    refine bcase_mk (fun h1 => ?_) (fun h1 => ⟨(), ?_, E0⟩)
    · refine bcase_mk (fun h2 => ?_) (fun h2 => ⟨(), ?_, E0⟩)
      · have h2 : 1 < cnt s - k := by have := of_decide_eq_true h2; omega
        refine ⟨1, rfl, h2, rd E0 (i := 1) (j := 0) (by omega) (by decide) rfl fun b o hb => ⟨_, hb, (), ?_, E0⟩⟩
        rw [hcr _ rfl h2 h1]
      · have h2 : ¬ 1 < cnt s - k := by have := of_decide_eq_false h2; omega
        congr 1
        unfold crB
        rw [decide_eq_false (show ¬ k + 1 < cnt s by omega)]; simp
    · congr 1
      have h1 : (sg s k == 13) = false := h1
      unfold crB; rw [h1]; rfl
  rintro _ _ w1 e1
  refine bcase_mk (fun hC => ⟨2, rfl, by unfold firstN; rw [if_neg (by rw [hbad]; decide), if_pos hC], e1⟩) (fun hC => ?_)
  refine ⟨0, rfl, by omega, rd e1 (i := 0) (j := 0) hk (by decide) rfl fun b o hb => ⟨_, hb, sg s k, rfl, trivial, ?_⟩⟩
  rintro _ w2 ⟨rfl, e2⟩
  have E2 := e1.trans e2
  refine bcase_mk (fun hA => ⟨1, rfl, by unfold firstN; rw [if_neg (by rw [hbad]; decide), if_neg (by rw [hC]; decide), if_pos hA], E2⟩) (fun hA => ?_)
  have hF : firstN s k = goN s k 32 1 := by unfold firstN; rw [if_neg (by rw [hbad]; decide), if_neg (by rw [hC]; decide), if_neg (by rw [hA]; decide)]
  refine ⟨⟨1, rfl, Nat.le_refl _, by omega, by decide, by rw [hF], Ext.refl _⟩, ?_⟩
  rintro _ n w3 ⟨n1, n2, n3, n4, e3⟩ w4 hd
  have E3 := E2.trans e3
  have E4 := E3.trans hd.ext
  have stop : goB s k n = false → n = firstN s k := fun h => by rw [← n4, goN_stop h]
  refine bcase_mk (fun h1 => ?_) (fun h1 => ⟨n, rfl, stop ?_, E4⟩)
  · have h1 : k + n < cnt s := by have := of_decide_eq_true h1; omega
    refine bcase_mk (fun h2 => ?_) (fun h2 => ⟨n, rfl, stop ?_, E4⟩)
    · have h2 : n < 32 := by have := of_decide_eq_true h2; omega
      have hg : ∀ {b : Bool}, isBad s (k + n) = b → goB s k n = (!b && takesB (sg s k) (sg s (k + n - 1)) (sg s (k + n)) n) := fun hb => by
        unfold goB; rw [decide_eq_true h1, decide_eq_true h2, hb]; simp
      refine ⟨n, rfl, by omega, rd E3 (j := 2) h1 (by decide) rfl fun b o hb => ⟨_, hb, ?_⟩⟩
      refine bcase_mk (fun h3 => ?_) (fun h3 => ⟨n, rfl, stop ?_, E4⟩)
      · have h3 : isBad s (k + n) = false := by simpa using h3
        refine ⟨0, rfl, by omega, rd E3 (i := 0) (j := 0) hk (by decide) rfl fun b o hb => ⟨_, hb, inr_i64 (by omega) (by omega), n - 1, by omega, by omega, rd E3 (i := n - 1) (j := 0) (by omega) (by decide) rfl fun b o hb => ⟨_, hb, n, rfl, by omega, rd E3 (i := n) (j := 0) h1 (by decide) rfl fun b o hb => ⟨_, hb, ?_⟩⟩⟩⟩
        refine ⟨⟨sg s k, sg s (k + (n - 1)), sg s (k + n), n⟩, rfl, trivial, ?_⟩
        rintro _ w5 ⟨rfl, e5⟩
        dsimp only
        rw [show k + (n - 1) = k + n - 1 from by omega]
        have hg := hg h3
        refine bcase_mk (fun h4 => ?_) (fun h4 => ⟨n, rfl, stop (by rw [hg, h4]; rfl), E4.trans e5⟩)
        have hG : goB s k n = true := by rw [hg, h4]; rfl
        refine ⟨inr_i64 (by omega) (by omega), n + 1, by simp, ⟨by omega, by omega, by omega, ?_, (e3.trans hd.ext).trans e5⟩, by omega⟩
        rw [← (goN_step hG).2, n4]
      · have h3 : isBad s (k + n) = true := by simpa using h3
        rw [hg h3]; rfl
    · have h2 : ¬ n < 32 := by have := of_decide_eq_false h2; omega
      unfold goB; rw [decide_eq_false h2]; simp
  · have h1 : ¬ k + n < cnt s := by have := of_decide_eq_false h1; omega
    unfold goB; rw [decide_eq_false h1]; rfl

theorem rallP_ok : sRAllP.Ok Tryd.prog 10 := by
  refine rallP_vc ⟨signs_ok, first_ok, trivial⟩ ?_
  rintro (s : ByteArray) w ⟨hU, hsm⟩
  have hcs := cnt_le s
  have hncl := ncl_le s
  refine ⟨s, rfl, ⟨hU, hsm⟩, ?_⟩
  rintro ⟨a, n, c⟩ w1 ⟨hn, hm0⟩
  dsimp only at hn hm0 ⊢
  subst hn
  have hle := hm0.row.le
  have hb0 : bk s 0 = 0 := rfl
  refine ⟨⟨⟨0, a, c, none, 0⟩, by rw [hb0, Nat.sub_zero], rfl, Nat.zero_le _, by dsimp only; rw [hb0]; omega, by dsimp only; rw [hb0, List.drop_zero]; exact hm0.row.cells, Made.nil _ _ _⟩, ?_⟩
  rintro _ ⟨i, la, lc, oa, oc⟩ w2 ⟨hi, hlc, hcl, hm⟩
  dsimp only at hi hlc hcl hm ⊢
  refine bcase_mk (fun h => ?_) (fun h => ?_)
  · have hbk : bk s i < cnt s := by have := of_decide_eq_true h; omega
    have hlt := bk_lt.2 hbk
    have hsu := bk_succ hlt
    have hle1 := bk_le s (i + 1)
    have hc2 := hcl.ext hm.ext
    have hfit := first_fit s _ hbk
    refine ⟨⟨s, bk s i, la, lc⟩, rfl, ⟨hbk, hsm, hc2⟩, ?_⟩
    rintro _ w3 ⟨rfl, e3⟩
    dsimp only
    have hc3 := hc2.ext e3
    have rd : ∀ {j : Nat} {K : Nat → Nat → Prop}, bk s i + j < cnt s → (∀ b o, w3.cell? ⟨b, o + j * 3 + 1, none⟩ = some (.int .i64 (pos s (bk s i + j))) → K b o) → ptrE la K := fun hj hK =>
      hc3.fld (s := 3) (j := 1) (by rw [sgn_at hj (by decide)]; rfl) hK
    have e01 : ∀ {w4 : World}, Ext w3 w4 → Ext w1 w4 := fun e => (hm.ext.trans e3).trans e
    -- the piece is put behind
    have fin : ∀ {w4 w5 : World} {b q : Nat}, Drew w3 w4 → q = bp s (i + 1) → New w4 (.cells #[.int .i64 (pos s (bk s i) : Int), .string (s.extract (pos s (bk s i)) q)] 51) b w5 → Below w4.heap.size w4 w5 ∧ ∃ a' c' w6, AppRun Tryd.prog #[23, 23] 23 (.slice oa i oc) (.slice (some ⟨b, 0, none⟩) 1 1) w5 a' (i + 1) c' w6 ∧ KO w5 w6 ∧
        ∃ ln : Nat, ((firstN s (bk s i) : Nat) : Int) = (ln : Int) ∧ ln ≤ cnt s - bk s i ∧ ∀ ad' : Option Addr, SlAt la ad' lc ln 3 → ∃ y : GAl, Value.slice ad' (cnt s - bk s i - ln) (lc - ln) = .slice y.la (cnt s - bk s y.i) y.lc ∧ Value.slice a' (i + 1) c' = .slice y.oa y.i y.oc ∧
          (y.i ≤ ncl s ∧ cnt s - bk s y.i ≤ y.lc ∧ CellsAt w1 y.la (((List.range (cnt s)).drop (bk s y.i)).flatMap (sgnV s)) ∧ Made w1 w6 51 2 y.oa y.i ((List.range y.i).flatMap (pcV s)) y.oc) ∧ ncl s - y.i < ncl s - i := by
      rintro w4 w5 b q hd rfl hnw
      obtain ⟨a', c', w6, hrun, hko, hm6, _⟩ := (hm.later (e3.trans hd.ext)).pushN (P := Tryd.prog) (ty := 23) elemPiece (by decide) (m := 1) (news := pcV s i) hnw rfl (pcV_one s i) (by unfold maxLen; omega) (.inr (by omega))
      refine ⟨hnw.ext, a', c', w6, hrun, hko, firstN s (bk s i), rfl, by omega, fun ad' hsl => ?_⟩
      refine ⟨⟨i + 1, ad', lc - firstN s (bk s i), a', c'⟩, ?_, rfl, ⟨hlt, by dsimp only; omega, ?_, ?_⟩, by dsimp only; omega⟩
      · dsimp only; rw [hsu]; congr 1; omega
      · dsimp only
        have := hcl.drop hsl (by omega) (by rw [flat_len' (s := 3) (fun _ => rfl), List.length_drop, List.length_range]; exact Nat.mul_le_mul_right _ hlc)
        rw [flat_drop (f := sgnV s) (s := 3) (fun _ => rfl), List.drop_drop, ← hsu] at this
        exact this
      · dsimp only; rw [List.range_succ, List.flatMap_append]; simpa using hm6
    refine bcase_mk (fun h1 => ?_) (fun h1 => ?_)
    · have h1 : bk s i + firstN s (bk s i) < cnt s := by have := of_decide_eq_true h1; omega
      refine ⟨_, rfl, by omega, rd h1 fun b o hb => ⟨_, hb, fun w4 hd => ⟨0, rfl, by omega, rd (j := 0) (by omega) fun b1 o1 hb1 => ⟨_, hb1, 0, rfl, by omega, rd (j := 0) (by omega) fun b2 o2 hb2 => ⟨_, hb2, pos s (bk s i), rfl, pos s (bk s i + firstN s (bk s i)), rfl, ?_, pos_le s _, fun b3 w5 hnw => ?_⟩⟩⟩⟩⟩
      · exact pos_mono s (by omega)
      · exact fin hd (by unfold bp; rw [hsu]) hnw
    · have h1 : bk s i + firstN s (bk s i) = cnt s := by have := of_decide_eq_false h1; omega
      intro w4 hd
      refine ⟨0, rfl, by omega, rd (j := 0) (by omega) fun b1 o1 hb1 => ⟨_, hb1, 0, rfl, by omega, rd (j := 0) (by omega) fun b2 o2 hb2 => ⟨_, hb2, pos s (bk s i), rfl, s.size, rfl, pos_le s _, Nat.le_refl _, fun b3 w5 hnw => ?_⟩⟩⟩
      exact fin hd (by unfold bp; rw [hsu, h1, pos_cnt]) hnw
  · have hbk : ¬ bk s i < cnt s := by have := of_decide_eq_false h; omega
    have hie : i = ncl s := by
      by_cases hc : i < ncl s
      · exact absurd (bk_lt.1 hc) hbk
      · omega
    subst hie
    exact ⟨(oa, ncl s, oc), rfl, rfl, hm.earlier hm0.ext⟩

theorem rnextC_ok : (sSN nextL).Ok Tryd.prog 15 := by
  refine rnextC_vc ⟨signs_ok, first_ok, trivial⟩ ?_
  rintro (s : ByteArray) w ⟨hU, hsm⟩
  refine ⟨s, rfl, ⟨hU, hsm⟩, ?_⟩
  rintro ⟨a, n, c⟩ w1 ⟨hn, hm⟩
  dsimp only at hn hm ⊢
  subst hn
  refine bcase_mk (fun h => ⟨0, rfl, ?_, hm.ext⟩) (fun h => ?_)
  · have h : cnt s = 0 := by simp only [beq_iff_eq] at h; omega
    rw [next_zero (cnt_zero.1 h)]
  have h0 : 0 < cnt s := by simp only [beq_eq_false_iff_ne, ne_eq] at h; omega
  have hz : 0 < s.size := Nat.pos_of_ne_zero (fun e => by have := cnt_zero.2 e; omega)
  refine ⟨⟨s, 0, a, c⟩, by dsimp only; rw [Nat.sub_zero], ⟨h0, hsm, by dsimp only; rw [List.drop_zero]; exact hm.row.cells⟩, ?_⟩
  rintro _ w2 ⟨rfl, e2⟩
  dsimp only
  have hfit := first_fit s 0 h0
  refine bcase_mk (fun h1 => ⟨s.size, rfl, ?_, hm.ext.trans e2⟩) (fun h1 => ?_)
  · have h1 : firstN s 0 = cnt s := by simp only [beq_iff_eq] at h1; omega
    rw [next_first hz, h1, pos_cnt]
  · have h1 : firstN s 0 < cnt s := by simp only [beq_eq_false_iff_ne, ne_eq] at h1; omega
    refine ⟨firstN s 0, rfl, h1, (hm.row.cells.ext e2).fld (s := 3) (j := 1) (v := .int .i64 (pos s (firstN s 0))) ?_ fun b o hb => ⟨_, hb, _, rfl, (next_first hz).symm, hm.ext.trans e2⟩⟩
    rw [flat_at (f := sgnV s) (s := 3) (fun _ => rfl) (List.getElem?_range h1) (by decide)]; rfl

theorem ext_sz {s : ByteArray} {a b : Nat} (h : b ≤ s.size) (h2 : a ≤ b) : ((s.extract a b).size : Int) = (b : Int) - a := by rw [size_ext h]; omega
theorem rlastC_ok : (sSN lastL).Ok Tryd.prog 17 := by
  refine rlastC_vc ⟨rallP_ok, trivial⟩ ?_
  rintro (s : ByteArray) w ⟨hU, hsm⟩
  have hncl := ncl_le s
  refine ⟨s, rfl, ⟨hU, hsm⟩, ?_⟩
  rintro ⟨a, n, c⟩ w1 ⟨hn, hm⟩
  dsimp only at hn hm ⊢
  subst hn
  refine bcase_mk (fun h => ⟨0, rfl, ?_, hm.ext⟩) (fun h => ?_)
  · have h : ncl s = 0 := by simp only [beq_iff_eq] at h; omega
    have := ncl_zero.1 h
    unfold lastL; omega
  have h0 : 0 < ncl s := by simp only [beq_eq_false_iff_ne, ne_eq] at h; omega
  have hb := bp_le s (ncl s - 1)
  refine ⟨inr_i64 (by omega) (by omega), ncl s - 1, by omega, by omega, hm.row.cells.fld (s := 2) (j := 1) (v := .string (s.extract (bp s (ncl s - 1)) s.size)) ?_ fun b o hb => ⟨_, hb, _, rfl, ?_, hm.ext⟩⟩
  · rw [pc_at (by omega) (by decide)]
    unfold pcV
    rw [show ncl s - 1 + 1 = ncl s from by omega, bp_end]; rfl
  · rw [size_ext (Nat.le_refl _)]; rfl

theorem bord_len (s : ByteArray) : (bordI s).length = ncl s + 1 := by simp [bordI]
theorem bord_at {s : ByteArray} {i : Nat} (h : i ≤ ncl s) : (bordI s)[i]? = some (bp s i : Int) := by
  unfold bordI
  rw [List.getElem?_map, List.getElem?_range (by omega)]; rfl
theorem rbord_ok : (sSL .i64 3 bordI).Ok Tryd.prog 42 := by
  refine rbord_vc ⟨rallP_ok, trivial⟩ ?_
  rintro (s : ByteArray) w ⟨hU, hsm⟩
  have hncl := ncl_le s
  refine ⟨s, rfl, ⟨hU, hsm⟩, ?_⟩
  rintro ⟨a, n, c⟩ w1 ⟨hn, hm0⟩
  dsimp only at hn hm0 ⊢
  subst hn
  have hc0 := hm0.row.cells
  refine ⟨⟨(0, none, 0), rfl, rfl, Nat.zero_le _, Made.nil _ _ _⟩, ?_⟩
  rintro _ ⟨i, oa, oc⟩ w2 ⟨hi, hm⟩
  dsimp only at hi hm ⊢
  have push : ∀ {b : Nat} {w3 : World} {v : Int}, v = bp s i → New w2 (.cells #[.int .i64 v] 3) b w3 → ∃ a' c' w4, AppRun Tryd.prog #[31, 31] 31 (.slice oa i oc) (.slice (some ⟨b, 0, none⟩) 1 1) w3 a' (i + 1) c' w4 ∧ KO w3 w4 ∧ Made w1 w4 3 1 a' (i + 1) (((bordI s).take (i + 1)).map (Value.int .i64)) c' := by
    rintro b w3 v rfl hnw
    obtain ⟨a', c', w4, hrun, hko, hm4, _⟩ := hm.pushN (P := Tryd.prog) (ty := 31) elem64 (by decide) (m := 1) (news := [.int .i64 (bp s i)]) hnw rfl (by simp [Value.oneCell']) (by unfold maxLen; omega) (.inr (by omega))
    refine ⟨a', c', w4, hrun, hko, ?_⟩
    rw [take_snoc (bord_at hi)]; exact hm4
  refine bcase_mk (fun h => ?_) (fun h => ?_)
  · have hlt : i < ncl s := by have := of_decide_eq_true h; omega
    refine ⟨i, rfl, hlt, (hc0.ext hm.ext).fld (s := 2) (j := 0) (v := .int .i64 (bp s i)) (by rw [pc_at hlt (by decide)]; rfl) fun b o hb => ⟨_, hb, fun b1 w3 hnw => ?_⟩⟩
    obtain ⟨a', c', w4, hrun, hko, hm4⟩ := push rfl hnw
    exact ⟨a', c', w4, hrun, hko, inr_i64 (by omega) (by omega), (i + 1, a', c'), by simp, rfl, ⟨hlt, hm4⟩, by dsimp only; omega⟩
  · have hie : i = ncl s := by have := of_decide_eq_false h; omega
    subst hie
    intro b w3 hnw
    obtain ⟨a', c', w4, hrun, hko, hm4⟩ := push (by rw [bp_end]) hnw
    rw [List.take_of_length_le (by rw [bord_len]; exact Nat.le_refl _)] at hm4
    exact ⟨a', c', w4, hrun, hko, (a', ncl s + 1, c'), rfl, by rw [bord_len], hm4.earlier hm0.ext⟩

theorem isB_iff {s : ByteArray} {p : Int} : isB s p = true ↔ ∃ i, i ≤ ncl s ∧ (bp s i : Int) = p := by
  unfold isB
  rw [List.any_eq_true]
  constructor
  · rintro ⟨i, hi, h⟩; exact ⟨i, by have := List.mem_range.1 hi; omega, of_decide_eq_true h⟩
  · rintro ⟨i, hi, h⟩; exact ⟨i, List.mem_range.2 (by omega), decide_eq_true h⟩
theorem ris_ok : sIsB.Ok Tryd.prog 23 := by
  refine ris_vc ⟨rbord_ok, trivial⟩ ?_
  rintro ⟨s, p⟩ w ⟨hU, hsm⟩
  dsimp only at hU hsm ⊢
  have hncl := ncl_le s
  refine ⟨s, rfl, ⟨hU, hsm⟩, ?_⟩
  rintro ⟨a, n, c⟩ w1 ⟨hn, hm⟩
  dsimp only at hn hm ⊢
  subst hn
  have hc := hm.row.cells
  have hbl := bord_len s
  refine ⟨⟨0, rfl, Nat.zero_le _, fun j hj => by omega, Ext.refl _⟩, ?_⟩
  rintro _ i w2 ⟨hi, hno, e2⟩
  have E2 := hm.ext.trans e2
  refine bcase_mk (fun h => ?_) (fun h => ⟨false, rfl, ?_, E2⟩)
  · have hlt : i ≤ ncl s := by have := of_decide_eq_true h; omega
    refine ⟨i, rfl, by omega, (hc.ext e2).ptr (v := .int .i64 (bp s i)) (by rw [List.getElem?_map, bord_at hlt]; rfl) fun b o hb => ⟨_, hb, ?_⟩⟩
    refine bcase_mk (fun h1 => ⟨true, rfl, ?_, E2⟩) (fun h1 => ?_)
    · exact (isB_iff.2 ⟨i, hlt, by simpa using h1⟩).symm
    · have h1 : (bp s i : Int) ≠ p := by simpa using h1
      refine ⟨inr_i64 (by omega) (by omega), i + 1, by simp, ⟨by omega, fun j hj => ?_, e2⟩, by omega⟩
      by_cases hji : j = i
      · subst hji; exact h1
      · exact hno j (by omega)
  · have hlt : i = ncl s + 1 := by have := of_decide_eq_false h; omega
    cases hb : isB s p with
    | false => rfl
    | true =>
      obtain ⟨j, hj, he⟩ := isB_iff.1 hb
      exact absurd he (hno j (by omega))

theorem into_ok : sInto.Ok Tryd.prog 41 := by
  refine into_vc trivial ?_
  rintro ⟨n, lo, hi⟩ w _
  dsimp only
  refine bcase_mk (fun h => ⟨_, rfl, by rw [if_pos (of_decide_eq_true h)], rfl⟩) (fun h => ?_)
  have h := of_decide_eq_false h
  refine bcase_mk (fun h1 => ⟨_, rfl, by rw [if_neg h, if_pos (of_decide_eq_true h1)], rfl⟩) (fun h1 => ⟨_, rfl, by rw [if_neg h, if_neg (of_decide_eq_false h1)], rfl⟩)

theorem ix_of {s : ByteArray} {p i : Nat} (hi : i ≤ ncl s) (h1 : ∀ j, j < i → bp s (j + 1) ≤ p) (h2 : i = ncl s ∨ p < bp s (i + 1)) : ixP s p = i := by
  unfold ixP
  rcases Nat.lt_or_eq_of_le hi with hlt | he
  · have : (List.range (ncl s)).find? (fun i => decide (p < bp s (i + 1))) = some i := by
      rw [List.find?_range_eq_some]
      refine ⟨decide_eq_true (h2.resolve_left (by omega)), List.mem_range.2 hlt, fun j hj => ?_⟩
      have := h1 j hj
      simp; omega
    rw [this]; rfl
  · have : (List.range (ncl s)).find? (fun i => decide (p < bp s (i + 1))) = none := by
      rw [List.find?_range_eq_none]
      intro j hj
      have := h1 j (by omega)
      simp; omega
    rw [this, he]; rfl
theorem bp_out {s : ByteArray} {i : Nat} (h : ncl s ≤ i) : bp s i = s.size := by
  unfold bp bk; rw [orb_out (first_fit s) h, pos_cnt]
theorem clamp_eq (s : ByteArray) (p : Int) : (if p < 0 then (0 : Int) else if p > (s.size : Int) then (s.size : Int) else p) = (clampN s p : Int) := by
  unfold clampN
  split
  · rfl
  · split
    · rfl
    · omega
theorem rat_ok : sAt.Ok Tryd.prog 21 := by
  refine rat_vc ⟨into_ok, rallP_ok, trivial⟩ ?_
  rintro ⟨s, p⟩ w ⟨hU, hsm⟩
  dsimp only at hU hsm ⊢
  have hncl := ncl_le s
  refine ⟨(p, 0, s.size), rfl, trivial, ?_⟩
  rintro x _ ⟨hx, rfl⟩
  dsimp only at hx
  rw [clamp_eq] at hx
  subst hx
  refine ⟨s, rfl, ⟨hU, hsm⟩, ?_⟩
  rintro ⟨a, n, c⟩ w1 ⟨hn, hm⟩
  dsimp only at hn hm ⊢
  subst hn
  have hc := hm.row.cells
  refine ⟨⟨0, rfl, Nat.zero_le _, fun j hj => by omega, Ext.refl _⟩, ?_⟩
  rintro _ i w2 ⟨hi, hno, e2⟩
  have E2 := hm.ext.trans e2
  refine bcase_mk (fun h => ?_) (fun h => ?_)
  · have hlt : i < ncl s := by have := of_decide_eq_true h; omega
    have hb1 := bp_le s (i + 1)
    have hb2 := bp_mono s (show i ≤ i + 1 by omega)
    have hsz := ext_sz hb1 hb2
    have r0 : ∀ {w' : World} {K : Nat → Nat → Prop}, Ext w1 w' → (∀ b o, w'.cell? ⟨b, o + i * 2, none⟩ = some (.int .i64 (bp s i)) → K b o) → ptrE a K := fun e hK => (hc.ext e).fld (s := 2) (j := 0) (by rw [pc_at hlt (by decide)]; rfl) hK
    have r1 : ∀ {w' : World} {K : Nat → Nat → Prop}, Ext w1 w' → (∀ b o, w'.cell? ⟨b, o + i * 2 + 1, none⟩ = some (.string (s.extract (bp s i) (bp s (i + 1)))) → K b o) → ptrE a K := fun e hK => (hc.ext e).fld (s := 2) (j := 1) (by rw [pc_at hlt (by decide)]; rfl) hK
    intro w3 hd
    refine ⟨i, rfl, hlt, r0 e2 fun b o hb => ⟨_, hb, i, rfl, hlt, r1 e2 fun b o hb => ⟨_, hb, inr_i64 (by omega) (by omega), ?_⟩⟩⟩
    refine bcase_mk (fun h1 => ?_) (fun h1 => ?_)
    · have h1 : clampN s p < bp s (i + 1) := by have := of_decide_eq_true h1; omega
      intro w4 hd4
      have e3 := e2.trans hd.ext
      refine ⟨i, rfl, hlt, r0 e3 fun b o hb => ⟨_, hb, i, rfl, hlt, r0 e3 fun b o hb => ⟨_, hb, i, rfl, hlt, r1 e3 fun b o hb => ⟨_, hb, inr_i64 (by omega) (by omega), (bp s i, bp s (i + 1)), ?_, ?_, (E2.trans hd.ext).trans hd4.ext⟩⟩⟩⟩
      · dsimp only; rw [show (bp s i : Int) + ((s.extract (bp s i) (bp s (i + 1))).size : Int) = (bp s (i + 1) : Int) from by omega]
      · rw [ix_of hi hno (.inr h1)]
    · have h1 : bp s (i + 1) ≤ clampN s p := by have := of_decide_eq_false h1; omega
      refine ⟨inr_i64 (by omega) (by omega), i + 1, by simp, ⟨hlt, fun j hj => ?_, e2.trans hd.ext⟩, by omega⟩
      by_cases hji : j = i
      · subst hji; exact h1
      · exact hno j (by omega)
  · have hie : i = ncl s := by have := of_decide_eq_false h; omega
    subst hie
    refine ⟨(s.size, s.size), rfl, ?_, E2⟩
    rw [ix_of hi hno (.inl rfl), bp_end, bp_out (by omega)]

end Go.Proofs.YtniiamobbgnjaaaDoor
