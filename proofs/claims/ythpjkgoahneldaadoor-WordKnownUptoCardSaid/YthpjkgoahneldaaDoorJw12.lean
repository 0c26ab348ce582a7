/-
  Texts joined by program: WkWe, SpWc, VgWc, Wf, WkWg, Lw.
-/
import Derived.Test.YthpjkgoahneldaaDoorJw11
import Derived.Test.YthpjkgoahneldaaDoorJw07
import Derived.Test.YthpjkgoahneldaaDoorProg
import Derived.KernelRfl
import Derived.Test.YthpjkgoahneldaaDoorRows
import Derived.Test.YthpjkgoahneldaaDoorJw03
import Derived.WalkKit
import Derived.ProofKit
import Derived.OpenShut
import Derived.JoinedCond
import Derived.SizedLaws
import Derived.Carry
set_option linter.unusedVariables false
set_option linter.unusedSimpArgs false

section
/-
  Chapter 12: what is told of the beginnings of words; the laws' helpers.
-/
namespace Go.Proofs.YthpjkgoahneldaaDoor
open Go Go.RowKit Vc Ut Tb Cl Orb Wd
attribute [local irreducible] sortC betC

theorem dynMarkW : dynMark.2.Ok Tryd.prog dynMark.1 := fun _ _ h => h.elim
theorem begs_ok : sBegs.Ok Tryd.prog 71 := by
  refine begs_vc ⟨dynMarkW, segs_ok, trivial⟩ ?_
  rintro ⟨s, gf, caps, J, S⟩ w ⟨hU, hs, hJ0, hcalls, hS, hstab, hno, hdo⟩
  dsimp only at hU hs hJ0 hcalls hS hstab hno hdo ⊢
  have hncl := ncl_le s
  have hwn := wn_le s
  refine ⟨s, rfl, ⟨hU, hs⟩, ?_⟩
  rintro ⟨n, ea, ec, sa, sc⟩ w1 ⟨hn, hme, hms⟩
  dsimp only at hn hme hms ⊢
  subst hn
  have e1 := hme.ext
  refine ⟨⟨0, rfl, rfl, Nat.zero_le _, hstab _ _ _ hJ0 e1, Fr.refl _ _⟩, ?_⟩
  rintro u k w2 ⟨hk, hJ, hfr⟩
  have hce := hme.row.cells.fr hfr (fun q hq h => by have := hme.new q hq; have := hS q h; omega)
  have hcs := hms.row.cells.fr hfr (fun q hq h => by have := hms.new q hq; have := hS q h; omega)
  refine bcase_mk (fun h => ?_) (fun h => ?_)
  · have hl : k < wn s := by have := of_decide_eq_true h; omega
    have hle := wp_le s (k + 1)
    refine ⟨k, rfl, hl, hce.ptr (v := .int .i64 (wp s (k + 1) : Nat)) (by rw [List.getElem?_map, endsW_at hl]; rfl) fun b o hb => ⟨_, hb, k, rfl, hl, hcs.ptr (v := .int .i64 (kw s (wb s k) : Nat)) (by rw [List.getElem?_map, sortsW_at hl]; rfl) fun b1 o1 hb1 => ⟨_, hb1, ?_⟩⟩⟩
    refine bcase_mk (fun h2 => ?_) (fun h2 => ?_)
    · have h2 : wdB s k = true := decide_eq_true (by have := of_decide_eq_true h2; omega)
      refine ⟨fun w' => J (k + 1) w' ∧ Fr S w2 w', ⟨hcalls, ?_⟩, ?_⟩
      · simp only [List.map_toArray, List.map_cons, List.map_nil]
        exact hdo k w2 hl h2 hJ
      rintro w3 ⟨hJ3, hf3⟩
      exact ⟨inr_i64 (by omega) (by omega), k + 1, by simp, rfl, ⟨hl, hJ3, hfr.trans hf3 (fun _ _ h => h)⟩, by omega⟩
    · have h2 : wdB s k = false := decide_eq_false (by have := of_decide_eq_false h2; omega)
      exact ⟨inr_i64 (by omega) (by omega), k + 1, by simp, rfl, ⟨hl, hno k w2 hl h2 hJ, hfr⟩, by omega⟩
  · have hke : k = wn s := by have := of_decide_eq_false h; omega
    subst hke
    exact ⟨(), rfl, hJ, (Fr.of_ext e1).trans hfr (fun _ _ h => h)⟩

theorem nx1_ok : sNx1.Ok Tryd.prog 72 := by
  refine nx1_vc trivial ?_
  rintro ⟨p, ba, bo, at_, out⟩ w ⟨ha, ho⟩
  dsimp only at ha ho ⊢
  refine ⟨_, box_cell ha, bcase_mk (fun h => ⟨_, box_cell ho, bcase_mk (fun h2 => ⟨rfl, box_old ho, box_free ho, fun w1 hs => ⟨(), rfl, ?_, ?_⟩⟩) (fun h2 => ⟨(), rfl, ?_, Fr.refl _ _⟩)⟩) (fun h => ⟨(), rfl, ?_, Fr.refl _ _⟩)⟩
  · rw [if_pos ⟨of_decide_eq_true h, of_decide_eq_true h2⟩]; exact hs.box ho
  · exact (Fr.stored hs).mono fun q _ h => h
  · rw [if_neg (fun hh => of_decide_eq_false h2 hh.2)]; exact ho
  · rw [if_neg (fun hh => of_decide_eq_false h hh.1)]; exact ho
theorem pv1_ok : sPv1.Ok Tryd.prog 74 := by
  refine pv1_vc trivial ?_
  rintro ⟨p, ba, bo, at_, out⟩ w ⟨ha, ho⟩
  dsimp only at ha ho ⊢
  refine ⟨_, box_cell ha, bcase_mk (fun h => ⟨rfl, box_old ho, box_free ho, fun w1 hs => ⟨(), rfl, ?_, ?_⟩⟩) (fun h => ⟨(), rfl, ?_, Fr.refl _ _⟩)⟩
  · rw [if_pos (of_decide_eq_true h)]; exact hs.box ho
  · exact (Fr.stored hs).mono fun q _ h => h
  · rw [if_neg (of_decide_eq_false h)]; exact ho

theorem nextW_ok : (sSIN nextW).Ok Tryd.prog 37 := by
  refine nextW_vc ⟨begs_ok, trivial⟩ ?_
  rintro ⟨s, p⟩ w ⟨hU, hsm⟩ b w1 hn1
  dsimp only at hU hsm ⊢
  have z1 := hn1.size
  have hut := hU.lt
  refine ⟨p, box_cell hn1.heap, rfl, box_old hn1.heap, box_free hn1.heap, fun w2 hs2 b1 w3 hn3 => ?_⟩
  have z3 := hn3.size
  have z2 := hs2.size
  refine ⟨rfl, box_old hn3.heap, box_free hn3.heap, fun w4 hs4 => ?_⟩
  have hb2 := hs2.box hn1.heap
  have hb4 := (hs4.other (k := b) (by show b ≠ b1; omega)).trans (hn3.ext.heap hb2)
  have ho4 := hs4.box hn3.heap
  have e4 : Ext w w4 := ((hn1.ext.stored hs2 (by show _ ≤ b; omega)).trans hn3.ext).stored hs4 (by show _ ≤ b1; omega)
  have z4 := hs4.size
  have hsz := wp_le s
  generalize hat : (if (0 : Int) > p then (0 : Int) else p) = at_ at hb4
  have key : ∀ k, at_ < (wp s k : Int) ∧ k < wn s ↔ clampN s p < wp s k ∧ k < wn s := fun k => by
    have hk := wp_le s k
    unfold clampN
    subst hat
    constructor
    · rintro ⟨h1, h2⟩
      have := wp_step h2
      have := wp_le s (k + 1)
      refine ⟨?_, h2⟩
      split <;> (try split) <;> (split at h1 <;> omega)
    · rintro ⟨h1, h2⟩
      refine ⟨?_, h2⟩
      split at h1 <;> (try split at h1) <;> (split <;> omega)
  refine ⟨⟨s, 72, #[.pointer (some ⟨b, 0, none⟩), .pointer (some ⟨b1, 0, none⟩)], fun k W => W.heap[b]? = some (.cells #[.int .i64 at_] 3) ∧ W.heap[b1]? = some (.cells #[.int .i64 (nxU s (clampN s p) k : Nat)] 3), fun q => q = b1⟩, rfl, ⟨hU.ext e4, hsm, ⟨hb4, ho4⟩, enters_of Tryd.func72 (by kernel_rfl) rfl, ?_, ?_, ?_, ?_⟩, ?_⟩
  · rintro q rfl; exact heap_lt ho4
  · rintro k W W' ⟨h1, h2⟩ e; exact ⟨e.heap h1, e.heap h2⟩
  · rintro k W hk hw ⟨h1, h2⟩
    refine ⟨h1, ?_⟩
    dsimp only [nxU]
    rw [if_neg (by rw [hw]; simp)]; exact h2
  · rintro k W hk hw ⟨h1, h2⟩
    refine (nx1_ok ⟨wp s k, b, b1, at_, nxU s (clampN s p) k⟩ W ⟨h1, h2⟩).mono ?_
    rintro e W' ⟨x, he, ⟨hp1, hp2⟩, hko⟩
    dsimp only at hp1 hp2
    refine ⟨he, ⟨⟨(hp2.block b (heap_lt h1) (by show ¬ b = b1; omega)).trans h1, ?_⟩, hp2⟩, hko⟩
    rw [hp1]
    congr 4
    dsimp only [nxU]
    have := key k
    split
    · rename_i hh
      rw [if_pos ⟨hw, (this.1 ⟨hh.1, hk⟩).1, by omega⟩]
    · rename_i hh
      rw [if_neg (fun hq => hh ⟨(this.2 ⟨hq.2.1, hk⟩).1, by omega⟩)]
  · rintro _ w5 ⟨⟨h1, h2⟩, hf⟩
    refine ⟨_, box_cell h2, _, rfl, rfl, ?_⟩
    exact Below.trans e4 (hf.below e4.size (fun q hq h => by subst h; omega))

theorem prevW_ok : (sSIN prevW).Ok Tryd.prog 39 := by
  refine prevW_vc ⟨begs_ok, trivial⟩ ?_
  rintro ⟨s, p⟩ w ⟨hU, hsm⟩ b w1 hn1 b1 w3 hn3
  dsimp only at hU hsm ⊢
  have z1 := hn1.size
  have z3 := hn3.size
  refine ⟨rfl, box_old hn3.heap, box_free hn3.heap, fun w4 hs4 => ?_⟩
  have hb4 := (hs4.other (k := b) (by show b ≠ b1; omega)).trans (hn3.ext.heap hn1.heap)
  have ho4 := hs4.box hn3.heap
  have e4 : Ext w w4 := (hn1.ext.trans hn3.ext).stored hs4 (by show _ ≤ b1; omega)
  have z4 := hs4.size
  have key : ∀ k, (wp s k : Int) < p ∧ k < wn s ↔ wp s k < clampN s p ∧ k < wn s := fun k => by
    have hk := wp_le s k
    unfold clampN
    constructor
    · rintro ⟨h1, h2⟩
      have := wp_step h2
      have := wp_le s (k + 1)
      refine ⟨?_, h2⟩
      split
      · omega
      · split <;> omega
    · rintro ⟨h1, h2⟩
      refine ⟨?_, h2⟩
      split at h1
      · omega
      · split at h1 <;> omega
  refine ⟨⟨s, 74, #[.pointer (some ⟨b, 0, none⟩), .pointer (some ⟨b1, 0, none⟩)], fun k W => W.heap[b]? = some (.cells #[.int .i64 p] 3) ∧ W.heap[b1]? = some (.cells #[.int .i64 (pvU s (clampN s p) k : Nat)] 3), fun q => q = b1⟩, rfl, ⟨hU.ext e4, hsm, ⟨hb4, ho4⟩, enters_of Tryd.func74 (by kernel_rfl) rfl, ?_, ?_, ?_, ?_⟩, ?_⟩
  · rintro q rfl; exact heap_lt ho4
  · rintro k W W' ⟨h1, h2⟩ e; exact ⟨e.heap h1, e.heap h2⟩
  · rintro k W hk hw ⟨h1, h2⟩
    refine ⟨h1, ?_⟩
    dsimp only [pvU]
    rw [if_neg (by rw [hw]; simp)]; exact h2
  · rintro k W hk hw ⟨h1, h2⟩
    refine (pv1_ok ⟨wp s k, b, b1, p, pvU s (clampN s p) k⟩ W ⟨h1, h2⟩).mono ?_
    rintro e W' ⟨x, he, ⟨hp1, hp2⟩, hko⟩
    dsimp only at hp1 hp2
    refine ⟨he, ⟨⟨(hp2.block b (heap_lt h1) (by show ¬ b = b1; omega)).trans h1, ?_⟩, hp2⟩, hko⟩
    rw [hp1]
    congr 4
    dsimp only [pvU]
    have := key k
    split
    · rename_i hh
      rw [if_pos ⟨hw, (this.1 ⟨hh, hk⟩).1⟩]
    · rename_i hh
      rw [if_neg (fun hq => hh (this.2 ⟨hq.2, hk⟩).1)]
  · rintro _ w5 ⟨⟨h1, h2⟩, hf⟩
    refine ⟨_, box_cell h2, _, rfl, rfl, ?_⟩
    exact Below.trans e4 (hf.below e4.size (fun q hq h => by subst h; omega))

/-! ### The laws' helpers -/
theorem elemPW : ElemOk Tryd.prog 50 53 2 24 := elemOk_mk (.agg #[.int .i64 0, .string ⟨#[]⟩]) (by kernel_rfl) (by kernel_rfl) rfl
theorem GrowS.kept {W W' : World} {box q s m : Nat} {t e : TypeId} {a : Option Addr} {c n : Nat} {vs : List Value} (h : GrowS W box t e s m a c vs) (hq : q = box ∨ blk a = some q) (hk : ∀ o, W.heap[q]? = some o → (isRec o = false ∨ q < n) → W'.heap[q]? = some o) : W'.heap[q]? = W.heap[q]? := by
  rcases hq with rfl | hq
  · rw [h.hb]; exact hk _ h.hb (.inl rfl)
  · rcases h.row.2 with ⟨rfl, _⟩ | ⟨g, cur, rfl, h1, _⟩
    · cases hq
    · cases hq
      rw [h1]; exact hk _ h1 (.inl rfl)
theorem pcsW_ok : sPcsW.Ok Tryd.prog 41 := by
  refine pcsW_vc ⟨allW_ok, trivial⟩ ?_
  rintro (s : ByteArray) w ⟨hU, hsm⟩ b w1 hn1
  have hb1 := hn1.size
  have hncl := ncl_le s
  have hwn := wn_le s
  have hwl := wd_len s
  refine ⟨s, rfl, ⟨hU.ext hn1.ext, hsm⟩, ?_⟩
  rintro x w2 ⟨rfl, hh, hnew, e12⟩
  have e2 := hn1.ext.trans e12
  have hbx := e12.heap hn1.heap
  dsimp only [ptrB]
  have hne : (50 : TypeId) ≠ 53 := by decide
  refine ⟨wdL x.s, cWd x, (fun q => q = b ∨ blk none = some q), wd_iter hh, ⟨?_, ?_⟩, ⟨none, 0, rfl, (⟨hbx, Row.nil _ _ _⟩ : GrowS w2 b _ _ 2 0 none 0 [])⟩, ?_, ?_, ?_, ?_, trivial⟩
  · rintro q (rfl | h)
    · exact heap_lt hbx
    · cases h
  · intro q hq
    have := hnew q hq
    refine ⟨cWd_lt hh q hq, ?_⟩
    rintro (h | h)
    · omega
    · cases h
  · rintro k D W W' ⟨a, c, rfl, hg⟩ hsz hq
    exact ⟨a, c, rfl, hg.keep fun q hq' => hg.kept hq' (hq q · (.inr hq'))⟩
  · rintro _ k D W W' h hsz hq
    exact h
  · rintro k p D W hp ⟨a, c, rfl, hg⟩ hM
    have hkl : k < (wdL x.s).length := (List.getElem?_eq_some_iff.1 hp).1
    refine ⟨a, _, c, box_cell hg.hb, fun b1 w4 hn4 => ?_⟩
    obtain ⟨a', c', w5, hr, hko, ho, hfz, hpost⟩ := hg.push (P := Tryd.prog) (tt := 50) (ty := 50) (news := encPc p) elemPW (by decide) hne hn4 rfl (enc_one p) (by unfold maxLen; omega) (by omega)
    refine ⟨a', c', w5, hr, hko, rfl, ho, hfz, fun w6 hs6 => ?_⟩
    obtain ⟨hg6, hfr, hnew⟩ := hpost hs6
    refine ⟨_, ⟨hfr, ?_⟩, a', c', rfl, ?_⟩
    · rintro q (rfl | hq)
      · exact ⟨heap_lt hg6.hb, .inl (.inl rfl)⟩
      · exact ⟨hg6.row.lt hq, (hnew q hq).elim (fun h => .inl (.inr h)) .inr⟩
    · rw [take_flat hp]; exact hg6
  · rintro D W ⟨a, c, rfl, hg⟩ hM
    rw [lenX_eq, List.take_length, hwl] at hg
    refine ⟨a, _, c, box_cell hg.hb, fun w3 ht => ⟨(a, wn x.s, c), rfl, rfl, ?_⟩⟩
    have eW : Ext w W := hM.ext e2 (fun q hq => by rcases hq with rfl | h; omega; cases h)
    refine ⟨hg.row.turn ht, fun q hq => ?_, Ext.turn eW ht⟩
    have z2 := e2.size
    have := (hM.dom q (.inr hq)).2
    rcases this with (h | h) | h
    · omega
    · cases h
    · omega

theorem rowW_ok : sRowW.Ok Tryd.prog 43 := by
  refine rowW_vc ⟨pcsW_ok, trivial⟩ ?_
  rintro ⟨s, want, a, c⟩ w ⟨hU, hsm, hc, hwl⟩
  dsimp only at hU hsm hc hwl ⊢
  have hncl := ncl_le s
  have hwn := wn_le s
  have hpl := wd_len s
  refine ⟨s, rfl, ⟨hU, hsm⟩, ?_⟩
  rintro ⟨pa, pn, pc⟩ w2 ⟨hpn, hm⟩
  dsimp only at hpn hm ⊢
  subst hpn
  have e2 := hm.ext
  have hml : ((wdL s).map Prod.snd).length = wn s := by rw [List.length_map, hpl]
  refine bcase_mk (fun h => ⟨false, rfl, ?_, e2⟩) (fun h => ?_)
  · have h : wn s ≠ want.length := by simp only [bne_iff_ne, ne_eq] at h; omega
    unfold rowW
    rw [decide_eq_false]
    intro he
    rw [← he, hml] at h
    exact h rfl
  have hwn : wn s = want.length := by simp only [bne_eq_false_iff_eq] at h; omega
  refine ⟨⟨0, rfl, rfl, Nat.zero_le _, rfl, Ext.refl _⟩, ?_⟩
  rintro _ i w3 ⟨hi, ht, e3⟩
  have E3 := e2.trans e3
  refine bcase_mk (fun h => ?_) (fun h => ⟨true, rfl, ?_, E3⟩)
  · have hlt : i < wn s := by have := of_decide_eq_true h; omega
    have hp := wd_get hlt
    have hm1 : ((wdL s).map Prod.snd)[i]? = some (wdP s i).2 := by rw [List.getElem?_map, hp]; rfl
    obtain ⟨q, hq⟩ : ∃ q, want[i]? = some q := ⟨_, List.getElem?_eq_getElem (by omega)⟩
    have hq2 : (want.map Value.string)[i]? = some (.string q) := by rw [List.getElem?_map, hq]; rfl
    have hcp := hm.row.cells.ext e3
    intro w4 hd
    have no : (wdP s i).2 ≠ q → false = rowW s want := by
      intro hne
      unfold rowW
      rw [decide_eq_false]
      intro he
      rw [he, hq] at hm1
      exact hne (Option.some.inj hm1).symm
    refine ⟨i, rfl, by omega, hcp.fld (s := 2) (j := 1) (by rw [enc_at hp (by decide)]; rfl) fun b o hb => ⟨_, hb, i, rfl, by omega, (hc.ext E3).ptr hq2 fun b o hb => ⟨_, hb, ?_⟩⟩⟩
    rw [str_eq]
    refine bcase_mk (fun h => ⟨false, rfl, no (by simpa using h), E3.trans hd.ext⟩) (fun h => ?_)
    have hqe : (wdP s i).2 = q := by simpa using h
    refine ⟨i, rfl, by omega, hcp.fld (s := 2) (j := 0) (by rw [enc_at hp (by decide)]; rfl) fun b o hb => ⟨_, hb, ?_⟩⟩
    refine bcase_mk (fun h => by simp [wdP] at h) (fun _ => ?_)
    refine ⟨i, rfl, by omega, (hc.ext (E3.trans hd.ext)).ptr hq2 fun b o hb => ⟨_, hb, ?_⟩⟩
    have hle := wp_le s (i + 1)
    have hsz : (wp s i : Int) + (q.size : Int) = (wp s (i + 1) : Int) := by
      rw [← hqe]; have := wd_sz (s := s) (k := i); omega
    rw [hsz]
    refine ⟨inr_i64 (by omega) (by omega), inr_i64 (by omega) (by omega), i + 1, by simp, rfl, ⟨hlt, ?_, e3.trans hd.ext⟩, by omega⟩
    rw [List.take_add_one, List.take_add_one, ht, hm1, hq, hqe]
  · have hie : i = wn s := by have := of_decide_eq_false h; omega
    subst hie
    unfold rowW
    rw [List.take_of_length_le (by omega), List.take_of_length_le (by omega)] at ht
    exact (decide_eq_true ht).symm

theorem sameW_ok : sSameW.Ok Tryd.prog 44 := by
  refine sameW_vc trivial ?_
  rintro ⟨a, ac, l, b, bc, m, k⟩ w ⟨ha, hb, hl, hk, hmb⟩
  dsimp only at ha hb hl hk hmb ⊢
  refine bcase_mk (fun h => ⟨false, rfl, ?_, Ext.refl _⟩) (fun h => ?_)
  · refine (decide_eq_false ?_).symm
    intro he
    have := congrArg List.length he
    simp only [List.length_map] at this
    simp [this] at h
  have hlen : l.length = m.length := by simp only [bne_eq_false_iff_eq] at h; omega
  refine ⟨⟨0, rfl, Nat.zero_le _, rfl, Ext.refl _⟩, ?_⟩
  rintro _ i w1 ⟨hi, ht, e⟩
  refine bcase_mk (fun h => ?_) (fun h => ⟨true, rfl, ?_, e⟩)
  · have hlt : i < l.length := by have := of_decide_eq_true h; omega
    obtain ⟨p, hp⟩ : ∃ p, l[i]? = some p := ⟨_, List.getElem?_eq_getElem hlt⟩
    obtain ⟨q, hq⟩ : ∃ q, m[i]? = some q := ⟨_, List.getElem?_eq_getElem (by omega)⟩
    have hq2 : (m.map (upP k))[i]? = some (upP k q) := by rw [List.getElem?_map, hq]; rfl
    have hqb := hmb q (List.mem_of_getElem? hq)
    have no : p ≠ upP k q → false = decide (l = m.map (upP k)) := by
      intro hne
      rw [decide_eq_false]
      intro he
      rw [he, hq2] at hp
      exact hne (Option.some.inj hp).symm
    have ra : ∀ {j : Nat} {v : Value} {K : Nat → Nat → Prop}, j < 2 → (encPc p)[j]? = some v → (∀ b o, w1.cell? ⟨b, o + i * 2 + j, none⟩ = some v → K b o) → ptrE a K := fun hj hv hK => (ha.ext e).fld (s := 2) (by rw [enc_at hp hj]; exact hv) hK
    have rb : ∀ {j : Nat} {v : Value} {K : Nat → Nat → Prop}, j < 2 → (encPc q)[j]? = some v → (∀ b o, w1.cell? ⟨b, o + i * 2 + j, none⟩ = some v → K b o) → ptrE b K := fun hj hv hK => (hb.ext e).fld (s := 2) (by rw [enc_at hq hj]; exact hv) hK
    intro w2 hd
    refine ⟨i, rfl, hlt, ra (j := 1) (by decide) rfl fun _ _ hc => ⟨_, hc, i, rfl, by omega, rb (j := 1) (by decide) rfl fun _ _ hc => ⟨_, hc, ?_⟩⟩⟩
    rw [str_eq]
    refine bcase_mk (fun h => ⟨false, rfl, no ?_, e.trans hd.ext⟩) (fun h => ?_)
    · rintro rfl; simp [upP] at h
    have h2 : p.2 = q.2 := by simpa using h
    refine ⟨i, rfl, hlt, ra (j := 0) (by decide) rfl fun _ _ hc => ⟨_, hc, i, rfl, by omega, rb (j := 0) (by decide) rfl fun _ _ hc => ⟨_, hc, inr_i64 (by omega) (by omega), ?_⟩⟩⟩
    refine bcase_mk (fun h => ⟨false, rfl, no ?_, e.trans hd.ext⟩) (fun h => ?_)
    · rintro rfl; simp [upP] at h
    have h1 : p.1 = q.1 + k := by simp only [bne_eq_false_iff_eq] at h; omega
    refine ⟨inr_i64 (by omega) (by omega), i + 1, by simp, ⟨hlt, ?_, e.trans hd.ext⟩, by omega⟩
    rw [List.take_add_one, List.take_add_one, ht, hp, hq2, show p = upP k q from Prod.ext h1 h2]
  · have hie : i = l.length := by have := of_decide_eq_false h; omega
    subst hie
    rw [List.take_length, List.take_of_length_le (by rw [List.length_map]; omega)] at ht
    exact (decide_eq_true ht).symm

theorem aliveW_ok : (sYes U8).Ok Tryd.prog 32 := by
  refine aliveW_vc ⟨atW_ok, isW_ok, nextW_ok, prevW_ok, rowW_ok, trivial⟩ ?_
  rintro _ w hU
  refine ⟨(_, _), rfl, ⟨hU, by decide⟩, ?_⟩
  rintro x2 w2 ⟨hx2, E⟩ b w3 hn
  replace hx2 : x2 = (2, 4) := hx2.trans (by decide +kernel)
  subst hx2
  replace E := E.trans hn.ext
  refine ⟨⟨⟨#[100, 111, 110, 39, 116, 32, 115, 116, 111, 112, 46]⟩, [⟨#[100, 111, 110, 39, 116]⟩, ⟨#[32]⟩, ⟨#[115, 116, 111, 112]⟩, ⟨#[46]⟩], _, _⟩, rfl, ⟨hU.ext E, by dsimp only; decide, CellsAt.new (vs := [.string ⟨#[100, 111, 110, 39, 116]⟩, .string ⟨#[32]⟩, .string ⟨#[115, 116, 111, 112]⟩, .string ⟨#[46]⟩]) hn, by dsimp only; decide⟩, ?_⟩
  rintro x w4 ⟨hx, e⟩
  dsimp only at hx
  replace hx : x = true := hx.trans (by decide +kernel)
  subst hx
  replace E := E.trans e
  refine bcase_mk (fun _ => ?_) (fun h => by cases h)
  refine ⟨(_, _), rfl, ⟨hU.ext E, by decide⟩, ?_⟩
  rintro x w5 ⟨hx, e⟩
  replace hx : x = 2 := hx.trans (by decide +kernel)
  subst hx
  replace E := E.trans e
  refine bcase_mk (fun _ => ?_) (fun h => absurd h (by decide +kernel))
  refine ⟨(_, _), rfl, ⟨hU.ext E, by decide⟩, ?_⟩
  rintro x w6 ⟨hx, e⟩
  replace hx : x = 2 := hx.trans (by decide +kernel)
  subst hx
  replace E := E.trans e
  refine bcase_mk (fun _ => ?_) (fun h => absurd h (by decide +kernel))
  refine ⟨(_, _), rfl, ⟨hU.ext E, by decide⟩, ?_⟩
  rintro x w7 ⟨hx, e⟩
  replace hx : x = true := hx.trans (by decide +kernel)
  subst hx
  replace E := E.trans e
  refine bcase_mk (fun _ => ?_) (fun h => by cases h)
  refine ⟨(_, _), rfl, ⟨hU.ext E, by decide⟩, ?_⟩
  rintro x w8 ⟨hx, e⟩
  replace hx : x = false := hx.trans (by decide +kernel)
  subst hx
  replace E := E.trans e
  exact bcase_mk (fun _ => bcase_mk (fun _ => ⟨(), rfl, E⟩) (fun h => absurd h (by decide +kernel))) (fun h => by cases h)

end Go.Proofs.YthpjkgoahneldaaDoor
end

section
/-
  Specifications, chapter 12: the laws.
-/
namespace Go.Proofs.YthpjkgoahneldaaDoor
open Go Go.RowKit Vc Ut Tb Cl Wd

def sWLawSI : CallSpec where
  G := ByteArray × Int
  args := fun g => #[.string g.1, .int .i64 g.2]
  pre := fun g w => U8 w ∧ g.1.size ≤ 1048576 ∧ -9223372036854775808 ≤ g.2 ∧ g.2 ≤ 9223372036854775807
  X := Unit
  res := fun _ => .bool true
  post := fun _ w _ w' => Ext w w'
structure GWSn where
  s : ByteArray
  l : GSl
def sWLawSL : CallSpec where
  G := GWSn
  args := fun g => #[.string g.s, .slice g.l.ad g.l.xs.length g.l.c]
  pre := fun g w => U8 w ∧ g.s.size ≤ 1048576 ∧ g.l.at .i64 w ∧ g.l.xs.length ≤ 1048576
  X := Unit
  res := fun _ => .bool true
  post := fun _ w _ w' => Ext w w'

def spWAll : List (Nat × CallSpec) := [(30, sRAllW), (31, sAllW), (32, sYes U8)]
def annWAll (g : ByteArray × Int) (_ : World) : Ann where
  sp := spWAll
  cuts := [(6, 8, { X := Unit, sh := fun _ _ => [], inv := fun e w0 _ w => Fr (ones [ptrB (gv e 7)]) w0 w ∧ ∃ v, w.heap[ptrB (gv e 7)]? = some (.cells #[.int .i64 v] 3) })]
  ranges := [(7, {
    α := Nat × ByteArray
    enc := encPc
    exs := [.exit 0]
    J := fun e w0 xs k D W => D = ones [ptrB (gv e 7)] ∧ W.heap[ptrB (gv e 7)]? = some (.cells #[.int .i64 (k : Int)] 3)
    Jx := fun e w0 _ _ D W => D = ones [ptrB (gv e 7)] ∧ ∃ v, W.heap[ptrB (gv e 7)]? = some (.cells #[.int .i64 v] 3) }), (14, {
    α := Nat × ByteArray
    enc := encPc
    J := fun e w0 xs k D W => D = ones [ptrB (gv e 7)] ∧ W.heap[ptrB (gv e 7)]? = some (.cells #[.int .i64 (k : Int)] 3)
    Jx := fun e w0 _ _ D W => (1 : Nat) = 0 })]
  loops := [(10, {
    X := Nat
    sh := fun _ t => [(8, .int .i64 t)]
    inv := fun e w0 t w => t ≤ 2 ∧ Fr (ones [ptrB (gv e 7)]) w0 w ∧ ∃ v, w.heap[ptrB (gv e 7)]? = some (.cells #[.int .i64 v] 3)
    mu := fun _ _ t _ => 2 - t })]

def spWAt : List (Nat × CallSpec) := [(33, sAtW), (34, sAtW), (35, sIsW), (36, sIsW), (37, sSIN nextW), (38, sSIN nextW), (39, sSIN prevW), (40, sSIN prevW), (32, sYes U8)]
structure GWLa where
  j : Nat
  a : Option Addr
  c : Nat
  xs : List Int
def annWAt (g : GWSn) (w00 : World) : Ann where
  sp := spWAt
  cuts := [(3, 5, { X := GWLa, sh := fun _ x => [(5, .slice x.a x.xs.length x.c)], inv := fun _ w0 x w => x.xs.length ≤ 2000000 ∧ Made w00 w 3 1 x.a x.xs.length (x.xs.map (Value.int .i64)) x.c })]
  loops := [(4, {
    X := GWLa
    sh := fun _ x => [(6, .int .i64 ((x.j : Int) - 1)), (5, .slice x.a x.xs.length x.c)]
    inv := fun _ w0 x w => x.j ≤ g.s.size + 3 ∧ (0 < x.j → g.s.size < 100) ∧ x.xs.length = g.l.xs.length + x.j ∧ Made w00 w 3 1 x.a x.xs.length (x.xs.map (Value.int .i64)) x.c
    mu := fun _ _ x _ => g.s.size + 3 - x.j }), (8, {
    X := Nat
    sh := fun _ i => [(7, .int .i64 i)]
    inv := fun e w0 i w => i ≤ lenV (gv e 5) ∧ Ext w0 w
    mu := fun e _ i _ => lenV (gv e 5) - i })]

def spWCut : List (Nat × CallSpec) := [(41, sPcsW), (28, sIsB), (35, sIsW), (32, sYes U8), (44, sSameW)]
def annWCut (g : ByteArray × Int) (_ : World) : Ann where
  sp := spWCut
  wraps := [11]
  loops := [(4, {
    X := Nat
    sh := fun _ i => [(7, .int .i64 i), (6, .int .i64 (wp g.1 i))]
    inv := fun _ w0 i w => i ≤ wn g.1 ∧ Ext w0 w
    mu := fun _ _ i _ => wn g.1 - i })]
  cuts := [(12, 13, { X := Nat, sh := fun _ n => [(8, .int .i64 n)], inv := fun _ w0 n w => n ≤ wn g.1 ∧ Ext w0 w }),
    (15, 16, { X := Nat, sh := fun _ n => [(9, .int .i64 (wp g.1 n))], inv := fun e w0 n w => gi e 8 = (n : Int) ∧ Ext w0 w })]

/-- A segment that is a word, by its first character. -/
def sWordy : CallSpec where
  G := ByteArray
  args := fun s => #[.string s]
  pre := fun s w => U8 w ∧ s.size ≤ 67108864 ∧ 0 < s.size
  X := Bool
  res := fun x => .bool x
  post := fun s w x w' => x = decide (2 ≤ sortC (pcP s 0).2) ∧ Ext w w'
def spWordy : List (Nat × CallSpec) := [(63, sDec nxR nxN), (75, sRuneX .i8 kindR)]
/-- Where words begin, of the segments up to k. -/
def begs (s : ByteArray) (k : Nat) : List Int := ((List.range k).filter fun i => wdB s i).map fun i => ((wp s i : Nat) : Int)
def begT (s : ByteArray) : List Int := begs s (wn s)
def upAt (s : ByteArray) (i : Nat) : Int := if i = 0 then 0 else (begT s).getD (i - 1) 0
def dnAt (s : ByteArray) (j : Nat) : Int := if j = 0 then s.size else (begT s).getD ((begT s).length - j) 0
structure GWb where
  i : Nat
  a : Option Addr
  c : Nat
def spWStep : List (Nat × CallSpec) := [(32, sYes U8), (41, sPcsW), (42, sWordy), (37, sSIN nextW), (39, sSIN prevW), (33, sAtW)]
def annWStep (g : ByteArray × Int) (_ : World) : Ann where
  sp := spWStep
  loops := [(6, {
    X := GWb
    sh := fun _ x => [(7, .int .i64 x.i), (6, .slice x.a (begs g.1 x.i).length x.c)]
    inv := fun _ w0 x w => x.i ≤ wn g.1 ∧ Made w0 w 3 1 x.a (begs g.1 x.i).length ((begs g.1 x.i).map (Value.int .i64)) x.c
    mu := fun _ _ x _ => wn g.1 - x.i }), (13, {
    X := Nat
    sh := fun _ i => [(10, .int .i64 i), (9, .int .i64 (upAt g.1 i))]
    inv := fun _ w0 i w => i ≤ (begT g.1).length ∧ Ext w0 w
    mu := fun _ _ i _ => (begT g.1).length - i }), (25, {
    X := Nat
    sh := fun _ j => [(12, .int .i64 ((begT g.1).length - 1 - j)), (9, .int .i64 (dnAt g.1 j))]
    inv := fun _ w0 j w => j ≤ (begT g.1).length ∧ Ext w0 w
    mu := fun _ _ j _ => (begT g.1).length - j })]

def cutW (d : Nat) (b : Bool) : CutAnn := { X := Unit, sh := fun _ _ => [(d, .bool b)], inv := fun _ w0 _ w => Ext w0 w }
def spWKn : List (Nat × CallSpec) := [(33, sAtW), (35, sIsW), (37, sSIN nextW), (39, sSIN prevW), (43, sRowW), (32, sYes U8)]
def annWKn (_ : Unit) (_ : World) : Ann where
  sp := spWKn
  cuts := [(1, 1, cutW 1 true), (2, 2, cutW 2 true), (5, 5, cutW 7 true)]

--#vc wordy_vc 42 sWordy (annOf spWordy) spWordy
--#vc wAll_vc 7 sWLawSI annWAll spWAll
--#vc wAt_vc 8 sWLawSL annWAt spWAt
--#vc wCut_vc 11 sWLawSI annWCut spWCut
--#vc wStep_vc 9 sWLawSI annWStep spWStep
--#vc wKn_vc 10 (sYes U8) annWKn spWKn

end Go.Proofs.YthpjkgoahneldaaDoor
end

section
/-
  Verification conditions, printed by a program out of the specifications beside this text: each theorem says that the condition suffices. (Lean's kernel compares the printed condition with what 'wpE' computes.)
-/
set_option linter.unusedVariables false
namespace Go.Proofs.YthpjkgoahneldaaDoor
open Go Go.RowKit Vc Ut Tb Cl Wd

set_option maxRecDepth 1000000 in
theorem wordy_vc (hsp : SpecsOk Tryd.prog spWordy) (h : ∀ (g : ByteArray) (w : World), U8 w ∧ g.size ≤ (67108864 : Nat) ∧ (0 : Nat) < g.size → ∃ (g1 : ByteArray), #[Value.string g] = #[Value.string g1] ∧ (U8 w ∧ g1.size ≤ (67108864 : Nat)) ∧ ∀ (x : Int × Nat) (w' : World), x.fst = nxR g1 ∧ x.snd = nxN g1 ∧ Ext w w' → ∃ (g2 : Int), #[Value.int IntKind.i32 x.fst] = #[Value.int IntKind.i32 g2] ∧ True ∧ ∀ (x1 : Int) (w'1 : World), x1 = kindR g2 ∧ Ext w' w'1 → ∃ (x2 : Bool), Value.bool (bif x.fst != (65533 : Int) then x1 == (3 : Int) || (x1 == (4 : Int) || (x1 == (2 : Int) || x.fst == (95 : Int))) else decide ((↑x.snd : Int) > (1 : Int)) && (x1 == (3 : Int) || (x1 == (4 : Int) || (x1 == (2 : Int) || x.fst == (95 : Int))))) = Value.bool x2 ∧ x2 = decide ((2 : Nat) ≤ sortC (g.extract (bp g (0 : Nat)) (bp g ((0 : Nat) + (1 : Nat))))) ∧ Ext w w'1) :
    (sWordy).Ok Tryd.prog 42 :=
  ok_of_vc sWordy (annOf spWordy) spWordy (fun _ _ => rfl) (fun _ _ => rfl) hsp Tryd.func42 rfl (n := 1) (fun _ => rfl) (by kernel_rfl) (vcast (by kernel_rfl) h)

set_option maxRecDepth 1000000 in
theorem wAll_vc (hsp : SpecsOk Tryd.prog spWAll) (h : ∀ (g : ByteArray × Int) (w : World), U8 w ∧ g.fst.size ≤ (1048576 : Nat) ∧ (-9223372036854775808 : Int) ≤ g.snd ∧ g.snd ≤ (9223372036854775807 : Int) → ∀ (b : Nat) (w1 : World), New w (Obj.cells #[Value.int IntKind.i64 g.snd] (3 : Nat)) b w1 → ∀ (b1 : Nat) (w11 : World), New w1 (Obj.cells #[Value.bool false] (4 : Nat)) b1 w11 → ∃ (g1 : ByteArray), #[Value.string g.fst] = #[Value.string g1] ∧ (U8 w11 ∧ g1.size ≤ (67108864 : Nat)) ∧ ∀ (x : Option Addr × Nat × Nat) (w' : World), x.snd.fst = wn g1 ∧ Made w11 w' (44 : TypeId) (2 : Nat) x.fst x.snd.fst (List.flatMap encPc (wdL g1)) x.snd.snd → ∀ (b2 : Nat) (w12 : World), New w' (Obj.cells #[Value.slice none (0 : Nat) (0 : Nat)] (42 : Nat)) b2 w12 → true = true ∧ (∃ (old : Value), w12.cell? { block := b2, off := (0 : Nat) } = some old) ∧ w12.frozen? { block := b2, off := (0 : Nat) } = false ∧ ∀ (w13 : World), Stored w12 { block := b2, off := (0 : Nat) } (Value.slice x.fst x.snd.fst x.snd.snd) w13 → ∃ (g2 : ByteArray), #[Value.string g.fst] = #[Value.string g2] ∧ (U8 w13 ∧ g2.size ≤ (67108864 : Nat)) ∧ ∀ (x1 : GWd) (w'1 : World), x1.s = g2 ∧ hWd x1 w'1 ∧ (∀ (q : Nat), cWd x1 q → w13.heap.size ≤ q) ∧ Ext w13 w'1 → ∀ (b3 : Nat) (w14 : World), New w'1 (Obj.cells #[Value.int IntKind.i64 (0 : Int)] (3 : Nat)) b3 w14 → true = true ∧ (∃ (old : Value), w14.cell? { block := b3, off := (0 : Nat) } = some old) ∧ w14.frozen? { block := b3, off := (0 : Nat) } = false ∧ ∀ (w15 : World), Stored w14 { block := b3, off := (0 : Nat) } (Value.int IntKind.i64 (0 : Int)) w15 → (∃ (xs : List (Nat × ByteArray)), ∃ (C : Nat → Prop), ∃ (D0 : Nat → Prop), IterAt Tryd.prog (Value.func (Fn.func (69 : FuncId)) #[] #[Value.pointer (some { block := x1.be, off := (0 : Nat) }), Value.pointer (some { block := x1.bs, off := (0 : Nat) })]) (List.map encPc xs) C w15 ∧ DomOk w15 C D0 ∧ (D0 = ones [ptrB (Value.pointer (some { block := b3, off := (0 : Nat) }))] ∧ w15.heap[ptrB (Value.pointer (some { block := b3, off := (0 : Nat) }))]? = some (Obj.cells #[Value.int IntKind.i64 (0 : Int)] (3 : TypeId))) ∧ (Stab w15.heap.size fun (k : Nat) (D : Nat → Prop) (W : World) => D = ones [ptrB (Value.pointer (some { block := b3, off := (0 : Nat) }))] ∧ W.heap[ptrB (Value.pointer (some { block := b3, off := (0 : Nat) }))]? = some (Obj.cells #[Value.int IntKind.i64 (↑k : Int)] (3 : TypeId))) ∧ (∀ (x2 : Exit), Stab w15.heap.size fun (x : Nat) (D : Nat → Prop) (W : World) => D = ones [ptrB (Value.pointer (some { block := b3, off := (0 : Nat) }))] ∧ ∃ (v : Int), W.heap[ptrB (Value.pointer (some { block := b3, off := (0 : Nat) }))]? = some (Obj.cells #[Value.int IntKind.i64 v] (3 : TypeId))) ∧ (∀ (k : Nat) (x2 : Nat × ByteArray) (D : Nat → Prop) (W : World), xs[k]? = some x2 → D = ones [ptrB (Value.pointer (some { block := b3, off := (0 : Nat) }))] ∧ W.heap[ptrB (Value.pointer (some { block := b3, off := (0 : Nat) }))]? = some (Obj.cells #[Value.int IntKind.i64 (↑k : Int)] (3 : TypeId)) → Mid w15 D0 D W →
 ∃ (n : Int), W.cell? { block := b3, off := (0 : Nat) } = some (Value.int IntKind.i64 n) ∧ ∃ (n1 : Int), W.cell? { block := b, off := (0 : Nat) } = some (Value.int IntKind.i64 n1) ∧ bcase (n == n1) (∃ (D' : Nat → Prop), Step D W W D' ∧ D' = ones [ptrB (Value.pointer (some { block := b3, off := (0 : Nat) }))] ∧ ∃ (v : Int), W.heap[ptrB (Value.pointer (some { block := b3, off := (0 : Nat) }))]? = some (Obj.cells #[Value.int IntKind.i64 v] (3 : TypeId))) (∃ (n2 : Int), W.cell? { block := b3, off := (0 : Nat) } = some (Value.int IntKind.i64 n2) ∧ InR IntKind.i64 (n2 + (1 : Int)) ∧ true = true ∧ (∃ (old : Value), W.cell? { block := b3, off := (0 : Nat) } = some old) ∧ W.frozen? { block := b3, off := (0 : Nat) } = false ∧ ∀ (w16 : World), Stored W { block := b3, off := (0 : Nat) } (Value.int IntKind.i64 (n2 + (1 : Int))) w16 → ∃ (D' : Nat → Prop), Step D W w16 D' ∧ D' = ones [ptrB (Value.pointer (some { block := b3, off := (0 : Nat) }))] ∧ w16.heap[ptrB (Value.pointer (some { block := b3, off := (0 : Nat) }))]? = some (Obj.cells #[Value.int IntKind.i64 (↑(k + (1 : Nat)) : Int)] (3 : TypeId)))) ∧ (∀ (D : Nat → Prop) (W : World), D = ones [ptrB (Value.pointer (some { block := b3, off := (0 : Nat) }))] ∧ W.heap[ptrB (Value.pointer (some { block := b3, off := (0 : Nat) }))]? = some (Obj.cells #[Value.int IntKind.i64 (↑(lenX xs) : Int)] (3 : TypeId)) → Mid w15 D0 D W → ∃ (c : Unit), Fr (ones [ptrB (Value.pointer (some { block := b3, off := (0 : Nat) }))]) w15 W ∧ ∃ (v : Int), W.heap[ptrB (Value.pointer (some { block := b3, off := (0 : Nat) }))]? = some (Obj.cells #[Value.int IntKind.i64 v] (3 : TypeId))) ∧ ∀ (D : Nat → Prop) (W : World), (D = ones [ptrB (Value.pointer (some { block := b3, off := (0 : Nat) }))] ∧ ∃ (v : Int), W.heap[ptrB (Value.pointer (some { block := b3, off := (0 : Nat) }))]? = some (Obj.cells #[Value.int IntKind.i64 v] (3 : TypeId))) → Mid w15 D0 D W → ∃ (c : Unit), Fr (ones [ptrB (Value.pointer (some { block := b3, off := (0 : Nat) }))]) w15 W ∧ ∃ (v : Int), W.heap[ptrB (Value.pointer (some { block := b3, off := (0 : Nat) }))]? = some (Obj.cells #[Value.int IntKind.i64 v] (3 : TypeId))) ∧ ∀ (u : Nat → Value) (c : Unit) (w'2 : World), (Fr (ones [ptrB (Value.pointer (some { block := b3, off := (0 : Nat) }))]) w15 w'2 ∧ ∃ (v : Int), w'2.heap[ptrB (Value.pointer (some { block := b3, off := (0 : Nat) }))]? = some (Obj.cells #[Value.int IntKind.i64 v] (3 : TypeId))) → (∃ (x2 : Nat), Value.int IntKind.i64 (0 : Int) = Value.int IntKind.i64 (↑x2 : Int) ∧ x2 ≤ (2 : Nat) ∧ Fr (ones [ptrB (Value.pointer (some { block := b3, off := (0 : Nat) }))]) w'2 w'2 ∧ ∃ (v : Int), w'2.heap[ptrB (Value.pointer (some { block := b3, off := (0 : Nat) }))]? = some (Obj.cells #[Value.int IntKind.i64 v] (3 : TypeId))) ∧ ∀ (u1 : Nat → Value) (x2 : Nat) (w'3 : World), (x2 ≤ (2 : Nat) ∧ Fr (ones [ptrB (Value.pointer (some { block := b3, off := (0 : Nat) }))]) w'2 w'3 ∧ ∃ (v : Int), w'3.heap[ptrB (Value.pointer (some { block := b3, off := (0 : Nat) }))]? =
 some (Obj.cells #[Value.int IntKind.i64 v] (3 : TypeId))) → bcase (decide ((↑x2 : Int) < (2 : Int))) (true = true ∧ (∃ (old : Value), w'3.cell? { block := b3, off := (0 : Nat) } = some old) ∧ w'3.frozen? { block := b3, off := (0 : Nat) } = false ∧ ∀ (w16 : World), Stored w'3 { block := b3, off := (0 : Nat) } (Value.int IntKind.i64 (0 : Int)) w16 → ∃ (xs : List (Nat × ByteArray)), ∃ (C : Nat → Prop), ∃ (D0 : Nat → Prop), IterAt Tryd.prog (Value.func (Fn.func (69 : FuncId)) #[] #[Value.pointer (some { block := x1.be, off := (0 : Nat) }), Value.pointer (some { block := x1.bs, off := (0 : Nat) })]) (List.map encPc xs) C w16 ∧ DomOk w16 C D0 ∧ (D0 = ones [ptrB (Value.pointer (some { block := b3, off := (0 : Nat) }))] ∧ w16.heap[ptrB (Value.pointer (some { block := b3, off := (0 : Nat) }))]? = some (Obj.cells #[Value.int IntKind.i64 (0 : Int)] (3 : TypeId))) ∧ (Stab w16.heap.size fun (k : Nat) (D : Nat → Prop) (W : World) => D = ones [ptrB (Value.pointer (some { block := b3, off := (0 : Nat) }))] ∧ W.heap[ptrB (Value.pointer (some { block := b3, off := (0 : Nat) }))]? = some (Obj.cells #[Value.int IntKind.i64 (↑k : Int)] (3 : TypeId))) ∧ (∀ (x3 : Exit), Stab w16.heap.size fun (x : Nat) (D : Nat → Prop) (W : World) => (1 : Nat) = (0 : Nat)) ∧ (∀ (k : Nat) (x3 : Nat × ByteArray) (D : Nat → Prop) (W : World), xs[k]? = some x3 → D = ones [ptrB (Value.pointer (some { block := b3, off := (0 : Nat) }))] ∧ W.heap[ptrB (Value.pointer (some { block := b3, off := (0 : Nat) }))]? = some (Obj.cells #[Value.int IntKind.i64 (↑k : Int)] (3 : TypeId)) → Mid w16 D0 D W → ∃ (n : Int), W.cell? { block := b3, off := (0 : Nat) } = some (Value.int IntKind.i64 n) ∧ ∃ (a15 : Option Addr), ∃ (n1 : Nat), ∃ (c1 : Nat), W.cell? { block := b2, off := (0 : Nat) } = some (Value.slice a15 n1 c1) ∧ bcase (decide (n ≥ (↑n1 : Int))) (true = true ∧ (∃ (old : Value), W.cell? { block := b1, off := (0 : Nat) } = some old) ∧ W.frozen? { block := b1, off := (0 : Nat) } = false ∧ ∀ (w17 : World), Stored W { block := b1, off := (0 : Nat) } (Value.bool false) w17 → False) (∃ (a16 : Option Addr), ∃ (n2 : Nat), ∃ (c2 : Nat), W.cell? { block := b2, off := (0 : Nat) } = some (Value.slice a16 n2 c2) ∧ ∃ (n3 : Int), W.cell? { block := b3, off := (0 : Nat) } = some (Value.int IntKind.i64 n3) ∧ ∃ (k1 : Nat), n3 = (↑k1 : Int) ∧ k1 < n2 ∧ ptrE a16 fun (b4 o : Nat) => ∃ (n4 : Int), W.cell? { block := b4, off := o + k1 * (2 : Nat) } = some (Value.int IntKind.i64 n4) ∧ bcase ((↑x3.fst : Int) != n4) (true = true ∧ (∃ (old : Value), W.cell? { block := b1, off := (0 : Nat) } = some old) ∧ W.frozen? { block := b1, off := (0 : Nat) } = false ∧ ∀ (w17 : World), Stored W { block := b1, off := (0 : Nat) } (Value.bool false) w17 → False) (∃ (a17 : Option Addr), ∃ (n5 : Nat), ∃ (c3 : Nat), W.cell? { block := b2, off := (0 : Nat) } = some (Value.slice a17 n5 c3) ∧ ∃ (n6 : Int), W.cell? { block := b3, off := (0 : Nat) } = some (Value.int IntKind.i64 n6) ∧ ∃ (k2 : Nat), n6 = (↑k2 : Int) ∧ k2 < n5 ∧
 ptrE a17 fun (b5 o1 : Nat) => ∃ (s : ByteArray), W.cell? { block := b5, off := o1 + k2 * (2 : Nat) + (1 : Nat) } = some (Value.string s) ∧ bcase (!x3.snd.toList == s.toList) (true = true ∧ (∃ (old : Value), W.cell? { block := b1, off := (0 : Nat) } = some old) ∧ W.frozen? { block := b1, off := (0 : Nat) } = false ∧ ∀ (w17 : World), Stored W { block := b1, off := (0 : Nat) } (Value.bool false) w17 → False) (∃ (n7 : Int), W.cell? { block := b3, off := (0 : Nat) } = some (Value.int IntKind.i64 n7) ∧ InR IntKind.i64 (n7 + (1 : Int)) ∧ true = true ∧ (∃ (old : Value), W.cell? { block := b3, off := (0 : Nat) } = some old) ∧ W.frozen? { block := b3, off := (0 : Nat) } = false ∧ ∀ (w17 : World), Stored W { block := b3, off := (0 : Nat) } (Value.int IntKind.i64 (n7 + (1 : Int))) w17 → ∃ (D' : Nat → Prop), Step D W w17 D' ∧ D' = ones [ptrB (Value.pointer (some { block := b3, off := (0 : Nat) }))] ∧ w17.heap[ptrB (Value.pointer (some { block := b3, off := (0 : Nat) }))]? = some (Obj.cells #[Value.int IntKind.i64 (↑(k + (1 : Nat)) : Int)] (3 : TypeId)))))) ∧ (∀ (D : Nat → Prop) (W : World), D = ones [ptrB (Value.pointer (some { block := b3, off := (0 : Nat) }))] ∧ W.heap[ptrB (Value.pointer (some { block := b3, off := (0 : Nat) }))]? = some (Obj.cells #[Value.int IntKind.i64 (↑(lenX xs) : Int)] (3 : TypeId)) → Mid w16 D0 D W → ∃ (n : Int), W.cell? { block := b3, off := (0 : Nat) } = some (Value.int IntKind.i64 n) ∧ ∃ (a14 : Option Addr), ∃ (n1 : Nat), ∃ (c1 : Nat), W.cell? { block := b2, off := (0 : Nat) } = some (Value.slice a14 n1 c1) ∧ bcase (n != (↑n1 : Int)) (true = true ∧ (∃ (old : Value), W.cell? { block := b1, off := (0 : Nat) } = some old) ∧ W.frozen? { block := b1, off := (0 : Nat) } = false ∧ ∀ (w17 : World), Stored W { block := b1, off := (0 : Nat) } (Value.bool false) w17 → ∃ (b4 : Bool), w17.cell? { block := b1, off := (0 : Nat) } = some (Value.bool b4) ∧ ∀ (w2 : World), Turn w.heap.size w17 w2 → ∃ (x3 : Unit), Value.bool b4 = Value.bool true ∧ Ext w w2) (InR IntKind.i64 ((↑x2 : Int) + (1 : Int)) ∧ ∃ (y : Nat), Value.int IntKind.i64 ((↑x2 : Int) + (1 : Int)) = Value.int IntKind.i64 (↑y : Int) ∧ (y ≤ (2 : Nat) ∧ Fr (ones [ptrB (Value.pointer (some { block := b3, off := (0 : Nat) }))]) w'2 W ∧ ∃ (v : Int), W.heap[ptrB (Value.pointer (some { block := b3, off := (0 : Nat) }))]? = some (Obj.cells #[Value.int IntKind.i64 v] (3 : TypeId))) ∧ (2 : Nat) - y < (2 : Nat) - x2)) ∧ True) (∃ (g3 : Unit), (#[] : Array Value) = #[] ∧ U8 w'3 ∧ ∀ (x3 : Unit) (w'4 : World), Ext w'3 w'4 → true = true ∧ (∃ (old : Value), w'4.cell? { block := b1, off := (0 : Nat) } = some old) ∧ w'4.frozen? { block := b1, off := (0 : Nat) } = false ∧ ∀ (w16 : World), Stored w'4 { block := b1, off := (0 : Nat) } (Value.bool true) w16 → ∃ (b4 : Bool), w16.cell? { block := b1, off := (0 : Nat) } = some (Value.bool b4) ∧ ∀ (w2 : World), Turn w.heap.size w16 w2 → ∃ (x4 : Unit), Value.bool b4 = Value.bool true ∧ Ext w w2)) :
    (sWLawSI).Ok Tryd.prog 7 :=
  ok_of_vc sWLawSI annWAll spWAll (fun _ _ => rfl) (fun _ _ => rfl) hsp Tryd.func7 rfl (n := 2) (fun _ => rfl) (by kernel_rfl) (vcast (by kernel_rfl) h)

set_option maxRecDepth 1000000 in
theorem wAt_vc (hsp : SpecsOk Tryd.prog spWAt) (h : ∀ (g : GWSn) (w : World), U8 w ∧ g.s.size ≤ (1048576 : Nat) ∧ GSl.at IntKind.i64 g.l w ∧ g.l.xs.length ≤ (1048576 : Nat) → ∃ (a' : Option Addr), ∃ (c' : Nat), ∃ (w' : World), AppRun Tryd.prog #[(45 : Nat), (45 : Nat)] (45 : Nat) (Value.slice none (0 : Nat) (0 : Nat)) (Value.slice g.l.ad g.l.xs.length g.l.c) w a' ((0 : Nat) + g.l.xs.length) c' w' ∧ KO w w' ∧ ((∃ (x : GWLa), Value.int IntKind.i64 (-1 : Int) = Value.int IntKind.i64 ((↑x.j : Int) - (1 : Int)) ∧ Value.slice a' ((0 : Nat) + g.l.xs.length) c' = Value.slice x.a x.xs.length x.c ∧ x.j ≤ g.s.size + (3 : Nat) ∧ ((0 : Nat) < x.j → g.s.size < (100 : Nat)) ∧ x.xs.length = g.l.xs.length + x.j ∧ Made w w' (3 : TypeId) (1 : Nat) x.a x.xs.length (List.map (Value.int IntKind.i64) x.xs) x.c) ∧ ∀ (u : Nat → Value) (x : GWLa) (w'1 : World), x.j ≤ g.s.size + (3 : Nat) ∧ ((0 : Nat) < x.j → g.s.size < (100 : Nat)) ∧ x.xs.length = g.l.xs.length + x.j ∧ Made w w'1 (3 : TypeId) (1 : Nat) x.a x.xs.length (List.map (Value.int IntKind.i64) x.xs) x.c → InR IntKind.i64 ((↑g.s.size : Int) + (1 : Int)) ∧ bcase (decide ((↑x.j : Int) - (1 : Int) ≤ (↑g.s.size : Int) + (1 : Int))) (bcase (decide ((↑g.s.size : Int) < (100 : Int))) (∀ (b : Nat) (w1 : World), New w'1 (Obj.cells #[Value.int IntKind.i64 ((↑x.j : Int) - (1 : Int))] (3 : Nat)) b w1 → ∃ (a'1 : Option Addr), ∃ (c'1 : Nat), ∃ (w'2 : World), AppRun Tryd.prog #[(45 : Nat), (45 : Nat)] (45 : Nat) (Value.slice x.a x.xs.length x.c) (Value.slice (some { block := b, off := (0 : Nat) }) (1 : Nat) (1 : Nat)) w1 a'1 (x.xs.length + (1 : Nat)) c'1 w'2 ∧ KO w1 w'2 ∧ InR IntKind.i64 ((↑x.j : Int) - (1 : Int) + (1 : Int)) ∧ ∃ (y : GWLa), Value.int IntKind.i64 ((↑x.j : Int) - (1 : Int) + (1 : Int)) = Value.int IntKind.i64 ((↑y.j : Int) - (1 : Int)) ∧ Value.slice a'1 (x.xs.length + (1 : Nat)) c'1 = Value.slice y.a y.xs.length y.c ∧ (y.j ≤ g.s.size + (3 : Nat) ∧ ((0 : Nat) < y.j → g.s.size < (100 : Nat)) ∧ y.xs.length = g.l.xs.length + y.j ∧ Made w w'2 (3 : TypeId) (1 : Nat) y.a y.xs.length (List.map (Value.int IntKind.i64) y.xs) y.c) ∧ g.s.size + (3 : Nat) - y.j < g.s.size + (3 : Nat) - x.j) (∃ (c : GWLa), Value.slice x.a x.xs.length x.c = Value.slice c.a c.xs.length c.c ∧ c.xs.length ≤ (2000000 : Nat) ∧ Made w w'1 (3 : TypeId) (1 : Nat) c.a c.xs.length (List.map (Value.int IntKind.i64) c.xs) c.c)) (∃ (c : GWLa), Value.slice x.a x.xs.length x.c = Value.slice c.a c.xs.length c.c ∧ c.xs.length ≤ (2000000 : Nat) ∧ Made w w'1 (3 : TypeId) (1 : Nat) c.a c.xs.length (List.map (Value.int IntKind.i64) c.xs) c.c)) ∧ ∀ (u : Nat → Value) (c : GWLa) (w'1 : World), c.xs.length ≤ (2000000 : Nat) ∧ Made w w'1 (3 : TypeId) (1 : Nat) c.a c.xs.length (List.map (Value.int IntKind.i64) c.xs) c.c → (∃ (x : Nat), Value.int IntKind.i64 (0 : Int) = Value.int IntKind.i64 (↑x : Int) ∧ x ≤ c.xs.length ∧ Ext w'1 w'1) ∧ ∀ (u1 : Nat → Value) (x : Nat) (w'2 : World), x ≤ c.xs.length ∧ Ext w'1 w'2 → bcase (decide ((↑x : Int) < (↑c.xs.length : Int)) &&
 (decide ((↑x : Int) < (200 : Int)) && (decide ((↑x : Int) < (5 : Int)) || decide ((↑g.s.size : Int) < (4000 : Int))))) (∃ (k : Nat), (↑x : Int) = (↑k : Int) ∧ k < c.xs.length ∧ ptrE c.a fun (b o : Nat) => ∃ (n : Int), w'2.cell? { block := b, off := o + k } = some (Value.int IntKind.i64 n) ∧ ∃ (g1 : ByteArray × Int), #[Value.string g.s, Value.int IntKind.i64 n] = #[Value.string g1.fst, Value.int IntKind.i64 g1.snd] ∧ (U8 w'2 ∧ g1.fst.size ≤ (67108864 : Nat)) ∧ ∀ (x1 : Nat × Nat) (w'3 : World), x1 = (wp g1.fst (ixW g1.fst (clampN g1.fst g1.snd)), wp g1.fst (ixW g1.fst (clampN g1.fst g1.snd) + (1 : Nat))) ∧ Ext w'2 w'3 → ∃ (k1 : Nat), (↑x : Int) = (↑k1 : Int) ∧ k1 < c.xs.length ∧ ptrE c.a fun (b1 o1 : Nat) => ∃ (n1 : Int), w'3.cell? { block := b1, off := o1 + k1 } = some (Value.int IntKind.i64 n1) ∧ ∃ (g2 : ByteArray × Int), #[Value.string g.s, Value.int IntKind.i64 n1] = #[Value.string g2.fst, Value.int IntKind.i64 g2.snd] ∧ (U8 w'3 ∧ g2.fst.size ≤ (67108864 : Nat)) ∧ ∀ (x2 : Nat × Nat) (w'4 : World), x2 = (wp g2.fst (ixW g2.fst (clampN g2.fst g2.snd)), wp g2.fst (ixW g2.fst (clampN g2.fst g2.snd) + (1 : Nat))) ∧ Ext w'3 w'4 → ∀ (w1 : World), Drew w'4 w1 → bcase ((↑x1.fst : Int) != (↑x2.fst : Int)) (∃ (x3 : Unit), Value.bool false = Value.bool true ∧ Ext w w1) (bcase ((↑x1.snd : Int) != (↑x2.snd : Int)) (∃ (x3 : Unit), Value.bool false = Value.bool true ∧ Ext w w1) (∃ (k2 : Nat), (↑x : Int) = (↑k2 : Int) ∧ k2 < c.xs.length ∧ ptrE c.a fun (b2 o2 : Nat) => ∃ (n2 : Int), w'4.cell? { block := b2, off := o2 + k2 } = some (Value.int IntKind.i64 n2) ∧ ∃ (k3 : Nat), (↑x : Int) = (↑k3 : Int) ∧ k3 < c.xs.length ∧ ptrE c.a fun (b3 o3 : Nat) => ∃ (n3 : Int), w'4.cell? { block := b3, off := o3 + k3 } = some (Value.int IntKind.i64 n3) ∧ ∃ (g3 : ByteArray × Int), #[Value.string g.s, Value.int IntKind.i64 n2] = #[Value.string g3.fst, Value.int IntKind.i64 g3.snd] ∧ (U8 w1 ∧ g3.fst.size ≤ (67108864 : Nat)) ∧ ∀ (x3 : Bool) (w'5 : World), x3 = isW g3.fst g3.snd ∧ Ext w1 w'5 → Below w1.heap.size w1 w'5 ∧ ∃ (g4 : ByteArray × Int), #[Value.string g.s, Value.int IntKind.i64 n3] = #[Value.string g4.fst, Value.int IntKind.i64 g4.snd] ∧ (U8 w'5 ∧ g4.fst.size ≤ (67108864 : Nat)) ∧ ∀ (x4 : Bool) (w'6 : World), x4 = isW g4.fst g4.snd ∧ Ext w'5 w'6 → bcase (!x3 == x4) (∃ (x5 : Unit), Value.bool false = Value.bool true ∧ Ext w w'6) (∃ (k4 : Nat), (↑x : Int) = (↑k4 : Int) ∧ k4 < c.xs.length ∧ ptrE c.a fun (b4 o4 : Nat) => ∃ (n4 : Int), w'6.cell? { block := b4, off := o4 + k4 } = some (Value.int IntKind.i64 n4) ∧ ∃ (k5 : Nat), (↑x : Int) = (↑k5 : Int) ∧ k5 < c.xs.length ∧ ptrE c.a fun (b5 o5 : Nat) => ∃ (n5 : Int), w'6.cell? { block := b5, off := o5 + k5 } = some (Value.int IntKind.i64 n5) ∧ ∃ (g5 : ByteArray × Int), #[Value.string g.s, Value.int IntKind.i64 n4] = #[Value.string g5.fst, Value.int IntKind.i64 g5.snd] ∧ (U8 w'6 ∧ g5.fst.size ≤ (67108864 : Nat)) ∧ ∀ (x5 : Nat) (w'7 : World), x5 = nextW g5.fst g5.snd ∧ Ext w'6 w'7 → Below w'6.heap.size w'6 w'7 ∧
 ∃ (g6 : ByteArray × Int), #[Value.string g.s, Value.int IntKind.i64 n5] = #[Value.string g6.fst, Value.int IntKind.i64 g6.snd] ∧ (U8 w'7 ∧ g6.fst.size ≤ (67108864 : Nat)) ∧ ∀ (x6 : Nat) (w'8 : World), x6 = nextW g6.fst g6.snd ∧ Ext w'7 w'8 → bcase ((↑x5 : Int) != (↑x6 : Int)) (∃ (x7 : Unit), Value.bool false = Value.bool true ∧ Ext w w'8) (∃ (k6 : Nat), (↑x : Int) = (↑k6 : Int) ∧ k6 < c.xs.length ∧ ptrE c.a fun (b6 o6 : Nat) => ∃ (n6 : Int), w'8.cell? { block := b6, off := o6 + k6 } = some (Value.int IntKind.i64 n6) ∧ ∃ (k7 : Nat), (↑x : Int) = (↑k7 : Int) ∧ k7 < c.xs.length ∧ ptrE c.a fun (b7 o7 : Nat) => ∃ (n7 : Int), w'8.cell? { block := b7, off := o7 + k7 } = some (Value.int IntKind.i64 n7) ∧ ∃ (g7 : ByteArray × Int), #[Value.string g.s, Value.int IntKind.i64 n6] = #[Value.string g7.fst, Value.int IntKind.i64 g7.snd] ∧ (U8 w'8 ∧ g7.fst.size ≤ (67108864 : Nat)) ∧ ∀ (x7 : Nat) (w'9 : World), x7 = prevW g7.fst g7.snd ∧ Ext w'8 w'9 → Below w'8.heap.size w'8 w'9 ∧ ∃ (g8 : ByteArray × Int), #[Value.string g.s, Value.int IntKind.i64 n7] = #[Value.string g8.fst, Value.int IntKind.i64 g8.snd] ∧ (U8 w'9 ∧ g8.fst.size ≤ (67108864 : Nat)) ∧ ∀ (x8 : Nat) (w'10 : World), x8 = prevW g8.fst g8.snd ∧ Ext w'9 w'10 → bcase ((↑x7 : Int) != (↑x8 : Int)) (∃ (x9 : Unit), Value.bool false = Value.bool true ∧ Ext w w'10) (InR IntKind.i64 ((↑x : Int) + (1 : Int)) ∧ ∃ (y : Nat), Value.int IntKind.i64 ((↑x : Int) + (1 : Int)) = Value.int IntKind.i64 (↑y : Int) ∧ (y ≤ c.xs.length ∧ Ext w'1 w'10) ∧ c.xs.length - y < c.xs.length - x)))))) (∃ (g1 : Unit), (#[] : Array Value) = #[] ∧ U8 w'2 ∧ ∀ (x1 : Unit) (w'3 : World), Ext w'2 w'3 → ∃ (x2 : Unit), Value.bool true = Value.bool true ∧ Ext w w'3)) :
    (sWLawSL).Ok Tryd.prog 8 :=
  ok_of_vc sWLawSL annWAt spWAt (fun _ _ => rfl) (fun _ _ => rfl) hsp Tryd.func8 rfl (n := 2) (fun _ => rfl) (by kernel_rfl) (vcast (by kernel_rfl) h)

set_option maxRecDepth 1000000 in
theorem wCut_vc (hsp : SpecsOk Tryd.prog spWCut) (h : ∀ (g : ByteArray × Int) (w : World), U8 w ∧ g.fst.size ≤ (1048576 : Nat) ∧ (-9223372036854775808 : Int) ≤ g.snd ∧ g.snd ≤ (9223372036854775807 : Int) → ∃ (g1 : ByteArray), #[Value.string g.fst] = #[Value.string g1] ∧ (U8 w ∧ g1.size ≤ (67108864 : Nat)) ∧ ∀ (x : Option Addr × Nat × Nat) (w' : World), x.snd.fst = wn g1 ∧ Made w w' (53 : TypeId) (2 : Nat) x.fst x.snd.fst (List.flatMap encPc (wdL g1)) x.snd.snd → (∃ (x1 : Nat), Value.int IntKind.i64 (0 : Int) = Value.int IntKind.i64 (↑x1 : Int) ∧ Value.int IntKind.i64 (0 : Int) = Value.int IntKind.i64 (↑(wp g.fst x1) : Int) ∧ x1 ≤ wn g.fst ∧ Ext w' w') ∧ ∀ (u : Nat → Value) (x1 : Nat) (w'1 : World), x1 ≤ wn g.fst ∧ Ext w' w'1 → bcase (decide ((↑x1 : Int) < (↑x.snd.fst : Int))) (∃ (k : Nat), (↑x1 : Int) = (↑k : Int) ∧ k < x.snd.fst ∧ ptrE x.fst fun (b o : Nat) => ∃ (n : Int), w'1.cell? { block := b, off := o + k * (2 : Nat) } = some (Value.int IntKind.i64 n) ∧ bcase (n != (↑(wp g.fst x1) : Int)) (∃ (x2 : Unit), Value.bool false = Value.bool true ∧ Ext w w'1) (∃ (k1 : Nat), (↑x1 : Int) = (↑k1 : Int) ∧ k1 < x.snd.fst ∧ ptrE x.fst fun (b1 o1 : Nat) => ∃ (s : ByteArray), w'1.cell? { block := b1, off := o1 + k1 * (2 : Nat) + (1 : Nat) } = some (Value.string s) ∧ bcase (s.toList == (ByteArray.mk #[]).toList) (∃ (x2 : Unit), Value.bool false = Value.bool true ∧ Ext w w'1) (bcase (decide ((↑g.fst.size : Int) < (400 : Int))) (∃ (g2 : ByteArray × Int), #[Value.string g.fst, Value.int IntKind.i64 (↑(wp g.fst x1) : Int)] = #[Value.string g2.fst, Value.int IntKind.i64 g2.snd] ∧ (U8 w'1 ∧ g2.fst.size ≤ (67108864 : Nat)) ∧ ∀ (x2 : Bool) (w'2 : World), x2 = isB g2.fst g2.snd ∧ Ext w'1 w'2 → bcase (!x2) (∃ (x3 : Unit), Value.bool false = Value.bool true ∧ Ext w w'2) (∃ (g3 : ByteArray × Int), #[Value.string g.fst, Value.int IntKind.i64 (↑(wp g.fst x1) : Int)] = #[Value.string g3.fst, Value.int IntKind.i64 g3.snd] ∧ (U8 w'2 ∧ g3.fst.size ≤ (67108864 : Nat)) ∧ ∀ (x3 : Bool) (w'3 : World), x3 = isW g3.fst g3.snd ∧ Ext w'2 w'3 → bcase (!x3) (∃ (x4 : Unit), Value.bool false = Value.bool true ∧ Ext w w'3) (∃ (k2 : Nat), (↑x1 : Int) = (↑k2 : Int) ∧ k2 < x.snd.fst ∧ ptrE x.fst fun (b2 o2 : Nat) => ∃ (s1 : ByteArray), w'3.cell? { block := b2, off := o2 + k2 * (2 : Nat) + (1 : Nat) } = some (Value.string s1) ∧ InR IntKind.i64 ((↑(wp g.fst x1) : Int) + (↑s1.size : Int)) ∧ InR IntKind.i64 ((↑x1 : Int) + (1 : Int)) ∧ ∃ (y : Nat), Value.int IntKind.i64 ((↑x1 : Int) + (1 : Int)) = Value.int IntKind.i64 (↑y : Int) ∧ Value.int IntKind.i64 ((↑(wp g.fst x1) : Int) + (↑s1.size : Int)) = Value.int IntKind.i64 (↑(wp g.fst y) : Int) ∧ (y ≤ wn g.fst ∧ Ext w' w'3) ∧ wn g.fst - y < wn g.fst - x1))) (∃ (k2 : Nat), (↑x1 : Int) = (↑k2 : Int) ∧ k2 < x.snd.fst ∧ ptrE x.fst fun (b2 o2 : Nat) => ∃ (s1 : ByteArray), w'1.cell? { block := b2, off := o2 + k2 * (2 : Nat) + (1 : Nat) } = some (Value.string s1) ∧ InR IntKind.i64 ((↑(wp g.fst x1) : Int) + (↑s1.size : Int)) ∧
 InR IntKind.i64 ((↑x1 : Int) + (1 : Int)) ∧ ∃ (y : Nat), Value.int IntKind.i64 ((↑x1 : Int) + (1 : Int)) = Value.int IntKind.i64 (↑y : Int) ∧ Value.int IntKind.i64 ((↑(wp g.fst x1) : Int) + (↑s1.size : Int)) = Value.int IntKind.i64 (↑(wp g.fst y) : Int) ∧ (y ≤ wn g.fst ∧ Ext w' w'1) ∧ wn g.fst - y < wn g.fst - x1)))) (bcase ((↑(wp g.fst x1) : Int) != (↑g.fst.size : Int)) (∃ (x2 : Unit), Value.bool false = Value.bool true ∧ Ext w w'1) (∃ (g2 : Unit), (#[] : Array Value) = #[] ∧ U8 w'1 ∧ ∀ (x2 : Unit) (w'2 : World), Ext w'1 w'2 → IntKind.i64.wrap ((↑x.snd.fst : Int) + (1 : Int)) ≠ (0 : Int) ∧ bcase (decide (g.snd.tmod (IntKind.i64.wrap ((↑x.snd.fst : Int) + (1 : Int))) < (0 : Int))) (InR IntKind.i64 (g.snd.tmod (IntKind.i64.wrap ((↑x.snd.fst : Int) + (1 : Int))) + (↑x.snd.fst : Int)) ∧ InR IntKind.i64 (g.snd.tmod (IntKind.i64.wrap ((↑x.snd.fst : Int) + (1 : Int))) + (↑x.snd.fst : Int) + (1 : Int)) ∧ ∃ (c : Nat), Value.int IntKind.i64 (g.snd.tmod (IntKind.i64.wrap ((↑x.snd.fst : Int) + (1 : Int))) + (↑x.snd.fst : Int) + (1 : Int)) = Value.int IntKind.i64 (↑c : Int) ∧ c ≤ wn g.fst ∧ Ext w'2 w'2) (∃ (c : Nat), Value.int IntKind.i64 (g.snd.tmod (IntKind.i64.wrap ((↑x.snd.fst : Int) + (1 : Int)))) = Value.int IntKind.i64 (↑c : Int) ∧ c ≤ wn g.fst ∧ Ext w'2 w'2) ∧ ∀ (u1 : Nat → Value) (c : Nat) (w'3 : World), c ≤ wn g.fst ∧ Ext w'2 w'3 → bcase (decide ((↑c : Int) < (↑x.snd.fst : Int))) (∃ (k : Nat), (↑c : Int) = (↑k : Int) ∧ k < x.snd.fst ∧ ptrE x.fst fun (b o : Nat) => ∃ (n : Int), w'3.cell? { block := b, off := o + k * (2 : Nat) } = some (Value.int IntKind.i64 n) ∧ ∃ (c1 : Nat), Value.int IntKind.i64 n = Value.int IntKind.i64 (↑(wp g.fst c1) : Int) ∧ (↑c : Int) = (↑c1 : Int) ∧ Ext w'3 w'3) (∃ (c1 : Nat), Value.int IntKind.i64 (↑g.fst.size : Int) = Value.int IntKind.i64 (↑(wp g.fst c1) : Int) ∧ (↑c : Int) = (↑c1 : Int) ∧ Ext w'3 w'3) ∧ ∀ (u2 : Nat → Value) (c1 : Nat) (w'4 : World), (↑c : Int) = (↑c1 : Int) ∧ Ext w'3 w'4 → ∀ (w1 : World), Drew w'4 w1 → ∃ (g3 : ByteArray × Int), #[Value.string g.fst, Value.int IntKind.i64 (↑(wp g.fst c1) : Int)] = #[Value.string g3.fst, Value.int IntKind.i64 g3.snd] ∧ (U8 w1 ∧ g3.fst.size ≤ (67108864 : Nat)) ∧ ∀ (x3 : Bool) (w'5 : World), x3 = isW g3.fst g3.snd ∧ Ext w1 w'5 → bcase x3 (∃ (hn : Nat), (↑c : Int) = (↑hn : Int) ∧ hn ≤ x.snd.snd ∧ ∃ (k : Nat), (↑(wp g.fst c1) : Int) = (↑k : Int) ∧ (0 : Nat) ≤ k ∧ k ≤ g.fst.size ∧ ∃ (g4 : ByteArray), #[Value.string (g.fst.extract (0 : Nat) k)] = #[Value.string g4] ∧ (U8 w'5 ∧ g4.size ≤ (67108864 : Nat)) ∧ ∀ (x4 : Option Addr × Nat × Nat) (w'6 : World), x4.snd.fst = wn g4 ∧ Made w'5 w'6 (53 : TypeId) (2 : Nat) x4.fst x4.snd.fst (List.flatMap encPc (wdL g4)) x4.snd.snd → Below w'5.heap.size w'5 w'6 ∧ ∃ (g5 : GPp12), #[Value.slice x.fst hn x.snd.snd, Value.slice x4.fst x4.snd.fst x4.snd.snd, Value.int IntKind.i64 (0 : Int)] = #[Value.slice g5.a g5.l.length g5.ac, Value.slice g5.b g5.m.length g5.bc, Value.int IntKind.i64 (↑g5.k : Int)] ∧
 (CellsAt w'6 g5.a (List.flatMap encPc g5.l) ∧ CellsAt w'6 g5.b (List.flatMap encPc g5.m) ∧ g5.l.length ≤ (67108864 : Nat) ∧ g5.k ≤ (67108864 : Nat) ∧ ∀ (p : Nat × ByteArray), p ∈ g5.m → p.fst ≤ (67108864 : Nat)) ∧ ∀ (x5 : Bool) (w'7 : World), x5 = decide (g5.l = List.map (upP g5.k) g5.m) ∧ Ext w'6 w'7 → bcase x5 (∃ (ln : Nat), (↑c : Int) = (↑ln : Int) ∧ ln ≤ x.snd.fst ∧ ∀ (ad' : Option Addr), SlAt x.fst ad' x.snd.snd ln (2 : Nat) → ∃ (k1 : Nat), (↑(wp g.fst c1) : Int) = (↑k1 : Int) ∧ k1 ≤ g.fst.size ∧ g.fst.size ≤ g.fst.size ∧ ∃ (g6 : ByteArray), #[Value.string (g.fst.extract k1 g.fst.size)] = #[Value.string g6] ∧ (U8 w'7 ∧ g6.size ≤ (67108864 : Nat)) ∧ ∀ (x6 : Option Addr × Nat × Nat) (w'8 : World), x6.snd.fst = wn g6 ∧ Made w'7 w'8 (53 : TypeId) (2 : Nat) x6.fst x6.snd.fst (List.flatMap encPc (wdL g6)) x6.snd.snd → Below w'7.heap.size w'7 w'8 ∧ ∃ (g7 : GPp12), #[Value.slice ad' (x.snd.fst - ln) (x.snd.snd - ln), Value.slice x6.fst x6.snd.fst x6.snd.snd, Value.int IntKind.i64 (↑(wp g.fst c1) : Int)] = #[Value.slice g7.a g7.l.length g7.ac, Value.slice g7.b g7.m.length g7.bc, Value.int IntKind.i64 (↑g7.k : Int)] ∧ (CellsAt w'8 g7.a (List.flatMap encPc g7.l) ∧ CellsAt w'8 g7.b (List.flatMap encPc g7.m) ∧ g7.l.length ≤ (67108864 : Nat) ∧ g7.k ≤ (67108864 : Nat) ∧ ∀ (p : Nat × ByteArray), p ∈ g7.m → p.fst ≤ (67108864 : Nat)) ∧ ∀ (x7 : Bool) (w'9 : World), x7 = decide (g7.l = List.map (upP g7.k) g7.m) ∧ Ext w'8 w'9 → ∃ (x8 : Unit), Value.bool x7 = Value.bool true ∧ Ext w w'9) (∃ (x6 : Unit), Value.bool false = Value.bool true ∧ Ext w w'7)) (∃ (x4 : Unit), Value.bool false = Value.bool true ∧ Ext w w'5)))) :
    (sWLawSI).Ok Tryd.prog 11 :=
  ok_of_vc sWLawSI annWCut spWCut (fun _ _ => rfl) (fun _ _ => rfl) hsp Tryd.func11 rfl (n := 2) (fun _ => rfl) (by kernel_rfl) (vcast (by kernel_rfl) h)

set_option maxRecDepth 1000000 in
theorem wStep_vc (hsp : SpecsOk Tryd.prog spWStep) (h : ∀ (g : ByteArray × Int) (w : World), U8 w ∧ g.fst.size ≤ (1048576 : Nat) ∧ (-9223372036854775808 : Int) ≤ g.snd ∧ g.snd ≤ (9223372036854775807 : Int) → bcase (decide ((↑g.fst.size : Int) > (2000 : Int))) (∃ (g1 : Unit), (#[] : Array Value) = #[] ∧ U8 w ∧ ∀ (x : Unit) (w' : World), Ext w w' → ∃ (x1 : Unit), Value.bool true = Value.bool true ∧ Ext w w') (∃ (g1 : ByteArray), #[Value.string g.fst] = #[Value.string g1] ∧ (U8 w ∧ g1.size ≤ (67108864 : Nat)) ∧ ∀ (x : Option Addr × Nat × Nat) (w' : World), x.snd.fst = wn g1 ∧ Made w w' (53 : TypeId) (2 : Nat) x.fst x.snd.fst (List.flatMap encPc (wdL g1)) x.snd.snd → (∃ (x1 : GWb), Value.int IntKind.i64 (0 : Int) = Value.int IntKind.i64 (↑x1.i : Int) ∧ Value.slice none (0 : Nat) (0 : Nat) = Value.slice x1.a (begs g.fst x1.i).length x1.c ∧ x1.i ≤ wn g.fst ∧ Made w' w' (3 : TypeId) (1 : Nat) x1.a (begs g.fst x1.i).length (List.map (Value.int IntKind.i64) (begs g.fst x1.i)) x1.c) ∧ ∀ (u : Nat → Value) (x1 : GWb) (w'1 : World), x1.i ≤ wn g.fst ∧ Made w' w'1 (3 : TypeId) (1 : Nat) x1.a (begs g.fst x1.i).length (List.map (Value.int IntKind.i64) (begs g.fst x1.i)) x1.c → bcase (decide ((↑x1.i : Int) < (↑x.snd.fst : Int))) (∃ (k : Nat), (↑x1.i : Int) = (↑k : Int) ∧ k < x.snd.fst ∧ ptrE x.fst fun (b o : Nat) => ∃ (s : ByteArray), w'1.cell? { block := b, off := o + k * (2 : Nat) + (1 : Nat) } = some (Value.string s) ∧ ∃ (g2 : ByteArray), #[Value.string s] = #[Value.string g2] ∧ (U8 w'1 ∧ g2.size ≤ (67108864 : Nat) ∧ (0 : Nat) < g2.size) ∧ ∀ (x2 : Bool) (w'2 : World), x2 = decide ((2 : Nat) ≤ sortC (g2.extract (bp g2 (0 : Nat)) (bp g2 ((0 : Nat) + (1 : Nat))))) ∧ Ext w'1 w'2 → bcase x2 (∃ (k1 : Nat), (↑x1.i : Int) = (↑k1 : Int) ∧ k1 < x.snd.fst ∧ ptrE x.fst fun (b1 o1 : Nat) => ∃ (n : Int), w'2.cell? { block := b1, off := o1 + k1 * (2 : Nat) } = some (Value.int IntKind.i64 n) ∧ ∀ (b2 : Nat) (w1 : World), New w'2 (Obj.cells #[Value.int IntKind.i64 n] (3 : Nat)) b2 w1 → ∃ (a' : Option Addr), ∃ (c' : Nat), ∃ (w'3 : World), AppRun Tryd.prog #[(45 : Nat), (45 : Nat)] (45 : Nat) (Value.slice x1.a (begs g.fst x1.i).length x1.c) (Value.slice (some { block := b2, off := (0 : Nat) }) (1 : Nat) (1 : Nat)) w1 a' ((begs g.fst x1.i).length + (1 : Nat)) c' w'3 ∧ KO w1 w'3 ∧ InR IntKind.i64 ((↑x1.i : Int) + (1 : Int)) ∧ ∃ (y : GWb), Value.int IntKind.i64 ((↑x1.i : Int) + (1 : Int)) = Value.int IntKind.i64 (↑y.i : Int) ∧ Value.slice a' ((begs g.fst x1.i).length + (1 : Nat)) c' = Value.slice y.a (begs g.fst y.i).length y.c ∧ (y.i ≤ wn g.fst ∧ Made w' w'3 (3 : TypeId) (1 : Nat) y.a (begs g.fst y.i).length (List.map (Value.int IntKind.i64) (begs g.fst y.i)) y.c) ∧ wn g.fst - y.i < wn g.fst - x1.i) (InR IntKind.i64 ((↑x1.i : Int) + (1 : Int)) ∧ ∃ (y : GWb), Value.int IntKind.i64 ((↑x1.i : Int) + (1 : Int)) = Value.int IntKind.i64 (↑y.i : Int) ∧ Value.slice x1.a (begs g.fst x1.i).length x1.c = Value.slice y.a (begs g.fst y.i).length y.c ∧ (y.i ≤ wn g.fst ∧
 Made w' w'2 (3 : TypeId) (1 : Nat) y.a (begs g.fst y.i).length (List.map (Value.int IntKind.i64) (begs g.fst y.i)) y.c) ∧ wn g.fst - y.i < wn g.fst - x1.i)) ((∃ (x2 : Nat), Value.int IntKind.i64 (0 : Int) = Value.int IntKind.i64 (↑x2 : Int) ∧ Value.int IntKind.i64 (0 : Int) = Value.int IntKind.i64 (upAt g.fst x2) ∧ x2 ≤ (begT g.fst).length ∧ Ext w'1 w'1) ∧ ∀ (u1 : Nat → Value) (x2 : Nat) (w'2 : World), x2 ≤ (begT g.fst).length ∧ Ext w'1 w'2 → bcase (decide ((↑x2 : Int) < (↑(begs g.fst x1.i).length : Int))) (∃ (k : Nat), (↑x2 : Int) = (↑k : Int) ∧ k < (begs g.fst x1.i).length ∧ ptrE x1.a fun (b o : Nat) => ∃ (n : Int), w'2.cell? { block := b, off := o + k } = some (Value.int IntKind.i64 n) ∧ bcase (decide (n > (0 : Int))) (∃ (g2 : ByteArray × Int), #[Value.string g.fst, Value.int IntKind.i64 (upAt g.fst x2)] = #[Value.string g2.fst, Value.int IntKind.i64 g2.snd] ∧ (U8 w'2 ∧ g2.fst.size ≤ (67108864 : Nat)) ∧ ∀ (x3 : Nat) (w'3 : World), x3 = nextW g2.fst g2.snd ∧ Ext w'2 w'3 → ∃ (k1 : Nat), (↑x2 : Int) = (↑k1 : Int) ∧ k1 < (begs g.fst x1.i).length ∧ ptrE x1.a fun (b1 o1 : Nat) => ∃ (n1 : Int), w'3.cell? { block := b1, off := o1 + k1 } = some (Value.int IntKind.i64 n1) ∧ bcase ((↑x3 : Int) != n1) (∃ (x4 : Unit), Value.bool false = Value.bool true ∧ Ext w w'3) (InR IntKind.i64 ((↑x2 : Int) + (1 : Int)) ∧ ∃ (y : Nat), Value.int IntKind.i64 ((↑x2 : Int) + (1 : Int)) = Value.int IntKind.i64 (↑y : Int) ∧ Value.int IntKind.i64 (↑x3 : Int) = Value.int IntKind.i64 (upAt g.fst y) ∧ (y ≤ (begT g.fst).length ∧ Ext w'1 w'3) ∧ (begT g.fst).length - y < (begT g.fst).length - x2)) (bcase (decide ((↑x2 : Int) > (0 : Int))) (∃ (g2 : ByteArray × Int), #[Value.string g.fst, Value.int IntKind.i64 (upAt g.fst x2)] = #[Value.string g2.fst, Value.int IntKind.i64 g2.snd] ∧ (U8 w'2 ∧ g2.fst.size ≤ (67108864 : Nat)) ∧ ∀ (x3 : Nat) (w'3 : World), x3 = nextW g2.fst g2.snd ∧ Ext w'2 w'3 → ∃ (k1 : Nat), (↑x2 : Int) = (↑k1 : Int) ∧ k1 < (begs g.fst x1.i).length ∧ ptrE x1.a fun (b1 o1 : Nat) => ∃ (n1 : Int), w'3.cell? { block := b1, off := o1 + k1 } = some (Value.int IntKind.i64 n1) ∧ bcase ((↑x3 : Int) != n1) (∃ (x4 : Unit), Value.bool false = Value.bool true ∧ Ext w w'3) (InR IntKind.i64 ((↑x2 : Int) + (1 : Int)) ∧ ∃ (y : Nat), Value.int IntKind.i64 ((↑x2 : Int) + (1 : Int)) = Value.int IntKind.i64 (↑y : Int) ∧ Value.int IntKind.i64 (↑x3 : Int) = Value.int IntKind.i64 (upAt g.fst y) ∧ (y ≤ (begT g.fst).length ∧ Ext w'1 w'3) ∧ (begT g.fst).length - y < (begT g.fst).length - x2)) (InR IntKind.i64 ((↑x2 : Int) + (1 : Int)) ∧ ∃ (y : Nat), Value.int IntKind.i64 ((↑x2 : Int) + (1 : Int)) = Value.int IntKind.i64 (↑y : Int) ∧ Value.int IntKind.i64 (upAt g.fst x2) = Value.int IntKind.i64 (upAt g.fst y) ∧ (y ≤ (begT g.fst).length ∧ Ext w'1 w'2) ∧ (begT g.fst).length - y < (begT g.fst).length - x2))) (∃ (g2 : ByteArray × Int), #[Value.string g.fst, Value.int IntKind.i64 (upAt g.fst x2)] = #[Value.string g2.fst, Value.int IntKind.i64 g2.snd] ∧ (U8 w'2 ∧ g2.fst.size ≤ (67108864 : Nat)) ∧
 ∀ (x3 : Nat) (w'3 : World), x3 = nextW g2.fst g2.snd ∧ Ext w'2 w'3 → bcase ((↑x3 : Int) != (↑g.fst.size : Int)) (∃ (x4 : Unit), Value.bool false = Value.bool true ∧ Ext w w'3) (InR IntKind.i64 ((↑(begs g.fst x1.i).length : Int) - (1 : Int)) ∧ (∃ (x4 : Nat), Value.int IntKind.i64 ((↑(begs g.fst x1.i).length : Int) - (1 : Int)) = Value.int IntKind.i64 ((↑(begT g.fst).length : Int) - (1 : Int) - (↑x4 : Int)) ∧ Value.int IntKind.i64 (↑g.fst.size : Int) = Value.int IntKind.i64 (dnAt g.fst x4) ∧ x4 ≤ (begT g.fst).length ∧ Ext w'3 w'3) ∧ ∀ (u2 : Nat → Value) (x4 : Nat) (w'4 : World), x4 ≤ (begT g.fst).length ∧ Ext w'3 w'4 → bcase (decide ((↑(begT g.fst).length : Int) - (1 : Int) - (↑x4 : Int) ≥ (0 : Int))) (∀ (w1 : World), Drew w'4 w1 → ∃ (k : Nat), (↑(begT g.fst).length : Int) - (1 : Int) - (↑x4 : Int) = (↑k : Int) ∧ k < (begs g.fst x1.i).length ∧ ptrE x1.a fun (b o : Nat) => ∃ (n : Int), w'4.cell? { block := b, off := o + k } = some (Value.int IntKind.i64 n) ∧ ∃ (g3 : ByteArray × Int), #[Value.string g.fst, Value.int IntKind.i64 (dnAt g.fst x4)] = #[Value.string g3.fst, Value.int IntKind.i64 g3.snd] ∧ (U8 w1 ∧ g3.fst.size ≤ (67108864 : Nat)) ∧ ∀ (x5 : Nat) (w'5 : World), x5 = prevW g3.fst g3.snd ∧ Ext w1 w'5 → Below w1.heap.size w1 w'5 ∧ bcase ((↑x5 : Int) != n) (∃ (x6 : Unit), Value.bool false = Value.bool true ∧ Ext w w'5) (∃ (k1 : Nat), (↑(begT g.fst).length : Int) - (1 : Int) - (↑x4 : Int) = (↑k1 : Int) ∧ k1 < (begs g.fst x1.i).length ∧ ptrE x1.a fun (b1 o1 : Nat) => ∃ (n1 : Int), w'5.cell? { block := b1, off := o1 + k1 } = some (Value.int IntKind.i64 n1) ∧ InR IntKind.i64 ((↑(begT g.fst).length : Int) - (1 : Int) - (↑x4 : Int) - (1 : Int)) ∧ ∃ (y : Nat), Value.int IntKind.i64 ((↑(begT g.fst).length : Int) - (1 : Int) - (↑x4 : Int) - (1 : Int)) = Value.int IntKind.i64 ((↑(begT g.fst).length : Int) - (1 : Int) - (↑y : Int)) ∧ Value.int IntKind.i64 n1 = Value.int IntKind.i64 (dnAt g.fst y) ∧ (y ≤ (begT g.fst).length ∧ Ext w'3 w'5) ∧ (begT g.fst).length - y < (begT g.fst).length - x4)) (∃ (g3 : ByteArray × Int), #[Value.string g.fst, Value.int IntKind.i64 g.snd] = #[Value.string g3.fst, Value.int IntKind.i64 g3.snd] ∧ (U8 w'4 ∧ g3.fst.size ≤ (67108864 : Nat)) ∧ ∀ (x5 : Nat) (w'5 : World), x5 = nextW g3.fst g3.snd ∧ Ext w'4 w'5 → ∃ (g4 : ByteArray × Int), #[Value.string g.fst, Value.int IntKind.i64 g.snd] = #[Value.string g4.fst, Value.int IntKind.i64 g4.snd] ∧ (U8 w'5 ∧ g4.fst.size ≤ (67108864 : Nat)) ∧ ∀ (x6 : Nat) (w'6 : World), x6 = prevW g4.fst g4.snd ∧ Ext w'5 w'6 → ∃ (g5 : ByteArray × Int), #[Value.string g.fst, Value.int IntKind.i64 (dnAt g.fst x4)] = #[Value.string g5.fst, Value.int IntKind.i64 g5.snd] ∧ (U8 w'6 ∧ g5.fst.size ≤ (67108864 : Nat)) ∧ ∀ (x7 : Nat) (w'7 : World), x7 = prevW g5.fst g5.snd ∧ Ext w'6 w'7 → bcase ((↑x7 : Int) != (0 : Int)) (∃ (x8 : Unit), Value.bool false = Value.bool true ∧ Ext w w'7) (bcase (decide ((↑x5 : Int) > (↑g.fst.size : Int))) (∃ (x8 : Unit), Value.bool false = Value.bool true ∧ Ext w w'7)
 (bcase (decide ((↑x6 : Int) > (↑g.fst.size : Int))) (∃ (x8 : Unit), Value.bool false = Value.bool true ∧ Ext w w'7) (bcase (decide ((↑x5 : Int) ≤ g.snd)) (bcase (decide ((↑x5 : Int) < (↑g.fst.size : Int))) (∃ (x8 : Unit), Value.bool false = Value.bool true ∧ Ext w w'7) (bcase (decide ((↑x6 : Int) ≥ g.snd)) (bcase (decide ((↑x6 : Int) > (0 : Int))) (∃ (x8 : Unit), Value.bool false = Value.bool true ∧ Ext w w'7) (∃ (g6 : ByteArray × Int), #[Value.string g.fst, Value.int IntKind.i64 g.snd] = #[Value.string g6.fst, Value.int IntKind.i64 g6.snd] ∧ (U8 w'7 ∧ g6.fst.size ≤ (67108864 : Nat)) ∧ ∀ (x8 : Nat × Nat) (w'8 : World), x8 = (wp g6.fst (ixW g6.fst (clampN g6.fst g6.snd)), wp g6.fst (ixW g6.fst (clampN g6.fst g6.snd) + (1 : Nat))) ∧ Ext w'7 w'8 → bcase (decide ((↑x8.snd : Int) ≤ (↑g.fst.size : Int))) (bcase (decide ((↑x8.fst : Int) ≤ (↑x8.snd : Int))) (bcase (decide (g.snd < (0 : Int))) (∃ (g7 : Unit), (#[] : Array Value) = #[] ∧ U8 w'8 ∧ ∀ (x9 : Unit) (w'9 : World), Ext w'8 w'9 → ∃ (x10 : Unit), Value.bool true = Value.bool true ∧ Ext w w'9) (bcase (decide (g.snd ≥ (↑g.fst.size : Int))) (∃ (g7 : Unit), (#[] : Array Value) = #[] ∧ U8 w'8 ∧ ∀ (x9 : Unit) (w'9 : World), Ext w'8 w'9 → ∃ (x10 : Unit), Value.bool true = Value.bool true ∧ Ext w w'9) (bcase (decide ((↑x8.fst : Int) ≤ g.snd)) (bcase (decide (g.snd < (↑x8.snd : Int))) (∃ (g7 : Unit), (#[] : Array Value) = #[] ∧ U8 w'8 ∧ ∀ (x9 : Unit) (w'9 : World), Ext w'8 w'9 → ∃ (x10 : Unit), Value.bool true = Value.bool true ∧ Ext w w'9) (∃ (x9 : Unit), Value.bool false = Value.bool true ∧ Ext w w'8)) (∃ (x9 : Unit), Value.bool false = Value.bool true ∧ Ext w w'8)))) (∃ (x9 : Unit), Value.bool false = Value.bool true ∧ Ext w w'8)) (∃ (x9 : Unit), Value.bool false = Value.bool true ∧ Ext w w'8))) (∃ (g6 : ByteArray × Int), #[Value.string g.fst, Value.int IntKind.i64 g.snd] = #[Value.string g6.fst, Value.int IntKind.i64 g6.snd] ∧ (U8 w'7 ∧ g6.fst.size ≤ (67108864 : Nat)) ∧ ∀ (x8 : Nat × Nat) (w'8 : World), x8 = (wp g6.fst (ixW g6.fst (clampN g6.fst g6.snd)), wp g6.fst (ixW g6.fst (clampN g6.fst g6.snd) + (1 : Nat))) ∧ Ext w'7 w'8 → bcase (decide ((↑x8.snd : Int) ≤ (↑g.fst.size : Int))) (bcase (decide ((↑x8.fst : Int) ≤ (↑x8.snd : Int))) (bcase (decide (g.snd < (0 : Int))) (∃ (g7 : Unit), (#[] : Array Value) = #[] ∧ U8 w'8 ∧ ∀ (x9 : Unit) (w'9 : World), Ext w'8 w'9 → ∃ (x10 : Unit), Value.bool true = Value.bool true ∧ Ext w w'9) (bcase (decide (g.snd ≥ (↑g.fst.size : Int))) (∃ (g7 : Unit), (#[] : Array Value) = #[] ∧ U8 w'8 ∧ ∀ (x9 : Unit) (w'9 : World), Ext w'8 w'9 → ∃ (x10 : Unit), Value.bool true = Value.bool true ∧ Ext w w'9) (bcase (decide ((↑x8.fst : Int) ≤ g.snd)) (bcase (decide (g.snd < (↑x8.snd : Int))) (∃ (g7 : Unit), (#[] : Array Value) = #[] ∧ U8 w'8 ∧ ∀ (x9 : Unit) (w'9 : World), Ext w'8 w'9 → ∃ (x10 : Unit), Value.bool true = Value.bool true ∧ Ext w w'9) (∃ (x9 : Unit), Value.bool false = Value.bool true ∧ Ext w w'8)) (∃ (x9 : Unit), Value.bool false = Value.bool true ∧ Ext w w'8))))
 (∃ (x9 : Unit), Value.bool false = Value.bool true ∧ Ext w w'8)) (∃ (x9 : Unit), Value.bool false = Value.bool true ∧ Ext w w'8)))) (bcase (decide ((↑x6 : Int) ≥ g.snd)) (bcase (decide ((↑x6 : Int) > (0 : Int))) (∃ (x8 : Unit), Value.bool false = Value.bool true ∧ Ext w w'7) (∃ (g6 : ByteArray × Int), #[Value.string g.fst, Value.int IntKind.i64 g.snd] = #[Value.string g6.fst, Value.int IntKind.i64 g6.snd] ∧ (U8 w'7 ∧ g6.fst.size ≤ (67108864 : Nat)) ∧ ∀ (x8 : Nat × Nat) (w'8 : World), x8 = (wp g6.fst (ixW g6.fst (clampN g6.fst g6.snd)), wp g6.fst (ixW g6.fst (clampN g6.fst g6.snd) + (1 : Nat))) ∧ Ext w'7 w'8 → bcase (decide ((↑x8.snd : Int) ≤ (↑g.fst.size : Int))) (bcase (decide ((↑x8.fst : Int) ≤ (↑x8.snd : Int))) (bcase (decide (g.snd < (0 : Int))) (∃ (g7 : Unit), (#[] : Array Value) = #[] ∧ U8 w'8 ∧ ∀ (x9 : Unit) (w'9 : World), Ext w'8 w'9 → ∃ (x10 : Unit), Value.bool true = Value.bool true ∧ Ext w w'9) (bcase (decide (g.snd ≥ (↑g.fst.size : Int))) (∃ (g7 : Unit), (#[] : Array Value) = #[] ∧ U8 w'8 ∧ ∀ (x9 : Unit) (w'9 : World), Ext w'8 w'9 → ∃ (x10 : Unit), Value.bool true = Value.bool true ∧ Ext w w'9) (bcase (decide ((↑x8.fst : Int) ≤ g.snd)) (bcase (decide (g.snd < (↑x8.snd : Int))) (∃ (g7 : Unit), (#[] : Array Value) = #[] ∧ U8 w'8 ∧ ∀ (x9 : Unit) (w'9 : World), Ext w'8 w'9 → ∃ (x10 : Unit), Value.bool true = Value.bool true ∧ Ext w w'9) (∃ (x9 : Unit), Value.bool false = Value.bool true ∧ Ext w w'8)) (∃ (x9 : Unit), Value.bool false = Value.bool true ∧ Ext w w'8)))) (∃ (x9 : Unit), Value.bool false = Value.bool true ∧ Ext w w'8)) (∃ (x9 : Unit), Value.bool false = Value.bool true ∧ Ext w w'8))) (∃ (g6 : ByteArray × Int), #[Value.string g.fst, Value.int IntKind.i64 g.snd] = #[Value.string g6.fst, Value.int IntKind.i64 g6.snd] ∧ (U8 w'7 ∧ g6.fst.size ≤ (67108864 : Nat)) ∧ ∀ (x8 : Nat × Nat) (w'8 : World), x8 = (wp g6.fst (ixW g6.fst (clampN g6.fst g6.snd)), wp g6.fst (ixW g6.fst (clampN g6.fst g6.snd) + (1 : Nat))) ∧ Ext w'7 w'8 → bcase (decide ((↑x8.snd : Int) ≤ (↑g.fst.size : Int))) (bcase (decide ((↑x8.fst : Int) ≤ (↑x8.snd : Int))) (bcase (decide (g.snd < (0 : Int))) (∃ (g7 : Unit), (#[] : Array Value) = #[] ∧ U8 w'8 ∧ ∀ (x9 : Unit) (w'9 : World), Ext w'8 w'9 → ∃ (x10 : Unit), Value.bool true = Value.bool true ∧ Ext w w'9) (bcase (decide (g.snd ≥ (↑g.fst.size : Int))) (∃ (g7 : Unit), (#[] : Array Value) = #[] ∧ U8 w'8 ∧ ∀ (x9 : Unit) (w'9 : World), Ext w'8 w'9 → ∃ (x10 : Unit), Value.bool true = Value.bool true ∧ Ext w w'9) (bcase (decide ((↑x8.fst : Int) ≤ g.snd)) (bcase (decide (g.snd < (↑x8.snd : Int))) (∃ (g7 : Unit), (#[] : Array Value) = #[] ∧ U8 w'8 ∧ ∀ (x9 : Unit) (w'9 : World), Ext w'8 w'9 → ∃ (x10 : Unit), Value.bool true = Value.bool true ∧ Ext w w'9) (∃ (x9 : Unit), Value.bool false = Value.bool true ∧ Ext w w'8)) (∃ (x9 : Unit), Value.bool false = Value.bool true ∧ Ext w w'8)))) (∃ (x9 : Unit), Value.bool false = Value.bool true ∧ Ext w w'8)) (∃ (x9 : Unit), Value.bool false = Value.bool true ∧ Ext w w'8)))))))))))) :
    (sWLawSI).Ok Tryd.prog 9 :=
  ok_of_vc sWLawSI annWStep spWStep (fun _ _ => rfl) (fun _ _ => rfl) hsp Tryd.func9 rfl (n := 2) (fun _ => rfl) (by kernel_rfl) (vcast (by kernel_rfl) h)

set_option maxRecDepth 1000000 in
theorem wKn_vc (hsp : SpecsOk Tryd.prog spWKn) (h : ∀ (g : Unit) (w : World), U8 w → (∀ (b : Nat) (w1 : World), New w (Obj.cells #[Value.string (ByteArray.mk #[(97 : UInt8)]), Value.string (ByteArray.mk #[(39 : UInt8)]), Value.string (ByteArray.mk #[(49 : UInt8)]), Value.string (ByteArray.mk #[(32 : UInt8)]), Value.string (ByteArray.mk #[(49 : UInt8)]), Value.string (ByteArray.mk #[(39 : UInt8)]), Value.string (ByteArray.mk #[(97 : UInt8)]), Value.string (ByteArray.mk #[(32 : UInt8)]), Value.string (ByteArray.mk #[(39 : UInt8)]), Value.string (ByteArray.mk #[(97 : UInt8)]), Value.string (ByteArray.mk #[(39 : UInt8)])] (9 : Nat)) b w1 → ∃ (g1 : GRow12), #[Value.string { data := #[(97 : UInt8), (39 : UInt8), (49 : UInt8), (32 : UInt8), (49 : UInt8), (39 : UInt8), (97 : UInt8), (32 : UInt8), (39 : UInt8), (97 : UInt8), (39 : UInt8)] }, Value.slice (some { block := b, off := (0 : Nat) }) (11 : Nat) (11 : Nat)] = #[Value.string g1.s, Value.slice g1.a g1.want.length g1.c] ∧ (U8 w1 ∧ g1.s.size ≤ (67108864 : Nat) ∧ CellsAt w1 g1.a (List.map Value.string g1.want) ∧ g1.want.length ≤ (1000000 : Nat)) ∧ ∀ (x : Bool) (w' : World), x = rowW g1.s g1.want ∧ Ext w1 w' → bcase x (∀ (b1 : Nat) (w11 : World), New w' (Obj.cells #[Value.string (ByteArray.mk #[(49 : UInt8), (44 : UInt8), (48 : UInt8), (48 : UInt8), (48 : UInt8), (46 : UInt8), (53 : UInt8)]), Value.string (ByteArray.mk #[(32 : UInt8)]), Value.string (ByteArray.mk #[(49 : UInt8)]), Value.string (ByteArray.mk #[(46 : UInt8)]), Value.string (ByteArray.mk #[(32 : UInt8)]), Value.string (ByteArray.mk #[(46 : UInt8)]), Value.string (ByteArray.mk #[(53 : UInt8)]), Value.string (ByteArray.mk #[(32 : UInt8)]), Value.string (ByteArray.mk #[(97 : UInt8)]), Value.string (ByteArray.mk #[(46 : UInt8)]), Value.string (ByteArray.mk #[(98 : UInt8)])] (9 : Nat)) b1 w11 → ∃ (g2 : GRow12), #[Value.string { data := #[(49 : UInt8), (44 : UInt8), (48 : UInt8), (48 : UInt8), (48 : UInt8), (46 : UInt8), (53 : UInt8), (32 : UInt8), (49 : UInt8), (46 : UInt8), (32 : UInt8), (46 : UInt8), (53 : UInt8), (32 : UInt8), (97 : UInt8), (46 : UInt8), (98 : UInt8)] }, Value.slice (some { block := b1, off := (0 : Nat) }) (11 : Nat) (11 : Nat)] = #[Value.string g2.s, Value.slice g2.a g2.want.length g2.c] ∧ (U8 w11 ∧ g2.s.size ≤ (67108864 : Nat) ∧ CellsAt w11 g2.a (List.map Value.string g2.want) ∧ g2.want.length ≤ (1000000 : Nat)) ∧ ∀ (x1 : Bool) (w'1 : World), x1 = rowW g2.s g2.want ∧ Ext w11 w'1 → bcase x1 (∀ (b2 : Nat) (w12 : World), New w'1 (Obj.cells #[Value.string (ByteArray.mk #[(97 : UInt8)]), Value.string (ByteArray.mk #[(39 : UInt8)]), Value.string (ByteArray.mk #[(39 : UInt8)]), Value.string (ByteArray.mk #[(98 : UInt8)]), Value.string (ByteArray.mk #[(44 : UInt8)]), Value.string (ByteArray.mk #[(32 : UInt8)]), Value.string (ByteArray.mk #[(97 : UInt8), (58 : UInt8), (98 : UInt8)]), Value.string (ByteArray.mk #[(32 : UInt8)]), Value.string (ByteArray.mk #[(120 : UInt8), (95 : UInt8), (49 : UInt8)])] (9 : Nat)) b2 w12 →
 ∃ (g3 : GRow12), #[Value.string { data := #[(97 : UInt8), (39 : UInt8), (39 : UInt8), (98 : UInt8), (44 : UInt8), (32 : UInt8), (97 : UInt8), (58 : UInt8), (98 : UInt8), (32 : UInt8), (120 : UInt8), (95 : UInt8), (49 : UInt8)] }, Value.slice (some { block := b2, off := (0 : Nat) }) (9 : Nat) (9 : Nat)] = #[Value.string g3.s, Value.slice g3.a g3.want.length g3.c] ∧ (U8 w12 ∧ g3.s.size ≤ (67108864 : Nat) ∧ CellsAt w12 g3.a (List.map Value.string g3.want) ∧ g3.want.length ≤ (1000000 : Nat)) ∧ ∀ (x2 : Bool) (w'2 : World), x2 = rowW g3.s g3.want ∧ Ext w12 w'2 → ∃ (c : Unit), Value.bool x2 = Value.bool true ∧ Ext w w'2) (∃ (c : Unit), Value.bool false = Value.bool true ∧ Ext w w'1)) (∃ (c : Unit), Value.bool false = Value.bool true ∧ Ext w w')) ∧ ∀ (u : Nat → Value) (c : Unit) (w' : World), Ext w w' → (∀ (b : Nat) (w1 : World), New w' (Obj.cells #[Value.string (ByteArray.mk #[(228 : UInt8), (184 : UInt8), (150 : UInt8)]), Value.string (ByteArray.mk #[(228 : UInt8), (184 : UInt8), (151 : UInt8)]), Value.string (ByteArray.mk #[(32 : UInt8), (32 : UInt8)])] (9 : Nat)) b w1 → ∃ (g1 : GRow12), #[Value.string { data := #[(228 : UInt8), (184 : UInt8), (150 : UInt8), (228 : UInt8), (184 : UInt8), (151 : UInt8), (32 : UInt8), (32 : UInt8)] }, Value.slice (some { block := b, off := (0 : Nat) }) (3 : Nat) (3 : Nat)] = #[Value.string g1.s, Value.slice g1.a g1.want.length g1.c] ∧ (U8 w1 ∧ g1.s.size ≤ (67108864 : Nat) ∧ CellsAt w1 g1.a (List.map Value.string g1.want) ∧ g1.want.length ≤ (1000000 : Nat)) ∧ ∀ (x : Bool) (w'1 : World), x = rowW g1.s g1.want ∧ Ext w1 w'1 → bcase x (∀ (b1 : Nat) (w11 : World), New w'1 (Obj.cells #[Value.string (ByteArray.mk #[(97 : UInt8), (204 : UInt8), (129 : UInt8)]), Value.string (ByteArray.mk #[(255 : UInt8)]), Value.string (ByteArray.mk #[(98 : UInt8)])] (9 : Nat)) b1 w11 → ∃ (g2 : GRow12), #[Value.string (ByteArray.mk #[(97 : UInt8), (204 : UInt8), (129 : UInt8), (255 : UInt8), (98 : UInt8)]), Value.slice (some { block := b1, off := (0 : Nat) }) (3 : Nat) (3 : Nat)] = #[Value.string g2.s, Value.slice g2.a g2.want.length g2.c] ∧ (U8 w11 ∧ g2.s.size ≤ (67108864 : Nat) ∧ CellsAt w11 g2.a (List.map Value.string g2.want) ∧ g2.want.length ≤ (1000000 : Nat)) ∧ ∀ (x1 : Bool) (w'2 : World), x1 = rowW g2.s g2.want ∧ Ext w11 w'2 → bcase x1 (∀ (b2 : Nat) (w12 : World), New w'2 (Obj.cells #[Value.string (ByteArray.mk #[(9 : UInt8), (32 : UInt8)]), Value.string (ByteArray.mk #[(10 : UInt8)]), Value.string (ByteArray.mk #[(32 : UInt8)])] (9 : Nat)) b2 w12 → ∃ (g3 : GRow12), #[Value.string (ByteArray.mk #[(9 : UInt8), (32 : UInt8), (10 : UInt8), (32 : UInt8)]), Value.slice (some { block := b2, off := (0 : Nat) }) (3 : Nat) (3 : Nat)] = #[Value.string g3.s, Value.slice g3.a g3.want.length g3.c] ∧ (U8 w12 ∧ g3.s.size ≤ (67108864 : Nat) ∧ CellsAt w12 g3.a (List.map Value.string g3.want) ∧ g3.want.length ≤ (1000000 : Nat)) ∧ ∀ (x2 : Bool) (w'3 : World), x2 = rowW g3.s g3.want ∧ Ext w12 w'3 → bcase x2 (∀ (b3 : Nat) (w13 : World), New w'3
 (Obj.cells #[Value.string (ByteArray.mk #[(97 : UInt8), (226 : UInt8), (128 : UInt8), (153 : UInt8), (98 : UInt8)])] (9 : Nat)) b3 w13 → ∃ (g4 : GRow12), #[Value.string (ByteArray.mk #[(97 : UInt8), (226 : UInt8), (128 : UInt8), (153 : UInt8), (98 : UInt8)]), Value.slice (some { block := b3, off := (0 : Nat) }) (1 : Nat) (1 : Nat)] = #[Value.string g4.s, Value.slice g4.a g4.want.length g4.c] ∧ (U8 w13 ∧ g4.s.size ≤ (67108864 : Nat) ∧ CellsAt w13 g4.a (List.map Value.string g4.want) ∧ g4.want.length ≤ (1000000 : Nat)) ∧ ∀ (x3 : Bool) (w'4 : World), x3 = rowW g4.s g4.want ∧ Ext w13 w'4 → bcase x3 (∀ (b4 : Nat) (w14 : World), New w'4 (Obj.cells #[Value.string (ByteArray.mk #[(97 : UInt8)]), Value.string (ByteArray.mk #[(39 : UInt8), (204 : UInt8), (129 : UInt8)]), Value.string (ByteArray.mk #[(98 : UInt8)])] (9 : Nat)) b4 w14 → ∃ (g5 : GRow12), #[Value.string (ByteArray.mk #[(97 : UInt8), (39 : UInt8), (204 : UInt8), (129 : UInt8), (98 : UInt8)]), Value.slice (some { block := b4, off := (0 : Nat) }) (3 : Nat) (3 : Nat)] = #[Value.string g5.s, Value.slice g5.a g5.want.length g5.c] ∧ (U8 w14 ∧ g5.s.size ≤ (67108864 : Nat) ∧ CellsAt w14 g5.a (List.map Value.string g5.want) ∧ g5.want.length ≤ (1000000 : Nat)) ∧ ∀ (x4 : Bool) (w'5 : World), x4 = rowW g5.s g5.want ∧ Ext w14 w'5 → bcase x4 (∃ (g6 : GRow12), #[Value.string (ByteArray.mk #[]), Value.slice none (0 : Nat) (0 : Nat)] = #[Value.string g6.s, Value.slice g6.a g6.want.length g6.c] ∧ (U8 w'5 ∧ g6.s.size ≤ (67108864 : Nat) ∧ CellsAt w'5 g6.a (List.map Value.string g6.want) ∧ g6.want.length ≤ (1000000 : Nat)) ∧ ∀ (x5 : Bool) (w'6 : World), x5 = rowW g6.s g6.want ∧ Ext w'5 w'6 → ∃ (c1 : Unit), Value.bool x5 = Value.bool true ∧ Ext w' w'6) (∃ (c1 : Unit), Value.bool false = Value.bool true ∧ Ext w' w'5)) (∃ (c1 : Unit), Value.bool false = Value.bool true ∧ Ext w' w'4)) (∃ (c1 : Unit), Value.bool false = Value.bool true ∧ Ext w' w'3)) (∃ (c1 : Unit), Value.bool false = Value.bool true ∧ Ext w' w'2)) (∃ (c1 : Unit), Value.bool false = Value.bool true ∧ Ext w' w'1)) ∧ ∀ (u1 : Nat → Value) (c1 : Unit) (w'1 : World), Ext w' w'1 → ∃ (g1 : ByteArray × Int), #[Value.string (ByteArray.mk #[(97 : UInt8), (32 : UInt8), (98 : UInt8), (99 : UInt8)]), Value.int IntKind.i64 (1 : Int)] = #[Value.string g1.fst, Value.int IntKind.i64 g1.snd] ∧ (U8 w'1 ∧ g1.fst.size ≤ (67108864 : Nat)) ∧ ∀ (x : Nat × Nat) (w'2 : World), x = (wp g1.fst (ixW g1.fst (clampN g1.fst g1.snd)), wp g1.fst (ixW g1.fst (clampN g1.fst g1.snd) + (1 : Nat))) ∧ Ext w'1 w'2 → ∃ (g2 : ByteArray × Int), #[Value.string (ByteArray.mk #[(97 : UInt8), (32 : UInt8), (98 : UInt8), (99 : UInt8)]), Value.int IntKind.i64 (9 : Int)] = #[Value.string g2.fst, Value.int IntKind.i64 g2.snd] ∧ (U8 w'2 ∧ g2.fst.size ≤ (67108864 : Nat)) ∧ ∀ (x1 : Nat × Nat) (w'3 : World), x1 = (wp g2.fst (ixW g2.fst (clampN g2.fst g2.snd)), wp g2.fst (ixW g2.fst (clampN g2.fst g2.snd) + (1 : Nat))) ∧ Ext w'2 w'3 → (∃ (g3 : ByteArray × Int),
 #[Value.string (ByteArray.mk #[(97 : UInt8), (32 : UInt8), (98 : UInt8)]), Value.int IntKind.i64 (2 : Int)] = #[Value.string g3.fst, Value.int IntKind.i64 g3.snd] ∧ (U8 w'3 ∧ g3.fst.size ≤ (67108864 : Nat)) ∧ ∀ (x2 : Nat) (w'4 : World), x2 = nextW g3.fst g3.snd ∧ Ext w'3 w'4 → bcase ((↑x2 : Int) == (3 : Int)) (∃ (g4 : ByteArray × Int), #[Value.string (ByteArray.mk #[(97 : UInt8), (32 : UInt8), (98 : UInt8)]), Value.int IntKind.i64 (-1 : Int)] = #[Value.string g4.fst, Value.int IntKind.i64 g4.snd] ∧ (U8 w'4 ∧ g4.fst.size ≤ (67108864 : Nat)) ∧ ∀ (x3 : Nat) (w'5 : World), x3 = nextW g4.fst g4.snd ∧ Ext w'4 w'5 → bcase ((↑x3 : Int) == (2 : Int)) (∃ (g5 : ByteArray × Int), #[Value.string (ByteArray.mk #[(97 : UInt8), (32 : UInt8), (98 : UInt8)]), Value.int IntKind.i64 (2 : Int)] = #[Value.string g5.fst, Value.int IntKind.i64 g5.snd] ∧ (U8 w'5 ∧ g5.fst.size ≤ (67108864 : Nat)) ∧ ∀ (x4 : Nat) (w'6 : World), x4 = prevW g5.fst g5.snd ∧ Ext w'5 w'6 → bcase ((↑x4 : Int) == (0 : Int)) (∃ (g6 : ByteArray × Int), #[Value.string (ByteArray.mk #[(97 : UInt8), (32 : UInt8), (98 : UInt8)]), Value.int IntKind.i64 (0 : Int)] = #[Value.string g6.fst, Value.int IntKind.i64 g6.snd] ∧ (U8 w'6 ∧ g6.fst.size ≤ (67108864 : Nat)) ∧ ∀ (x5 : Nat) (w'7 : World), x5 = prevW g6.fst g6.snd ∧ Ext w'6 w'7 → bcase ((↑x5 : Int) == (0 : Int)) (∃ (g7 : ByteArray × Int), #[Value.string (ByteArray.mk #[(32 : UInt8), (32 : UInt8), (97 : UInt8)]), Value.int IntKind.i64 (-5 : Int)] = #[Value.string g7.fst, Value.int IntKind.i64 g7.snd] ∧ (U8 w'7 ∧ g7.fst.size ≤ (67108864 : Nat)) ∧ ∀ (x6 : Nat) (w'8 : World), x6 = nextW g7.fst g7.snd ∧ Ext w'7 w'8 → bcase ((↑x6 : Int) == (2 : Int)) (∃ (g8 : ByteArray × Int), #[Value.string (ByteArray.mk #[(32 : UInt8), (97 : UInt8), (32 : UInt8)]), Value.int IntKind.i64 (99 : Int)] = #[Value.string g8.fst, Value.int IntKind.i64 g8.snd] ∧ (U8 w'8 ∧ g8.fst.size ≤ (67108864 : Nat)) ∧ ∀ (x7 : Nat) (w'9 : World), x7 = prevW g8.fst g8.snd ∧ Ext w'8 w'9 → bcase ((↑x7 : Int) == (1 : Int)) (bcase ((↑x.fst : Int) == (1 : Int)) (bcase ((↑x.snd : Int) == (2 : Int)) (bcase ((↑x1.fst : Int) == (4 : Int)) (bcase ((↑x1.snd : Int) == (4 : Int)) (∃ (g9 : ByteArray × Int), #[Value.string (ByteArray.mk #[]), Value.int IntKind.i64 (0 : Int)] = #[Value.string g9.fst, Value.int IntKind.i64 g9.snd] ∧ (U8 w'9 ∧ g9.fst.size ≤ (67108864 : Nat)) ∧ ∀ (x8 : Bool) (w'10 : World), x8 = isW g9.fst g9.snd ∧ Ext w'9 w'10 → bcase x8 (∃ (g10 : ByteArray × Int), #[Value.string (ByteArray.mk #[(97 : UInt8)]), Value.int IntKind.i64 (2 : Int)] = #[Value.string g10.fst, Value.int IntKind.i64 g10.snd] ∧ (U8 w'10 ∧ g10.fst.size ≤ (67108864 : Nat)) ∧ ∀ (x9 : Bool) (w'11 : World), x9 = isW g10.fst g10.snd ∧ Ext w'10 w'11 → ∃ (c2 : Unit), (Value.bool !x9) = Value.bool true ∧ Ext w'3 w'11) (∃ (c2 : Unit), Value.bool false = Value.bool true ∧ Ext w'3 w'10)) (∃ (c2 : Unit), Value.bool false = Value.bool true ∧ Ext w'3 w'9)) (∃ (c2 : Unit), Value.bool false = Value.bool true ∧ Ext w'3 w'9))
 (∃ (c2 : Unit), Value.bool false = Value.bool true ∧ Ext w'3 w'9)) (∃ (c2 : Unit), Value.bool false = Value.bool true ∧ Ext w'3 w'9)) (∃ (c2 : Unit), Value.bool false = Value.bool true ∧ Ext w'3 w'9)) (∃ (c2 : Unit), Value.bool false = Value.bool true ∧ Ext w'3 w'8)) (∃ (c2 : Unit), Value.bool false = Value.bool true ∧ Ext w'3 w'7)) (∃ (c2 : Unit), Value.bool false = Value.bool true ∧ Ext w'3 w'6)) (∃ (c2 : Unit), Value.bool false = Value.bool true ∧ Ext w'3 w'5)) (∃ (c2 : Unit), Value.bool false = Value.bool true ∧ Ext w'3 w'4)) ∧ ∀ (u2 : Nat → Value) (c2 : Unit) (w'4 : World), Ext w'3 w'4 → ∃ (g3 : Unit), (#[] : Array Value) = #[] ∧ U8 w'4 ∧ ∀ (x2 : Unit) (w'5 : World), Ext w'4 w'5 → ∃ (x3 : Unit), Value.bool true = Value.bool true ∧ Ext w w'5) :
    ((sYes U8)).Ok Tryd.prog 10 :=
  ok_of_vc (sYes U8) annWKn spWKn (fun _ _ => rfl) (fun _ _ => rfl) hsp Tryd.func10 rfl (n := 0) (fun _ => rfl) (by kernel_rfl) (vcast (by kernel_rfl) h)

end Go.Proofs.YthpjkgoahneldaaDoor
end

section
/-
  Words in plain words, third part: the beginnings of words as a list; the next and the last of them.
-/
namespace Go.Proofs.YthpjkgoahneldaaDoor
open Go Go.RowKit Vc Ut Tb Cl Orb Wd

theorem begs_succ (s : ByteArray) (k : Nat) : begs s (k + 1) = begs s k ++ (if wdB s k = true then [((wp s k : Nat) : Int)] else []) := by
  unfold begs
  rw [List.range_succ, List.filter_append, List.map_append]
  congr 1
  by_cases h : wdB s k = true
  · rw [if_pos h, List.filter_cons_of_pos h]; rfl
  · rw [if_neg h, List.filter_cons_of_neg h]; rfl
theorem begs_mem {s : ByteArray} {k : Nat} {x : Int} (h : x ∈ begs s k) : ∃ j, j < k ∧ wdB s j = true ∧ x = (wp s j : Nat) := by
  unfold begs at h
  obtain ⟨j, hj, rfl⟩ := List.mem_map.1 h
  have := List.mem_filter.1 hj
  exact ⟨j, List.mem_range.1 this.1, this.2, rfl⟩
theorem begs_len (s : ByteArray) (k : Nat) : (begs s k).length ≤ k := by
  unfold begs
  rw [List.length_map]
  have := List.length_filter_le (fun i => wdB s i) (List.range k)
  simpa using this
theorem begT_lt (s : ByteArray) : (begT s).Pairwise (· < ·) := by
  unfold begT begs
  rw [List.pairwise_map]
  refine List.Pairwise.imp_of_mem (R := (· < ·)) ?_ (List.Pairwise.filter _ List.pairwise_lt_range)
  intro i j hi hj h
  have hi := List.mem_range.1 (List.mem_filter.1 hi).1
  have := wp_strict (s := s) h hi
  omega
theorem begT_bd {s : ByteArray} {i : Nat} (h : i < (begT s).length) : 0 ≤ (begT s)[i] ∧ (begT s)[i] < s.size := by
  obtain ⟨j, hj, _, e⟩ := begs_mem (List.getElem_mem h)
  have h1 := wp_step hj
  have h2 := wp_le s (j + 1)
  rw [e]; omega
theorem begT_inc {s : ByteArray} {i j : Nat} (h : i < j) (hj : j < (begT s).length) : (begT s)[i]'(by omega) < (begT s)[j] := List.pairwise_iff_getElem.1 (begT_lt s) i j (by omega) hj h

theorem nxU_find {s : ByteArray} {q : Nat} : ∀ {k : Nat}, k ≤ wn s → (nxU s q k : Int) = ((begs s k).find? fun x => decide ((q : Int) < x)).getD s.size
  | 0, _ => rfl
  | k + 1, hk => by
    have ih := nxU_find (q := q) (show k ≤ wn s by omega)
    rw [begs_succ, List.find?_append]
    have h1 := wp_step (s := s) (k := k) (by omega)
    have h2 := wp_le s (k + 1)
    cases hf : (begs s k).find? fun x => decide ((q : Int) < x) with
    | some v =>
      rw [hf] at ih
      obtain ⟨j, hj, _, e⟩ := begs_mem (List.mem_of_find?_eq_some hf)
      have h3 := wp_mono s (show j ≤ k by omega)
      simp only [Option.getD_some] at ih
      simp only [nxU, Option.some_or, Option.getD_some]
      rw [if_neg (by omega)]
      exact ih
    | none =>
      rw [hf] at ih
      simp only [Option.getD_none] at ih
      simp only [nxU, Option.none_or]
      by_cases hw : wdB s k = true
      · rw [if_pos hw]
        by_cases hq : q < wp s k
        · rw [if_pos ⟨hw, hq, by omega⟩, List.find?_cons_of_pos (p := fun x => decide ((q : Int) < x)) (decide_eq_true (by omega))]; rfl
        · rw [if_neg (fun h => hq h.2.1), List.find?_cons_of_neg (by simp; omega)]; exact ih
      · rw [if_neg hw, if_neg (fun h => hw h.1)]; exact ih
theorem pvU_find {s : ByteArray} {q : Nat} : ∀ (k : Nat), (pvU s q k : Int) = ((begs s k).reverse.find? fun x => decide (x < (q : Int))).getD 0
  | 0 => rfl
  | k + 1 => by
    have ih := pvU_find (s := s) (q := q) k
    rw [begs_succ, List.reverse_append]
    simp only [pvU]
    by_cases hw : wdB s k = true
    · rw [if_pos hw]
      by_cases hq : wp s k < q
      · rw [if_pos ⟨hw, hq⟩, List.reverse_cons, List.reverse_nil, List.nil_append, List.cons_append, List.find?_cons_of_pos (p := fun x => decide (x < (q : Int))) (decide_eq_true (by omega))]; rfl
      · rw [if_neg (fun h => hq h.2), List.reverse_cons, List.reverse_nil, List.nil_append, List.cons_append, List.find?_cons_of_neg (by simp; omega), List.nil_append]; exact ih
    · rw [if_neg hw, if_neg (fun h => hw h.1), List.reverse_nil, List.nil_append]; exact ih

theorem clamp_of {s : ByteArray} {p : Int} (h1 : 0 ≤ p) (h2 : p ≤ s.size) : (clampN s p : Int) = p := by
  unfold clampN; rw [if_neg (by omega), if_neg (by omega)]; omega
theorem upAt_bd {s : ByteArray} {i : Nat} (hi : i ≤ (begT s).length) : 0 ≤ upAt s i ∧ upAt s i ≤ s.size := by
  unfold upAt
  split
  · omega
  · rename_i h0
    have h : i - 1 < (begT s).length := by omega
    have := begT_bd h
    rw [List.getD_eq_getElem?_getD, List.getElem?_eq_getElem h, Option.getD_some]
    omega
theorem dnAt_bd {s : ByteArray} {j : Nat} (hj : j ≤ (begT s).length) : 0 ≤ dnAt s j ∧ dnAt s j ≤ s.size := by
  unfold dnAt
  split
  · omega
  · rename_i h0
    have h : (begT s).length - j < (begT s).length := by omega
    have := begT_bd h
    rw [List.getD_eq_getElem?_getD, List.getElem?_eq_getElem h, Option.getD_some]
    omega
theorem getT {s : ByteArray} {i : Nat} (h : i < (begT s).length) : (begT s).getD i 0 = (begT s)[i] := by
  rw [List.getD_eq_getElem?_getD, List.getElem?_eq_getElem h, Option.getD_some]

theorem next_up {s : ByteArray} {i : Nat} (hi : i < (begT s).length) (h : 0 < (begT s).getD i 0 ∨ 0 < i) : (nextW s (upAt s i) : Int) = (begT s).getD i 0 := by
  have hb := upAt_bd (s := s) (i := i) (by omega)
  unfold nextW
  rw [nxU_find (Nat.le_refl _), getT hi, clamp_of hb.1 hb.2]
  have : (begs s (wn s)).find? (fun x => decide (upAt s i < x)) = some (begT s)[i] := by
    rw [List.find?_eq_some_iff_getElem]
    refine ⟨decide_eq_true ?_, i, hi, rfl, fun j hj => ?_⟩
    · unfold upAt
      split
      · rename_i h0
        subst h0
        rw [getT hi] at h
        omega
      · rw [getT (by omega)]
        exact begT_inc (by omega) hi
    · have hu : (begT s)[j]'(by omega) ≤ upAt s i := by
        unfold upAt
        rw [if_neg (by omega), getT (by omega)]
        rcases Nat.lt_or_ge j (i - 1) with h1 | h1
        · exact Int.le_of_lt (begT_inc h1 (by omega))
        · have : j = i - 1 := by omega
          subst this; exact Int.le_refl _
      show (!decide (upAt s i < (begT s)[j]'(by omega))) = true
      rw [decide_eq_false (by omega)]; rfl
  rw [this]; rfl
theorem next_end (s : ByteArray) : nextW s (upAt s (begT s).length) = s.size := by
  have hb := upAt_bd (s := s) (i := (begT s).length) (Nat.le_refl _)
  have h1 : (nextW s (upAt s (begT s).length) : Int) = s.size := by
    unfold nextW
    rw [nxU_find (Nat.le_refl _), clamp_of hb.1 hb.2]
    have : (begs s (wn s)).find? (fun x => decide (upAt s (begT s).length < x)) = none := by
      rw [List.find?_eq_none]
      intro x hx
      obtain ⟨j, hj, rfl⟩ := List.getElem_of_mem hx
      have hj : j < (begT s).length := hj
      have hu : (begT s)[j] ≤ upAt s (begT s).length := by
        unfold upAt
        rw [if_neg (by omega), getT (by omega)]
        rcases Nat.lt_or_ge j ((begT s).length - 1) with h1 | h1
        · exact Int.le_of_lt (begT_inc h1 (by omega))
        · have : j = (begT s).length - 1 := by omega
          subst this; exact Int.le_refl _
      have hu : (begs s (wn s))[j] ≤ upAt s (begT s).length := hu
      simp; omega
    rw [this]; rfl
  omega
theorem prev_dn {s : ByteArray} {j : Nat} (hj : j < (begT s).length) : (prevW s (dnAt s j) : Int) = (begT s).getD ((begT s).length - 1 - j) 0 := by
  have hb := dnAt_bd (s := s) (j := j) (by omega)
  have hi : (begT s).length - 1 - j < (begT s).length := by omega
  unfold prevW
  rw [pvU_find, getT hi, clamp_of hb.1 hb.2]
  have : (begT s).reverse.find? (fun x => decide (x < dnAt s j)) = some ((begT s)[(begT s).length - 1 - j]) := by
    rw [List.find?_eq_some_iff_getElem]
    refine ⟨decide_eq_true ?_, j, by rw [List.length_reverse]; exact hj, by rw [List.getElem_reverse], fun m hm => ?_⟩
    · unfold dnAt
      split
      · exact (begT_bd hi).2
      · rw [getT (by omega)]
        exact begT_inc (by omega) (by omega)
    · have hu : dnAt s j ≤ (begT s).reverse[m]'(by rw [List.length_reverse]; omega) := by
        rw [List.getElem_reverse]
        unfold dnAt
        rw [if_neg (by omega), getT (by omega)]
        rcases Nat.lt_or_ge ((begT s).length - j) ((begT s).length - 1 - m) with h1 | h1
        · exact Int.le_of_lt (begT_inc h1 (by omega))
        · have : (begT s).length - j = (begT s).length - 1 - m := by omega
          simp only [this]; exact Int.le_refl _
      show (!decide ((begT s).reverse[m]'(by rw [List.length_reverse]; omega) < dnAt s j)) = true
      rw [decide_eq_false (by omega)]; rfl
  have h2 : (begs s (wn s)).reverse.find? (fun x => decide (x < dnAt s j)) = some ((begT s)[(begT s).length - 1 - j]) := this
  rw [h2]; rfl
theorem prev_end (s : ByteArray) : prevW s (dnAt s (begT s).length) = 0 := by
  have hb := dnAt_bd (s := s) (j := (begT s).length) (Nat.le_refl _)
  have h1 : (prevW s (dnAt s (begT s).length) : Int) = 0 := by
    unfold prevW
    rw [pvU_find, clamp_of hb.1 hb.2]
    have : (begs s (wn s)).reverse.find? (fun x => decide (x < dnAt s (begT s).length)) = none := by
      rw [List.find?_eq_none]
      intro x hx
      obtain ⟨j, hj, rfl⟩ := List.getElem_of_mem (List.mem_reverse.1 hx)
      have hj : j < (begT s).length := hj
      have hu : dnAt s (begT s).length ≤ (begT s)[j] := by
        unfold dnAt
        rw [if_neg (by omega), getT (by omega)]
        rcases Nat.eq_zero_or_pos j with h1 | h1
        · subst h1; simp only [Nat.sub_self]; exact Int.le_refl _
        · exact Int.le_of_lt (begT_inc (by omega) hj)
      have hu : dnAt s (begT s).length ≤ (begs s (wn s))[j] := hu
      simp; omega
    rw [this]; rfl
  omega
theorem next_bd {s : ByteArray} {p : Int} (h : nextW s p < s.size) : p < (nextW s p : Nat) := by
  have h1 : ((nextW s p : Nat) : Int) = ((begs s (wn s)).find? fun x => decide ((clampN s p : Int) < x)).getD s.size := nxU_find (Nat.le_refl _)
  cases hf : (begs s (wn s)).find? fun x => decide ((clampN s p : Int) < x) with
  | none => rw [hf] at h1; simp only [Option.getD_none] at h1; omega
  | some v =>
    rw [hf] at h1
    simp only [Option.getD_some] at h1
    have h2 := List.find?_some hf
    have h2 := of_decide_eq_true h2
    unfold clampN at h2
    split at h2
    · omega
    · split at h2 <;> omega
theorem prev_bd {s : ByteArray} {p : Int} (h : 0 < prevW s p) : ((prevW s p : Nat) : Int) < p := by
  have h1 : ((prevW s p : Nat) : Int) = ((begs s (wn s)).reverse.find? fun x => decide (x < (clampN s p : Int))).getD 0 := pvU_find _
  cases hf : (begs s (wn s)).reverse.find? fun x => decide (x < (clampN s p : Int)) with
  | none => rw [hf] at h1; simp only [Option.getD_none] at h1; omega
  | some v =>
    rw [hf] at h1
    simp only [Option.getD_some] at h1
    have h2 := List.find?_some hf
    have h2 := of_decide_eq_true h2
    unfold clampN at h2
    split at h2
    · omega
    · split at h2 <;> omega
theorem nextW_le (s : ByteArray) (p : Int) : nextW s p ≤ s.size := nxU_le _
theorem prevW_le (s : ByteArray) (p : Int) : prevW s p ≤ s.size := pvU_le _
theorem at_bd {s : ByteArray} {p : Int} (h0 : 0 ≤ p) (h1 : p < s.size) : ((wp s (ixW s (clampN s p)) : Nat) : Int) ≤ p ∧ p < (wp s (ixW s (clampN s p) + 1) : Nat) := by
  have hc := clamp_of h0 (Int.le_of_lt h1)
  generalize clampN s p = q at hc
  have hq : q < s.size := by omega
  have hwe := wp_end s
  have hw0 : 0 < wn s := by
    rcases Nat.eq_zero_or_pos (wn s) with h | h
    · rw [h, wp_zero] at hwe; omega
    · exact h
  have : ∃ i, i < wn s ∧ wp s i ≤ q ∧ q < wp s (i + 1) ∧ ixW s q = i := by
    cases hf : (List.range (wn s)).find? (fun i => decide (q < wp s (i + 1))) with
    | none =>
      rw [List.find?_range_eq_none] at hf
      have := hf (wn s - 1) (by omega)
      rw [show wn s - 1 + 1 = wn s from by omega, hwe] at this
      simp at this; omega
    | some i =>
      have hix : ixW s q = i := by unfold ixW; rw [hf]; rfl
      rw [List.find?_range_eq_some] at hf
      obtain ⟨h2, h3, h4⟩ := hf
      refine ⟨i, List.mem_range.1 h3, ?_, of_decide_eq_true h2, hix⟩
      rcases Nat.eq_zero_or_pos i with h | h
      · subst h; rw [wp_zero]; omega
      · have := h4 (i - 1) (by omega)
        rw [show i - 1 + 1 = i from by omega] at this
        simp at this; omega
  obtain ⟨i, _, h2, h3, rfl⟩ := this
  omega

/-- A text begins as its first cluster does. -/
theorem nx_first {s : ByteArray} (h : 0 < s.size) : nxR (pcP s 0).2 = nxR s ∧ nxN (pcP s 0).2 = nxN s := by
  have hn : 0 < ncl s := by rcases Nat.eq_zero_or_pos (ncl s) with h' | h'; exact absurd (ncl_zero.1 h') (by omega); exact h'
  have h1 : 0 < bp s 1 := by have := bp_strict (s := s) (show 0 < 1 by omega) hn; omega
  have h2 := bp_le s 1
  have hz : ((pcP s 0).2).size = bp s 1 := by show (s.extract 0 (bp s 1)).size = _; rw [size_ext h2]; omega
  have hbk : 0 < bk s 1 := by
    rcases Nat.eq_zero_or_pos (bk s 1) with h' | h'
    · unfold bp at h1; rw [h'] at h1; exact absurd h1 (Nat.lt_irrefl 0)
    · exact h'
  have hd := dc_take (s := s) (k := bk s 1) (n := 0) hbk (bk_le s 1)
  have hd : Utf8.decode (pcP s 0).2 0 = Utf8.decode s 0 := hd
  unfold nxR nxN dcR dcN
  rw [if_neg (by omega), if_neg (by omega), if_neg (by omega), if_neg (by omega), hd]
  exact ⟨rfl, rfl⟩
theorem sort_two (c : ByteArray) : 2 ≤ sortC c ↔ ¬ (nxR c = 65533 ∧ nxN c < 2) ∧ (kindR (nxR c) = 3 ∨ kindR (nxR c) = 4 ∨ kindR (nxR c) = 2 ∨ nxR c = 95) := by
  unfold sortC
  constructor
  · intro h
    split at h
    · omega
    · rename_i h0
      refine ⟨h0, ?_⟩
      split at h
      · omega
      · split at h
        · omega
        · split at h
          · omega
          · split at h <;> omega
  · rintro ⟨h0, h⟩
    rw [if_neg h0]
    split
    · omega
    · split
      · omega
      · split
        · omega
        · omega

theorem wordy_ok : sWordy.Ok Tryd.prog 42 := by
  refine wordy_vc ⟨next_ok, ckind_ok, trivial⟩ ?_
  rintro (s : ByteArray) w ⟨hU, hs, h0⟩
  refine ⟨s, rfl, ⟨hU, hs⟩, ?_⟩
  rintro ⟨r, n⟩ w1 ⟨hr, hn, e1⟩
  dsimp only at hr hn ⊢
  refine ⟨_, rfl, trivial, ?_⟩
  rintro k w2 ⟨hk, e2⟩
  refine ⟨_, rfl, ?_, e1.trans e2⟩
  obtain ⟨h1, h2⟩ := nx_first h0
  have hS := sort_two (pcP s 0).2
  rw [h1, h2, ← hr, ← hn, ← hk] at hS
  have hP : 2 ≤ sortC (pcP s 0).2 ↔ 2 ≤ sortC (s.extract (bp s 0) (bp s (0 + 1))) := Iff.rfl
  rw [← decide_eq_decide.2 hP, Bool.eq_iff_iff, decide_eq_true_iff, hS]
  by_cases hb : r = 65533
  · subst hb
    simp only [bne_self_eq_false, cond_false, Bool.and_eq_true, decide_eq_true_eq, Bool.or_eq_true, beq_iff_eq, true_and]
    omega
  · have : (r != (65533 : Int)) = true := by simpa using hb
    rw [this]
    simp only [cond_true, Bool.or_eq_true, beq_iff_eq]
    omega

end Go.Proofs.YthpjkgoahneldaaDoor
end

section
/-
  Chapter 12: the laws WordAt, WordCuts, WordSteps.
-/
namespace Go.Proofs.YthpjkgoahneldaaDoor
open Go Go.RowKit Vc Ut Tb Cl Orb Wd
attribute [local irreducible] sortC betC

set_option maxRecDepth 10000 in
theorem wAt_ok : sWLawSL.Ok Tryd.prog 8 := by
  refine wAt_vc ⟨atW_ok, ratW_ok, isW_ok, risW_ok, nextW_ok, rnextW_ok, prevW_ok, rprevW_ok, aliveW_ok, trivial⟩ ?_
  rintro ⟨s, ad, c, xs⟩ w ⟨hU, hsz, ⟨hl, _⟩, hll⟩
  dsimp only at hU hsz hl hll ⊢
  obtain ⟨a', c', w2, hrun, hko, hm2, _⟩ := (Made.nil w 3 1).pushS (P := Tryd.prog) (ty := 45) (sa := ad) (cx := c) elem64 (by decide) (m := xs.length) (news := xs.map (Value.int .i64)) (by simp) hl (one_ints _ _) (by unfold maxLen; omega) (.inr (by omega))
  simp only [List.nil_append] at hm2
  refine ⟨a', c', w2, hrun, hko, ⟨⟨⟨0, a', c', xs⟩, rfl, by dsimp only; rw [Nat.zero_add], Nat.zero_le _, fun h => absurd h (Nat.lt_irrefl 0), rfl, ?_⟩, ?_⟩, ?_⟩
  · rw [Nat.zero_add] at hm2
    exact hm2
  · rintro _ ⟨j, a, c, ys⟩ w3 ⟨hj, hs2, hyl, hm⟩
    dsimp only at hj hs2 hyl hm ⊢
    have hyb : ys.length ≤ 2000000 := by
      by_cases h0 : j = 0
      · omega
      · have := hs2 (by omega); omega
    have done : ∃ c2 : GWLa, Value.slice a ys.length c = Value.slice c2.a c2.xs.length c2.c ∧ c2.xs.length ≤ 2000000 ∧ Made w w3 3 1 c2.a c2.xs.length (c2.xs.map (Value.int .i64)) c2.c := ⟨⟨0, a, c, ys⟩, rfl, hyb, hm⟩
    refine ⟨inr_i64 (by omega) (by omega), bcase_mk (fun h1 => bcase_mk (fun h2 => ?_) (fun _ => done)) (fun _ => done)⟩
    have h1 := of_decide_eq_true h1
    have h2 := of_decide_eq_true h2
    intro b w4 hn
    obtain ⟨a2, c2, w5, hrun, hko, hm5, _⟩ := hm.pushN (P := Tryd.prog) (ty := 45) elem64 (by decide) (m := 1) (news := [.int .i64 ((j : Int) - 1)]) hn rfl (by simp [Value.oneCell']) (by unfold maxLen; omega) (.inr (by omega))
    refine ⟨a2, c2, w5, hrun, hko, inr_i64 (by omega) (by omega), ⟨j + 1, a2, c2, ys ++ [(j : Int) - 1]⟩, by dsimp only; congr 1; omega, by dsimp only; rw [List.length_append]; rfl, ⟨by dsimp only; omega, fun _ => by omega, by dsimp only; rw [List.length_append, hyl]; rfl, ?_⟩, by dsimp only; omega⟩
    dsimp only
    rw [List.length_append, List.map_append]
    exact hm5
  · rintro _ ⟨_, a, c, ys⟩ w3 ⟨hyb, hm⟩
    dsimp only at hyb hm ⊢
    refine ⟨⟨0, rfl, Nat.zero_le _, Ext.refl _⟩, ?_⟩
    rintro _ i w4 ⟨hi, e34⟩
    have e4 := hm.ext.trans e34
    refine bcase_mk (fun h => ?_) (fun _ => ⟨(), rfl, hU.ext e4, fun _ w5 e5 => yes_ext (e4.trans e5)⟩)
    simp only [Bool.and_eq_true, decide_eq_true_eq] at h
    have hlt : i < ys.length := by omega
    have hc4 := hm.row.cells.ext e34
    refine ⟨i, rfl, hlt, hc4.int hlt fun b o hb => ⟨_, hb, (s, _), rfl, ⟨hU.ext e4, by dsimp only; omega⟩, ?_⟩⟩
    rintro x5 w5 ⟨hx5, e45⟩
    refine ⟨i, rfl, hlt, (hc4.ext e45).int hlt fun b o hb => ⟨_, hb, (s, _), rfl, ⟨hU.ext (e4.trans e45), by dsimp only; omega⟩, ?_⟩⟩
    rintro x6 w6 ⟨hx6, e56⟩
    subst hx5
    subst hx6
    intro w7 hd
    have e46 := e45.trans e56
    have e47 := e46.trans hd.ext
    refine bcase_mk (fun h => by simp at h) (fun _ => bcase_mk (fun h => by simp at h) (fun _ => ?_))
    refine ⟨i, rfl, hlt, (hc4.ext e46).int hlt fun b o hb => ⟨_, hb, i, rfl, hlt, (hc4.ext e46).int hlt fun b2 o2 hb2 => ⟨_, hb2, (s, _), rfl, ⟨hU.ext (e4.trans e47), by dsimp only; omega⟩, ?_⟩⟩⟩
    rintro x8 w8 ⟨hx8, e78⟩
    refine ⟨e78, (s, _), rfl, ⟨hU.ext ((e4.trans e47).trans e78), by dsimp only; omega⟩, ?_⟩
    rintro x9 w9 ⟨hx9, e89⟩
    refine bcase_mk (fun h => by rw [hx8, hx9] at h; simp at h) (fun _ => ?_)
    have e49 := (e47.trans e78).trans e89
    refine ⟨i, rfl, hlt, (hc4.ext e49).int hlt fun b o hb => ⟨_, hb, i, rfl, hlt, (hc4.ext e49).int hlt fun b2 o2 hb2 => ⟨_, hb2, (s, _), rfl, ⟨hU.ext (e4.trans e49), by dsimp only; omega⟩, ?_⟩⟩⟩
    rintro x10 w10 ⟨hx10, e9a⟩
    refine ⟨e9a, (s, _), rfl, ⟨hU.ext ((e4.trans e49).trans e9a), by dsimp only; omega⟩, ?_⟩
    rintro x11 w11 ⟨hx11, eab⟩
    refine bcase_mk (fun h => by rw [hx10, hx11] at h; simp at h) (fun _ => ?_)
    have e4b := (e49.trans e9a).trans eab
    refine ⟨i, rfl, hlt, (hc4.ext e4b).int hlt fun b o hb => ⟨_, hb, i, rfl, hlt, (hc4.ext e4b).int hlt fun b2 o2 hb2 => ⟨_, hb2, (s, _), rfl, ⟨hU.ext (e4.trans e4b), by dsimp only; omega⟩, ?_⟩⟩⟩
    rintro x12 w12 ⟨hx12, ebc⟩
    refine ⟨ebc, (s, _), rfl, ⟨hU.ext ((e4.trans e4b).trans ebc), by dsimp only; omega⟩, ?_⟩
    rintro x13 w13 ⟨hx13, ecd⟩
    refine bcase_mk (fun h => by rw [hx12, hx13] at h; simp at h) (fun _ => ⟨inr_i64 (by omega) (by omega), i + 1, by simp, ⟨hlt, e34.trans ((e4b.trans ebc).trans ecd)⟩, by omega⟩)

theorem wd_cell {w : World} {s : ByteArray} {a : Option Addr} {i j : Nat} {v : Value} {K : Nat → Nat → Prop} (hc : CellsAt w a ((wdL s).flatMap encPc)) (h : i < wn s) (hj : j < 2) (hv : (encPc (wdP s i))[j]? = some v) (hK : ∀ b o, w.cell? ⟨b, o + i * 2 + j, none⟩ = some v → K b o) : ptrE a K :=
  hc.fld (s := 2) (wd_atF h hj hv) hK
theorem wd_le {s : ByteArray} {n : Nat} (h : s.size ≤ n) : ∀ p ∈ wdL s, p.1 ≤ n := by
  intro p hp
  unfold wdL at hp
  obtain ⟨i, _, rfl⟩ := List.mem_map.1 hp
  have := wp_le s i
  show wp s i ≤ n
  omega
theorem wp_bp (s : ByteArray) (i : Nat) : wp s i = bp s (wb s i) := rfl

set_option maxHeartbeats 2000000 in
set_option maxRecDepth 10000 in
theorem wCut_ok : sWLawSI.Ok Tryd.prog 11 := by
  refine wCut_vc ⟨pcsW_ok, cis_ok, isW_ok, aliveW_ok, sameW_ok, trivial⟩ ?_
  rintro ⟨s, wh⟩ w ⟨hU, hsz, hw1, hw2⟩
  dsimp only at hU hsz hw1 hw2 ⊢
  have hncl := ncl_le s
  have hwn := wn_le s
  have hwl := wd_len s
  refine ⟨s, rfl, ⟨hU, by omega⟩, ?_⟩
  rintro ⟨la, ln, lc⟩ w1 ⟨hln, hml⟩
  dsimp only at hln hml ⊢
  subst hln
  have e1 := hml.ext
  have hcl1 := hml.row.cells
  refine ⟨⟨0, rfl, rfl, Nat.zero_le _, Ext.refl _⟩, ?_⟩
  rintro _ i w2 ⟨hi, e12⟩
  have e2 := e1.trans e12
  have hcl := hcl1.ext e12
  refine bcase_mk (fun h => ?_) (fun h => ?_)
  · have hlt : i < wn s := by have := of_decide_eq_true h; omega
    have hst := wp_step hlt
    have hps := wd_sz (s := s) (k := i)
    have hble := wp_le s (i + 1)
    have next : ∀ {V : World}, Ext w2 V → ∃ k2 : Nat, (i : Int) = (k2 : Int) ∧ k2 < wn s ∧ ptrE la fun b2 o2 => ∃ s1 : ByteArray, V.cell? ⟨b2, o2 + k2 * 2 + 1, none⟩ = some (.string s1) ∧ InR .i64 ((wp s i : Int) + (s1.size : Int)) ∧ InR .i64 ((i : Int) + 1) ∧ ∃ y : Nat, Value.int .i64 ((i : Int) + 1) = Value.int .i64 (y : Int) ∧ Value.int .i64 ((wp s i : Int) + (s1.size : Int)) = Value.int .i64 (wp s y : Int) ∧ (y ≤ wn s ∧ Ext w1 V) ∧ wn s - y < wn s - i := fun eV => by
      refine ⟨i, rfl, hlt, wd_cell (hcl.ext eV) hlt (j := 1) (by decide) rfl fun b o hb => ⟨_, hb, ?_⟩⟩
      rw [hps, show (wp s i : Int) + ((wp s (i + 1) : Int) - wp s i) = (wp s (i + 1) : Int) from by omega]
      exact ⟨inr_i64 (by omega) (by omega), inr_i64 (by omega) (by omega), i + 1, by simp, rfl, ⟨hlt, e12.trans eV⟩, by omega⟩
    refine ⟨i, rfl, hlt, wd_cell hcl hlt (j := 0) (by decide) rfl fun b o hb => ⟨_, hb, bcase_mk (fun h => by simp [wdP] at h) (fun _ => ?_)⟩⟩
    refine ⟨i, rfl, hlt, wd_cell hcl hlt (j := 1) (by decide) rfl fun b o hb => ⟨_, hb, bcase_mk (fun h => ?_) (fun _ => ?_)⟩⟩
    · rw [str_nil] at h
      have := of_decide_eq_true h
      omega
    refine bcase_mk (fun _ => ?_) (fun _ => next (Ext.refl _))
    refine ⟨(s, _), rfl, ⟨hU.ext e2, by dsimp only; omega⟩, ?_⟩
    rintro x3 w3 ⟨hx3, e23⟩
    have hisb : isB s (wp s i : Int) = true := isB_iff.2 ⟨wb s i, wb_le s i, rfl⟩
    refine bcase_mk (fun h => by rw [hx3, hisb] at h; simp at h) (fun _ => ?_)
    refine ⟨(s, _), rfl, ⟨hU.ext (e2.trans e23), by dsimp only; omega⟩, ?_⟩
    rintro x4 w4 ⟨hx4, e34⟩
    have hisw : isW s (wp s i : Int) = true := isW_iff.2 ⟨i, hi, rfl⟩
    exact bcase_mk (fun h => by rw [hx4, hisw] at h; simp at h) (fun _ => next (e23.trans e34))
  · have hie : i = wn s := by have := of_decide_eq_false h; omega
    subst hie
    have hbe := wp_end s
    refine bcase_mk (fun h => by rw [hbe] at h; simp at h) (fun _ => ?_)
    refine ⟨(), rfl, hU.ext e2, ?_⟩
    rintro _ w3 e23
    have e3 := e2.trans e23
    have hwr : IntKind.i64.wrap ((wn s : Int) + 1) = (wn s : Int) + 1 := (inr_i64 (by omega) (by omega)).wrap
    rw [hwr]
    obtain ⟨hm1, hm2⟩ := mod_nat (a := wh) (n := wn s)
    refine ⟨by omega, bcase_mk (fun h => ?_) (fun h => ?_), ?_⟩
    · have h := of_decide_eq_true h
      exact ⟨inr_i64 (by omega) (by omega), inr_i64 (by omega) (by omega), (wh.tmod ((wn s : Int) + 1) + (wn s : Int) + 1).toNat, by congr 1; omega, by omega, Ext.refl _⟩
    · have h := of_decide_eq_false h
      exact ⟨(wh.tmod ((wn s : Int) + 1)).toNat, by congr 1; omega, by omega, Ext.refl _⟩
    rintro _ n w9 ⟨hn, e89⟩
    have e9 := e3.trans e89
    have hcl9 := hcl.ext (e23.trans e89)
    refine ⟨bcase_mk (fun h => ?_) (fun h => ⟨n, ?_, rfl, Ext.refl _⟩), ?_⟩
    · have hlt : n < wn s := by have := of_decide_eq_true h; omega
      exact ⟨n, rfl, hlt, wd_cell hcl9 hlt (j := 0) (by decide) rfl fun b o hb => ⟨_, hb, n, rfl, rfl, Ext.refl _⟩⟩
    · have : n = wn s := by have := of_decide_eq_false h; omega
      rw [this, hbe]
    rintro _ n' w10 ⟨hn', e910⟩
    have : n' = n := by omega
    subst this
    intro w11 hd
    have e11 := (e9.trans e910).trans hd.ext
    have hble := wp_le s n'
    refine ⟨(s, _), rfl, ⟨hU.ext e11, by dsimp only; omega⟩, ?_⟩
    rintro x5 w12 ⟨hx5, e1112⟩
    have hisw : isW s (wp s n' : Int) = true := isW_iff.2 ⟨n', hn, rfl⟩
    refine bcase_mk (fun _ => ?_) (fun h => by rw [hx5, hisw] at h; simp at h)
    have e12' := e11.trans e1112
    have hlc := hml.row.le
    have hz1 : (s.extract 0 (wp s n')).size = wp s n' := by rw [size_ext hble]; omega
    have hz2 : (s.extract (wp s n') s.size).size = s.size - wp s n' := size_ext (Nat.le_refl _)
    have ht1 := wdL_take hn
    have ht2 := wdL_drop hn
    refine ⟨n', rfl, by omega, wp s n', rfl, Nat.zero_le _, hble, _, rfl, ⟨hU.ext e12', by omega⟩, ?_⟩
    rintro ⟨aa, an, ac⟩ w13 ⟨han, hma⟩
    dsimp only at han hma ⊢
    subst han
    have e13 := e12'.trans hma.ext
    have E913 : Ext w9 w13 := (e910.trans hd.ext).trans (e1112.trans hma.ext)
    have hcl13 := hcl9.ext E913
    refine ⟨hma.ext, ⟨la, lc, (wdL s).take n', aa, ac, wdL (s.extract 0 (wp s n')), 0⟩, ?_, ⟨?_, hma.row.cells, by dsimp only; rw [List.length_take]; omega, Nat.zero_le _, wd_le (by omega)⟩, ?_⟩
    · dsimp only; rw [List.length_take, hwl, Nat.min_eq_left hn, wd_len]; rfl
    · have h1 := hcl13.take (n' * 2)
      have h2 : ((wdL s).flatMap encPc).take (n' * 2) = ((wdL s).take n').flatMap encPc := flat_take (s := 2) (fun _ => rfl) _ _
      rw [h2] at h1; exact h1
    rintro x6 w14 ⟨hx6, e1314⟩
    dsimp only at hx6
    rw [upP_zero, ht1] at hx6
    refine bcase_mk (fun _ => ?_) (fun h => by rw [hx6] at h; simp at h)
    have e14 := e13.trans e1314
    refine ⟨n', rfl, hn, fun ad' hsl => ⟨wp s n', rfl, hble, Nat.le_refl _, _, rfl, ⟨hU.ext e14, by omega⟩, ?_⟩⟩
    rintro ⟨ba, bn, bc⟩ w15 ⟨hbn, hmb⟩
    dsimp only at hbn hmb ⊢
    subst hbn
    have e15 := e14.trans hmb.ext
    refine ⟨hmb.ext, ⟨ad', lc - n', (wdL s).drop n', ba, bc, wdL (s.extract (wp s n') s.size), wp s n'⟩, ?_, ⟨?_, hmb.row.cells, by dsimp only; rw [List.length_drop]; omega, by dsimp only; omega, wd_le (by omega)⟩, ?_⟩
    · dsimp only; rw [List.length_drop, hwl, wd_len]
    · have h1 := ((hcl13.ext e1314).ext hmb.ext).drop hsl (by omega) (by rw [flat_len' (s := 2) (fun _ => rfl), hwl]; omega)
      rw [flat_drop (s := 2) (fun _ => rfl)] at h1; exact h1
    rintro x7 w16 ⟨hx7, e1516⟩
    dsimp only at hx7
    refine ⟨(), congrArg Value.bool (hx7.trans (decide_eq_true ?_)), e15.trans e1516⟩
    rw [ht2]; rfl

end Go.Proofs.YthpjkgoahneldaaDoor
end

section
/-
  From a law's function, shown to return true and to turn nothing, to its row: what is asked of readings.
-/
namespace Go.Proofs.YthpjkgoahneldaaDoor.Lw
open Go Go.RowKit Go.ChangeShapes Go.WideShapes Go.ChangeAt Vc

section
variable {H : Type} {enc : TypeId × Value → H} {P : Program}

theorem trodAll_stays (hl : laidOutB P = true) {W W' : World} (hx : Below W.heap.size W W') {sp : Nat → Bool} : ∀ {ts : List TypeId} {vs : List Value} {ds : List (DataW H)} {p : List MemPlace},
    ts.all (fun t => P.readableRec t && decide (t < P.types.size)) = true → DataW.TrodAll enc P W 0 (fun _ => true) true ts vs ds p → (∀ x ∈ p, x.block < W.heap.size) → (∀ x ∈ p, sp x.block = true) → DataW.TrodAll enc P W' 0 sp true ts vs ds p
  | [], vs, ds, p, _, h, _, _ => by
    obtain ⟨rfl, rfl, rfl⟩ := trodAll_nil h
    exact trodAll_mk0
  | t :: ts, vs, ds, p, hp, h, hlt, hs => by
    obtain ⟨v, vs', d, ds', a, b, rfl, rfl, rfl, h1, h2⟩ := trodAll_cons h
    simp only [List.all_cons, Bool.and_eq_true, decide_eq_true_eq] at hp
    have h3 := WideElems.Trod_stays (sp' := sp) hl hp.1.1 hp.1.2 h1 (fun x hx' => hx.same (hlt x (by simp [hx']))) (fun x hx' => hs x (by simp [hx']))
    exact ⟨a, b, h3, trodAll_stays hl hx (by simpa using hp.2) h2 (fun x hx' => hlt x (by simp [hx'])) (fun x hx' => hs x (by simp [hx'])), rfl⟩

/-- What a law's row asks behind the call. -/
theorem post_law {f : Func} {s : ChangeSpec} {apart fresh handsOn again : Bool} {W W' : World} {args : Array Value} {ds gs : List (DataW H)} {before : List MemPlace} {tb : TypeId} (hW : DataW.Whole enc P f.params.toList s.vars apart W args.toList ds gs before) (hvars : s.vars = [])
    (hfn : s.fn H ds = { results := [.lit (.bool true)], args := ds }) (hres : f.resultTypes = #[tb]) (htb : P.underlying tb = some .bool) (hl : laidOutB P = true) (hp : f.params.toList.all (fun t => P.readableRec t && decide (t < P.types.size)) = true) (hx : Below W.heap.size W W') :
    s.post enc P f apart fresh handsOn again W args (.bool true) W' := by
  have hW0 := hW
  obtain ⟨pa, pv, hA, hV, rfl, hz, hn⟩ := hW
  rw [hvars] at hV
  obtain ⟨rfl, rfl⟩ := trodVars_none hV
  simp only [List.append_nil] at hW0 hz hn
  have hlt : ∀ x ∈ pa, x.block < W.heap.size := fun x hx => by simpa using hW0.lt x hx
  have hr : ∀ (b : Nat) (sp : Nat → Bool) (hd : Bool), DataW.TrodAll enc P W' b sp hd f.resultTypes.toList ((Value.bool true).resultList f.resultTypes.size) (s.fn H (ds ++ [])).results [] := by
    intro b sp hd
    rw [List.append_nil, hfn, hres]
    exact trodAll_cons_mk (shut_bool htb _) trodAll_mk0
  have ha : ∀ sp : Nat → Bool, (∀ p ∈ pa, sp p.block = true) → DataW.TrodAll enc P W' 0 sp true f.params.toList args.toList (s.fn H (ds ++ [])).args pa := by
    intro sp hs
    rw [List.append_nil, hfn]
    exact trodAll_stays hl hx hp hA hlt hs
  have hv : ∀ sp : Nat → Bool, DataW.TrodVars enc P W' sp s.vars (s.fn H (ds ++ [])).vars [] := by
    intro sp
    rw [List.append_nil, hfn, hvars]
    rfl
  refine ⟨ds, [], pa, [], pa, [], hW0, hr _ _ _, ha _ (fun p hp => by simpa using hlt p hp), hv _, World.keptBut_mono (fun p hp => ⟨hp, .inr (.inl hp)⟩) (hx.frame _), fun _ => ?_⟩
  refine ⟨ok_one hres rfl (okWide_bool_mk htb _), _, _, ([] ++ pa) ++ [], ⟨[] ++ pa, [], trodAll_append (ha _ (fun _ _ => rfl)) (hr _ _ _), hv _, rfl, ?_, ?_⟩, ?_⟩
  · intro b off hp
    have hp' : MemPlace.cell b off ∈ pa := by simpa using hp
    rw [hx.frozen (hlt _ hp')]
    exact hz b off hp'
  · intro ha'
    have := hn ha'
    simpa using this
  · intro p hp _
    simpa using hp

/-- A law's call, as the engine shows it. -/
theorem law_calls {f : FuncId} {fn : Func} {s : ChangeSpec} {apart fresh handsOn again : Bool} {W : World} {args : Array Value} {ds gs : List (DataW H)} {before : List MemPlace} {tb : TypeId} (hW : DataW.Whole enc P fn.params.toList s.vars apart W args.toList ds gs before) (hvars : s.vars = [])
    (hfn : s.fn H ds = { results := [.lit (.bool true)], args := ds }) (hres : fn.resultTypes = #[tb]) (htb : P.underlying tb = some .bool) (hl : laidOutB P = true) (hp : fn.params.toList.all (fun t => P.readableRec t && decide (t < P.types.size)) = true)
    (h : Calls P f args W fun e W' => e = .returned (.bool true) ∧ Below W.heap.size W W') :
    Calls P f args W fun e W' => ∃ v, e = .returned v ∧ s.post enc P fn apart fresh handsOn again W args v W' :=
  h.mono fun e W' ⟨he, hx⟩ => ⟨_, he, post_law hW hvars hfn hres htb hl hp hx⟩

/-- A slice of numbers that came in. -/
theorem ints_in {W : World} {base b0 : Nat} {t e : TypeId} {k : IntKind} {v : Value} {d : DataW H} {p : List MemPlace} (ht : P.underlying t = some (.slice e)) (he : P.underlying e = some (.int k)) (hc : P.cellsOf e = 1) (hval : Value.okWide P W .any b0 t v)
    (h : DataW.Trod enc P W base (fun _ => true) true t v d p) : ∃ (ad : Option Addr) (c : Nat) (xs : List Int) (more : Nat), v = .slice ad xs.length c ∧ CellsAt W ad (xs.map (Value.int k)) ∧ (∀ x ∈ xs, (Lit.int k x).wf = true) ∧
      ((d = .nil ∧ xs = []) ∨ ∃ elems spare, d = .slice elems spare ∧ elems.length = xs.length) := by
  obtain ⟨fuel, hf⟩ := h
  rcases open_ints ht he hc hf with ⟨h1, h2⟩ | ⟨a, len, cap, zs, h1, h2, h3, h4, h5, h6, h7, h8⟩
  · refine ⟨none, 0, [], 0, ?_, CellsAt.nil _ _, by simp, .inl ⟨?_, rfl⟩⟩
    · cases v <;> simp_all [Value.cells]
      rename_i cs
      simp only [Value.okWide, ht] at hval
      simp [Cell.okWide, Cell.ok, ht] at hval
    · have := congrArg (fun x => x.1) h2; exact this
  · have hv : v = .slice (some a) len cap := by
      cases v <;> simp_all [Value.cells]
      rename_i cs
      simp only [Value.okWide, ht] at hval
      simp [Cell.okWide, Cell.ok, ht] at hval
    simp only [if_true] at h5
    have hlen : (zs.take len).length = len := by rw [List.length_take]; omega
    refine ⟨some a, cap, zs.take len, 0, by rw [hlen]; exact hv, ?_, fun x hx => h8 x (List.mem_of_mem_take hx), .inr ⟨lits k (zs.take len), lits k (zs.drop len), ?_, by simp [lits]⟩⟩
    · by_cases hz : zs.length = 0
      · left
        have : zs = [] := List.eq_nil_of_length_eq_zero hz
        simp [this]
      · have h0 := h7 0 (by omega)
        obtain ⟨b, o, sp⟩ := a
        have hsp : sp = none := by
          cases sp with
          | none => rfl
          | some q =>
            simp only [Addr.add, if_true, World.cell?] at h0
            split at h0 <;> simp at h0
        subst hsp
        refine .inr ⟨b, o, rfl, fun j u hj => ?_⟩
        rw [List.getElem?_map] at hj
        obtain ⟨x, hx, rfl⟩ := Option.map_eq_some_iff.1 hj
        rw [List.getElem?_take] at hx
        split at hx
        · have hj2 : j < zs.length := (List.getElem?_eq_some_iff.1 hx).1
          have := h7 j hj2
          rw [add_lit] at this
          rw [this, List.getD_eq_getElem?_getD, hx]
          rfl
        · cases hx
    · exact congrArg (fun x => x.1) h6
end

/-- One sized slice of numbers. -/
theorem reach_le {n b : Nat} (h : n * b ≤ reachBytes) : n * b ≤ 140737488351232 := h

end Go.Proofs.YthpjkgoahneldaaDoor.Lw
end
