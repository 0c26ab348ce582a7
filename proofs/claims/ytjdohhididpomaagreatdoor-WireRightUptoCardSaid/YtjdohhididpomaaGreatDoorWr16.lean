/-
  Texts joined by program: WkXa, WkXb, Gs, WkXd, WkXe, SpXc.
-/
import Derived.Test.YtjdohhididpomaaGreatDoorWr08
import Derived.Test.YtjdohhididpomaaGreatDoorWr13
import Derived.Test.YtjdohhididpomaaGreatDoorWr14
import Derived.Test.YtjdohhididpomaaGreatDoorWr15
import Derived.Test.YtjdohhididpomaaGreatDoorWr10
import Derived.Lib.AppendStr
import Derived.Test.YtjdohhididpomaaGreatDoorWr07
import Derived.Lib.ItoaLen
import Derived.Test.YtjdohhididpomaaGreatDoorWr06
set_option linter.unusedVariables false
set_option linter.unusedSimpArgs false

namespace Go.Proofs.YtjdohhididpomaaGreatDoor
section
open Go Go.RowKit Vc Ut Tb Cl
theorem UD.ext {w w' : World} (h : UD w) (hx : Ext w w') : UD w' := ⟨h.1.ext hx, h.2.ext hx⟩
theorem str_empty {a : ByteArray} : (a.toList == (ByteArray.mk #[]).toList) = decide (a.size = 0) := by
  rw [str_eq, Bool.eq_iff_iff, decide_eq_true_eq, decide_eq_true_eq]
  constructor
  · rintro rfl; rfl
  · intro h
    obtain ⟨⟨l⟩⟩ := a
    have hl : l.length = 0 := h
    have hl : l = [] := List.eq_nil_of_length_eq_zero hl
    subst hl; rfl
theorem text_any {w w1 : World} {c : Ce} {b : Nat} {t : TypeId} (hn : New w (.cells #[.string c.t, .int .i8 c.p, .int .i64 c.a, .int .i64 c.n, .bool c.r, .int .u16 c.st] t) b w1) :
    ∃ n : Int, w1.cell? ⟨b, 1, none⟩ = some (.int .i8 n) ∧ bcase (n == 0)
      (∃ s : ByteArray, w1.cell? ⟨b, 0, none⟩ = some (.string s) ∧ bcase (s.toList == (ByteArray.mk #[]).toList) (∃ x : ByteArray, Value.string (ByteArray.mk #[(32 : UInt8)]) = Value.string x ∧ x = txC c ∧ Ext w w1)
        (∃ s1 : ByteArray, w1.cell? ⟨b, 0, none⟩ = some (.string s1) ∧ ∃ x : ByteArray, Value.string s1 = Value.string x ∧ x = txC c ∧ Ext w w1))
      (∃ s : ByteArray, w1.cell? ⟨b, 0, none⟩ = some (.string s) ∧ ∃ x : ByteArray, Value.string s = Value.string x ∧ x = txC c ∧ Ext w w1) := by
  have hc := box_ce hn.heap
  refine ⟨_, hc.2.1, bcase_mk (fun h => ⟨_, hc.1, bcase_mk (fun h1 => ⟨_, rfl, ?_, hn.ext⟩) (fun h1 => ⟨_, hc.1, _, rfl, ?_, hn.ext⟩)⟩) (fun h => ⟨_, hc.1, _, rfl, ?_, hn.ext⟩)⟩
  · rw [str_empty] at h1
    unfold txC; rw [if_pos ⟨by simpa using h, of_decide_eq_true h1⟩]
  · rw [str_empty] at h1
    unfold txC; rw [if_neg (fun hh => of_decide_eq_false h1 hh.2)]
  · unfold txC; rw [if_neg (fun hh => by simp [hh.1] at h)]
theorem textW_ok : sTextW.Ok Tryz.prog 26 := by
  refine textW_vc trivial ?_
  rintro c w _ b w1 hn
  exact text_any hn
theorem alikeW_ok : sAlikeW.Ok Tryz.prog 30 := by
  refine alikeW_vc ⟨textW_ok, trivial⟩ ?_
  rintro ⟨c, d⟩ w _ b w1 hn1 b1 w2 hn2 w3 hd
  dsimp only
  have hc := (box_ce hn1.heap).ext hn2.ext
  have hc2 := box_ce hn2.heap
  have e3 : Ext w w3 := Ext.trans (Ext.trans hn1.ext hn2.ext) hd.ext
  refine ⟨_, hc.2.1, _, hc2.2.1, bcase_mk (fun h1 => ⟨_, hc.2.2.2.2.2, _, hc2.2.2.2.2.2, bcase_mk (fun h2 => ?_) (fun h2 => ⟨_, rfl, ?_, e3⟩)⟩) (fun h1 => ⟨_, rfl, ?_, e3⟩)⟩
  · refine hc.load (hc2.load ⟨c, rfl, trivial, ?_⟩)
    rintro x w4 ⟨rfl, e34⟩
    refine ⟨e34, d, rfl, trivial, ?_⟩
    rintro y w5 ⟨rfl, e45⟩
    refine ⟨_, rfl, ?_, Ext.trans e3 (Ext.trans e34 e45)⟩
    rw [str_eq]
    have h2 : (c.st == d.st) = true := by dsimp only at h2; rw [beq_iff_eq] at h2 ⊢; omega
    unfold alikeB; rw [h1, h2]; rfl
  · have h2 : (c.st == d.st) = false := by dsimp only at h2; rw [beq_eq_false_iff_ne] at h2 ⊢; omega
    unfold alikeB; rw [h2]; simp
  · unfold alikeB; rw [h1]; rfl
theorem plainW_ok : sPlainW.Ok Tryz.prog 25 := by
  refine plainW_vc ⟨valid_ok, ccount_ok, textp_ok, trivial⟩ ?_
  rintro ⟨s, wd⟩ w ⟨hU, hs⟩
  dsimp only at hs ⊢
  refine ⟨s, rfl, ⟨hU.1, hs⟩, ?_⟩
  rintro v w1 ⟨hv, e1⟩
  have hU1 := hU.ext e1
  refine bcase_mk (fun h => ⟨0, rfl, ?_, e1⟩) (fun h => ⟨s, rfl, ⟨hU1.1, hs⟩, ?_⟩)
  · unfold plN; rw [if_neg (fun hh => by rw [hv, hh.1] at h; cases h)]
  rintro n w2 ⟨hn, e2⟩
  have hU2 := hU1.ext e2
  have e02 := Ext.trans e1 e2
  refine bcase_mk (fun h2 => ⟨0, rfl, ?_, e02⟩) (fun h2 => ⟨⟨s, 0, lkW wd⟩, rfl, ⟨hU2.1, hU2.2, hs⟩, ?_⟩)
  · unfold plN; rw [if_neg (fun hh => by rw [bne_iff_ne] at h2; rw [hn, hh.2.1] at h2; exact h2 rfl)]
  rintro x w3 ⟨hx, e3⟩
  have e03 := Ext.trans e02 e3
  dsimp only at hx
  refine bcase_mk (fun h3 => ⟨0, rfl, ?_, e03⟩) (fun h3 => ⟨_, rfl, ?_, e03⟩)
  · unfold plN; rw [if_neg (fun hh => ?_)]
    rw [str_eq, hx, hh.2.2.1, decide_eq_true rfl] at h3
    have := hh.2.2.2
    simp only [Bool.not_true, Bool.false_or, decide_eq_true_eq] at h3
    omega
  · rw [Bool.or_eq_false_iff, str_eq] at h3
    have h4 := of_decide_eq_false h3.2
    have h5 : x.1 = s := by have := h3.1; simpa using this
    have h6 : n = 1 := by rw [bne_eq_false_iff_eq] at h2; omega
    have h7 : v = true := by simpa using h
    unfold plN; rw [← hv, ← hn, ← hx, if_pos ⟨h7, h6, h5, by omega⟩]
theorem sizeW_ok : sSizeW.Ok Tryz.prog 24 := by
  refine sizeW_vc trivial ?_
  rintro ⟨a, b⟩ w _
  refine ⟨_, rfl, ?_, Ext.refl _⟩
  unfold sizeB
  rw [Bool.eq_iff_iff]
  simp only [ge_iff_le, Bool.and_eq_true, decide_eq_true_eq]
structure GrB (w0 : World) (b : Nat) (ad : Option Addr) (c : Nat) (g : Gr) : Prop where
  w : w0.cell? ⟨b, 0, none⟩ = some (.int .i64 g.w)
  h : w0.cell? ⟨b, 1, none⟩ = some (.int .i64 g.h)
  cs : w0.cell? ⟨b, 2, none⟩ = some (.slice ad g.cs.length c)
  x : w0.cell? ⟨b, 3, none⟩ = some (.int .i64 g.x)
  y : w0.cell? ⟨b, 4, none⟩ = some (.int .i64 g.y)
theorem GrB.ext {w w' : World} {b c : Nat} {ad : Option Addr} {g : Gr} (h : GrB w b ad c g) (hx : Ext w w') : GrB w' b ad c g := ⟨hx.cell h.w, hx.cell h.h, hx.cell h.cs, hx.cell h.x, hx.cell h.y⟩
theorem GrB.load {w : World} {b c : Nat} {ad : Option Addr} {g : Gr} (h : GrB w b ad c g) {K : Int → Int → Option Addr → Nat → Nat → Int → Int → Prop} (hk : K g.w g.h ad g.cs.length c g.x g.y) :
    ∃ n, w.cell? ⟨b, 0, none⟩ = some (.int .i64 n) ∧ ∃ n1, w.cell? ⟨b, 1, none⟩ = some (.int .i64 n1) ∧ ∃ a m k, w.cell? ⟨b, 2, none⟩ = some (.slice a m k) ∧ ∃ n2, w.cell? ⟨b, 3, none⟩ = some (.int .i64 n2) ∧ ∃ n3, w.cell? ⟨b, 4, none⟩ = some (.int .i64 n3) ∧ K n n1 a m k n2 n3 :=
  ⟨_, h.w, _, h.h, _, _, _, h.cs, _, h.x, _, h.y, hk⟩
theorem gr_box {w : World} {b c : Nat} {ad : Option Addr} {g : Gr} {t : TypeId} (h : w.heap[b]? = some (.cells #[.int .i64 g.w, .int .i64 g.h, .slice ad g.cs.length c, .int .i64 g.x, .int .i64 g.y] t)) : GrB w b ad c g := by
  refine ⟨?_, ?_, ?_, ?_, ?_⟩ <;> (rw [cell_of_heap h]; rfl)
theorem bulk_cons (c : Ce) (l : List Ce) : bulkC (c :: l) = 1 + c.t.size + bulkC l := by simp [bulkC]
theorem bulk_at : ∀ (l : List Ce) {i : Nat}, i < l.length → 1 + (ceG l i).t.size ≤ bulkC l
  | [], i, h => by simp at h
  | c :: l, 0, _ => by rw [bulk_cons]; show 1 + c.t.size ≤ _; omega
  | c :: l, i + 1, h => by have := bulk_at l (i := i) (by simpa using h); rw [bulk_cons]; show 1 + (ceG l i).t.size ≤ _; omega
theorem bulk_len : ∀ l : List Ce, l.length ≤ bulkC l
  | [] => Nat.zero_le _
  | c :: l => by have := bulk_len l; rw [bulk_cons, List.length_cons]; omega
set_option maxRecDepth 4000 in
theorem rightW_ok : sRightW.Ok Tryz.prog 9 := by
  refine rightW_vc ⟨sizeW_ok, textW_ok, plainW_ok, trivial⟩ ?_
  rintro ⟨ad, c, g, wd⟩ w ⟨hU, hc, hbk⟩ b w1 hn
  dsimp only at hU hc hbk hn ⊢
  have hg1 := gr_box hn.heap
  refine ⟨_, hg1.w, _, hg1.h, (g.w, g.h), rfl, trivial, ?_⟩
  rintro x w2 ⟨hx, e12⟩
  dsimp only at hx
  have e02 := Ext.trans hn.ext e12
  have hg2 := hg1.ext e12
  refine bcase_mk (fun h => ⟨_, rfl, ?_, e02⟩) (fun h => ?_)
  · unfold rightB; rw [← hx]; rw [show x = false by simpa using h]; rfl
  have hx1 : sizeB g.w g.h = true := by rw [← hx]; simpa using h
  have hsz : 0 ≤ g.w ∧ g.w ≤ 1024 ∧ 0 ≤ g.h ∧ g.h ≤ 1024 := of_decide_eq_true hx1
  obtain ⟨s1, s2, s3, s4⟩ := hsz
  have hwh : 0 ≤ g.w * g.h ∧ g.w * g.h ≤ 1024 * 1024 := ⟨Int.mul_nonneg s1 s3, Int.le_trans (Int.mul_le_mul_of_nonneg_right s2 s3) (Int.mul_le_mul_of_nonneg_left s4 (by omega))⟩
  refine ⟨_, _, _, hg2.cs, _, hg2.w, _, hg2.h, inr_i64 (by omega) (by omega), bcase_mk (fun h => ⟨_, rfl, ?_, e02⟩) (fun h => ?_)⟩
  · unfold rightB; rw [show ((g.cs.length : Int) == g.w * g.h) = false from by rw [beq_eq_false_iff_ne]; exact bne_iff_ne.1 h]; simp
  have hlen : (g.cs.length : Int) = g.w * g.h := bne_eq_false_iff_eq.1 h
  clear h
  refine ⟨⟨_, hg2.x, bcase_mk (fun h => ⟨_, hg2.y, (), ?_, rfl⟩) (fun h => ⟨(), ?_, rfl⟩)⟩, ?_⟩
  · rw [h]; rfl
  · rw [h]; rfl
  intro _ _ w' hw'; replace hw' := hw'.symm; subst hw'
  refine ⟨?_, ?_⟩
  · refine bcase_mk (fun h0 => ?_) (fun h0 => ⟨(), rfl, ?_⟩)
    · have h0 : (g.x == -1 && g.y == -1) = false := by rw [Bool.not_eq_true'] at h0; exact h0
      have hf : ¬ (0 ≤ g.x ∧ g.x < g.w ∧ 0 ≤ g.y ∧ g.y < g.h) → rightB g wd = false := fun hh => right_cur (by unfold curB; rw [h0, decide_eq_false hh]; rfl)
      refine ⟨_, hg2.x, bcase_mk (fun h => ⟨_, rfl, (hf (by have := of_decide_eq_true h; omega)).symm, e02⟩) (fun h1 => ⟨_, hg2.x, _, hg2.w, bcase_mk (fun h => ⟨_, rfl, (hf (by have := of_decide_eq_true h; omega)).symm, e02⟩) (fun h2 => ⟨_, hg2.y, bcase_mk (fun h => ⟨_, rfl, (hf (by have := of_decide_eq_true h; omega)).symm, e02⟩) (fun h3 => ⟨_, hg2.y, _, hg2.h, bcase_mk (fun h => ⟨_, rfl, (hf (by have := of_decide_eq_true h; omega)).symm, e02⟩) (fun h4 => ⟨(), rfl, ?_⟩)⟩)⟩)⟩)⟩
      have h1 := of_decide_eq_false h1; have h2 := of_decide_eq_false h2; have h3 := of_decide_eq_false h3; have h4 := of_decide_eq_false h4
      unfold curB; rw [decide_eq_true (by omega)]; simp
    · unfold curB; rw [show (g.x == -1 && g.y == -1) = true from by rw [Bool.not_eq_false'] at h0; exact h0]; rfl
  intro _ _ w' hw'
  obtain ⟨hw', hcur⟩ := hw'
  replace hw' := hw'.symm; subst hw'
  have hR := right_is (wd := wd) hx1 hlen hcur
  refine ⟨⟨0, rfl, Nat.zero_le _, by rw [List.drop_zero], Ext.refl _⟩, ?_⟩
  rintro _ i w3 ⟨hi, hrg, e23⟩
  have hg3 := hg2.ext e23
  have hc3 := hc.ext (Ext.trans e02 e23)
  have e03 := Ext.trans e02 e23
  have hbl := bulk_len g.cs
  refine ⟨_, _, _, hg3.cs, bcase_mk (fun h => ?_) (fun h => ⟨_, rfl, ?_, e03⟩)⟩
  rotate_left
  · have h := of_decide_eq_false h
    rw [hR, ← hrg, rgt_nil (by omega)]
  have hlt : i < g.cs.length := by have := of_decide_eq_true h; omega
  have hba := bulk_at g.cs hlt
  have hts := tx_size (ceG g.cs i)
  refine ⟨_, _, _, hg3.cs, i, rfl, hlt, hc3.ce hlt fun b1 o1 hce => hce.load ?_⟩
  intro b4 w4 hn4
  have hce4 := box_ce hn4.heap
  refine hce4.load ⟨_, rfl, trivial, ?_⟩
  rintro s w5 ⟨hs5, e45⟩
  have e35 := Ext.trans hn4.ext e45
  refine ⟨(s, wd), rfl, ⟨hU.ext (Ext.trans e03 e35), by dsimp only; rw [hs5]; omega⟩, ?_⟩
  rintro n w6 ⟨hn6, e56⟩
  dsimp only at hn6
  rw [hs5] at hn6
  have e36 := Ext.trans e35 e56
  have e06 := Ext.trans e03 e36
  have hce6 := hce4.ext (Ext.trans e45 e56)
  have hn2 := pl_le (txC (ceG g.cs i)) wd
  refine ⟨_, hce6.2.1, bcase_mk (fun h1 => ⟨_, rfl, ?_, e06⟩) (fun h1 => bcase_mk (fun h2 => ⟨_, rfl, ?_, e06⟩) (fun h2 => ?_))⟩
  · rw [hR, ← hrg, rgt_bad hlt (.inl (bne_iff_ne.1 h1))]
  · rw [hR, ← hrg, rgt_bad hlt (.inr (by rw [beq_iff_eq] at h2; omega))]
  have hp0 := bne_eq_false_iff_eq.1 h1
  have hn0 : n ≠ 0 := by rw [beq_eq_false_iff_ne] at h2; omega
  refine bcase_mk (fun h3 => ?_) (fun h3 => ?_)
  · have hn22 : n = 2 := by rw [beq_iff_eq] at h3; omega
    refine ⟨inr_i64 (by omega) (by omega), ?_⟩
    intro w7 hd
    have e07 := Ext.trans e06 hd.ext
    have hg6 := hg3.ext e36
    have hw0 : 0 < g.w := by
      rcases Int.lt_or_eq_of_le s1 with h | h
      · exact h
      · exfalso; rw [← h, Int.zero_mul] at hlen; omega
    have hmod : ((i : Int) + 1) % g.w = (((i + 1) % g.w.toNat : Nat) : Int) := by
      rw [Int.natCast_emod, Int.toNat_of_nonneg s1]; rfl
    refine ⟨_, hg6.w, by omega, hw0, bcase_mk (fun h4 => ⟨_, rfl, ?_, e07⟩) (fun h4 => ?_)⟩
    · have h4 : (i + 1) % g.w.toNat = 0 := by rw [hmod, beq_iff_eq] at h4; omega
      rw [hR, ← hrg]
      rcases Nat.lt_or_ge (i + 1) g.cs.length with h5 | h5
      · rw [rgt_two h5 hp0 (by omega), h4]; rfl
      · rw [rgt_end (by omega) hp0 (by omega)]
    have h4 : ¬ (i + 1) % g.w.toNat = 0 := by rw [hmod, beq_eq_false_iff_ne] at h4; omega
    have hi1 : i + 1 < g.cs.length := by
      rcases Nat.lt_or_ge (i + 1) g.cs.length with h5 | h5
      · exact h5
      · exfalso; apply h4
        have : i + 1 = g.w.toNat * g.h.toNat := by
          have h6 : ((i + 1 : Nat) : Int) = ((g.w.toNat * g.h.toNat : Nat) : Int) := by rw [Int.natCast_mul, Int.toNat_of_nonneg s1, Int.toNat_of_nonneg s3]; omega
          omega
        rw [this, Nat.mul_mod_right]
    have hc6 := hc3.ext e36
    refine ⟨_, _, _, hg6.cs, i + 1, rfl, hi1, hc6.ce hi1 fun b2 o2 hd2 => hd2.load ⟨_, hce6.2.2.2.2.2, _, _, _, hg6.cs, i + 1, rfl, hi1, hc6.ce hi1 fun b3 o3 hd3 => ⟨_, hd3.2.2.1, _, _, _, hg6.cs, i + 1, rfl, hi1, hc6.ce hi1 fun b4 o4 hd4 => ⟨_, hd4.2.2.2.1, _, _, _, hg6.cs, i + 1, rfl, hi1, hc6.ce hi1 fun b5 o5 hd5 => ⟨_, hd5.2.2.2.2.1, ?_⟩⟩⟩⟩⟩
    have hst : (((ceG g.cs (i + 1)).st : Int) == ((ceG g.cs i).st : Int)) = ((ceG g.cs (i + 1)).st == (ceG g.cs i).st) := by rw [Bool.eq_iff_iff, beq_iff_eq, beq_iff_eq]; omega
    have h2 := rgt_two (w := g.w.toNat) (wd := wd) hi1 hp0 (by omega)
    have hm0 : ((i + 1) % g.w.toNat == 0) = false := by rw [beq_eq_false_iff_ne]; exact h4
    rw [hm0] at h2
    refine bcase_mk (fun h5 => ⟨_, rfl, ?_, e07⟩) (fun h5 => ⟨inr_i64 (by omega) (by omega), i + 2, rfl, ⟨by omega, ?_, Ext.trans (Ext.trans e23 e36) hd.ext⟩, by omega⟩)
    · rw [str_empty, hst, Bool.not_eq_true'] at h5
      rw [hR, ← hrg, h2]
      cases ha : ((ceG g.cs (i + 1)).p == 1) <;> cases hb : ((ceG g.cs (i + 1)).st == (ceG g.cs i).st) <;> cases hc' : decide ((ceG g.cs (i + 1)).t.size = 0) <;> simp_all
    · rw [str_empty, hst, Bool.not_eq_false'] at h5
      simp only [Bool.and_eq_true, beq_self_eq_true, Bool.and_true, true_and] at h5
      rw [← hrg, h2, h5.1, h5.2.1, h5.2.2]
      simp
  · have hn22 : n ≠ 2 := by rw [beq_eq_false_iff_ne] at h3; omega
    exact ⟨inr_i64 (by omega) (by omega), i + 1, rfl, ⟨by omega, by rw [← hrg, rgt_one hlt hp0 (by omega) (by omega)], Ext.trans e23 e36⟩, by omega⟩
end

section
open Go Go.RowKit Vc Ut Tb Cl
theorem sameW_ok : sSameW.Ok Tryz.prog 11 := by
  refine sameW_vc ⟨alikeW_ok, trivial⟩ ?_
  rintro ⟨a1, c1, g1, a2, c2, g2⟩ w ⟨⟨hc1, hb1⟩, ⟨hc2, hb2⟩⟩ b w1 hn1 b2 w2 hn2
  dsimp only at hc1 hb1 hc2 hb2 hn1 hn2 ⊢
  have hg1 := (gr_box hn1.heap).ext hn2.ext
  have hg2 := gr_box hn2.heap
  have e02 := Ext.trans hn1.ext hn2.ext
  have hl1 := bulk_len g1.cs
  refine ⟨_, hg1.w, _, hg2.w, bcase_mk (fun h => ⟨_, rfl, ?_, e02⟩) (fun k1 => ⟨_, hg1.h, _, hg2.h, bcase_mk (fun h => ⟨_, rfl, ?_, e02⟩) (fun k2 => ⟨_, hg1.x, _, hg2.x, bcase_mk (fun h => ⟨_, rfl, ?_, e02⟩) (fun k3 => ⟨_, hg1.y, _, hg2.y, bcase_mk (fun h => ⟨_, rfl, ?_, e02⟩) (fun k4 => ?_)⟩)⟩)⟩)⟩
  · unfold sameB; rw [show (g1.w == g2.w) = false from by rw [beq_eq_false_iff_ne]; exact bne_iff_ne.1 h]; rfl
  · unfold sameB; rw [show (g1.h == g2.h) = false from by rw [beq_eq_false_iff_ne]; exact bne_iff_ne.1 h]; simp
  · unfold sameB; rw [show (g1.x == g2.x) = false from by rw [beq_eq_false_iff_ne]; exact bne_iff_ne.1 h]; simp
  · unfold sameB; rw [show (g1.y == g2.y) = false from by rw [beq_eq_false_iff_ne]; exact bne_iff_ne.1 h]; simp
  have hS := same_is (bne_eq_false_iff_eq.1 k1) (bne_eq_false_iff_eq.1 k2) (bne_eq_false_iff_eq.1 k3) (bne_eq_false_iff_eq.1 k4)
  rw [hS]
  refine ⟨_, _, _, hg1.cs, _, _, _, hg2.cs, bcase_mk (fun h => ⟨_, rfl, ?_, e02⟩) (fun k5 => ?_)⟩
  · have h := bne_iff_ne.1 h
    cases hs : samL g1.cs g2.cs with
    | false => rfl
    | true => have := sam_len hs; omega
  have hlen : g1.cs.length = g2.cs.length := by have := bne_eq_false_iff_eq.1 k5; omega
  refine ⟨_, _, _, hg1.cs, ⟨0, rfl, Nat.zero_le _, rfl, Ext.refl _⟩, ?_⟩
  rintro _ i w3 ⟨hi, hs, e23⟩
  have e03 := Ext.trans e02 e23
  refine bcase_mk (fun h => ?_) (fun h => ⟨_, rfl, ?_, e03⟩)
  · have hlt : i < g1.cs.length := by have := of_decide_eq_true h; omega
    intro w4 hd
    have hg13 := hg1.ext e23
    have hg23 := hg2.ext e23
    refine ⟨_, _, _, hg13.cs, i, rfl, hlt, (hc1.ext e03).ce hlt fun b3 o3 hce => hce.load ⟨_, _, _, hg23.cs, i, rfl, by omega, (hc2.ext e03).ce (by omega) fun b4 o4 hcd => hcd.load ⟨(ceG g1.cs i, ceG g2.cs i), rfl, trivial, ?_⟩⟩⟩
    rintro x w5 ⟨hx, e45⟩
    dsimp only at hx
    have e35 := Ext.trans hd.ext e45
    refine bcase_mk (fun h => ⟨_, rfl, ?_, Ext.trans e03 e35⟩) (fun h => ⟨inr_i64 (by omega) (by omega), i + 1, rfl, ⟨by omega, ?_, Ext.trans e23 e35⟩, by omega⟩)
    · rw [← hs, sam_cons hlt (by omega), ← hx, show x = false by simpa using h]; rfl
    · rw [← hs, sam_cons hlt (by omega), ← hx, show x = true by simpa using h]; rfl
  · have h := of_decide_eq_false h
    rw [← hs, sam_nil (by omega) (by omega)]
theorem textX_ok : sTextW.Ok Tryz.prog 29 := by
  refine textX_vc trivial ?_
  rintro c w _ b w1 hn
  exact text_any hn
theorem alikeX_ok : sAlikeW.Ok Tryz.prog 31 := by
  refine alikeX_vc ⟨textX_ok, trivial⟩ ?_
  rintro ⟨c, d⟩ w _ b w1 hn1 b1 w2 hn2 w3 hd
  dsimp only at hn1 hn2 ⊢
  have hc := (box_ce hn1.heap).ext hn2.ext
  have hc2 := box_ce hn2.heap
  have e3 : Ext w w3 := Ext.trans (Ext.trans hn1.ext hn2.ext) hd.ext
  refine ⟨_, hc.2.1, _, hc2.2.1, bcase_mk (fun h1 => ⟨_, hc.2.2.2.2.2, _, hc2.2.2.2.2.2, bcase_mk (fun h2 => ?_) (fun h2 => ⟨_, rfl, ?_, e3⟩)⟩) (fun h1 => ⟨_, rfl, ?_, e3⟩)⟩
  · refine hc.load (hc2.load ⟨c, rfl, trivial, ?_⟩)
    rintro x w4 ⟨rfl, e34⟩
    refine ⟨e34, d, rfl, trivial, ?_⟩
    rintro y w5 ⟨rfl, e45⟩
    refine ⟨_, rfl, ?_, Ext.trans e3 (Ext.trans e34 e45)⟩
    rw [str_eq]
    have h2 : (c.st == d.st) = true := by rw [beq_iff_eq] at h2 ⊢; omega
    unfold alikeB; rw [h1, h2]; rfl
  · have h2 : (c.st == d.st) = false := by rw [beq_eq_false_iff_ne] at h2 ⊢; omega
    unfold alikeB; rw [h2]; simp
  · unfold alikeB; rw [h1]; rfl
theorem plainX_ok : sPlainR.Ok Tryz.prog 28 := by
  refine plainX_vc ⟨textr_ok, rvalid_ok, rcount_ok, trivial⟩ ?_
  rintro ⟨s, wd⟩ w ⟨hU, hs⟩
  dsimp only at hs ⊢
  refine ⟨⟨s, 0, lkW wd⟩, rfl, ⟨hU.1, hU.2, hs⟩, ?_⟩
  rintro x w1 ⟨hx, e1⟩
  dsimp only at hx
  have hU1 := hU.ext e1
  refine ⟨s, rfl, ⟨hU1.1, hs⟩, ?_⟩
  rintro v w2 ⟨hv, e2⟩
  have hU2 := hU1.ext e2
  have e02 := Ext.trans e1 e2
  refine bcase_mk (fun h1 => ⟨s, rfl, ⟨hU2.1, hs⟩, ?_⟩) (fun h1 => ⟨(_, _), rfl, ?_, fun h => (by cases h), e02⟩)
  rotate_left
  · symm; rw [decide_eq_false_iff_not, Decidable.not_not]; unfold plN; rw [if_neg (fun hh => by rw [hv, hh.1] at h1; cases h1)]
  rintro n w3 ⟨hn, e3⟩
  have e03 := Ext.trans e02 e3
  refine bcase_mk (fun h2 => bcase_mk (fun h3 => ?_) (fun h3 => ⟨(_, _), rfl, ?_, fun h => (by cases h), e03⟩)) (fun h2 => ⟨(_, _), rfl, ?_, fun h => (by cases h), e03⟩)
  · rw [str_eq] at h3
    have h3 := of_decide_eq_true h3
    have h2 : n = 1 := by rw [beq_iff_eq] at h2; omega
    refine bcase_mk (fun h4 => ⟨(_, _), rfl, ?_, fun _ => ?_, e03⟩) (fun h4 => ⟨(_, _), rfl, ?_, fun h => ?_, e03⟩)
    · have h4 : x.2 = 1 := by rw [beq_iff_eq] at h4; omega
      symm; rw [decide_eq_true_iff]; unfold plN; rw [← hx, ← hv, ← hn, if_pos ⟨h1, h2, h3, by omega⟩]; omega
    · have h4 : x.2 = 1 := by rw [beq_iff_eq] at h4; omega
      unfold plN; rw [← hx, ← hv, ← hn, if_pos ⟨h1, h2, h3, by omega⟩]
    · have h4 : x.2 ≠ 1 := by rw [beq_eq_false_iff_ne] at h4; omega
      dsimp only
      rw [Bool.eq_iff_iff, beq_iff_eq, decide_eq_true_iff]
      unfold plN; rw [← hx, ← hv, ← hn]
      split
      · rename_i hh; have := hh.2.2.2; omega
      · rename_i hh
        constructor
        · intro h5; exact absurd ⟨h1, h2, h3, by omega⟩ hh
        · intro h5; omega
    · dsimp only at h ⊢
      have h4 : x.2 = 2 := by rw [beq_iff_eq] at h; omega
      unfold plN; rw [← hx, ← hv, ← hn, if_pos ⟨h1, h2, h3, by omega⟩]
  · symm; rw [decide_eq_false_iff_not, Decidable.not_not]; unfold plN; rw [if_neg (fun hh => ?_)]
    rw [str_eq] at h3
    exact of_decide_eq_false h3 (by rw [hx]; exact hh.2.2.1)
  · symm; rw [decide_eq_false_iff_not, Decidable.not_not]; unfold plN; rw [if_neg (fun hh => by rw [beq_eq_false_iff_ne] at h2; rw [hn, hh.2.1] at h2; exact h2 rfl)]
theorem sizeX_ok : sSizeW.Ok Tryz.prog 27 := by
  refine sizeX_vc trivial ?_
  rintro ⟨a, b⟩ w _
  refine ⟨_, rfl, ?_, Ext.refl _⟩
  unfold sizeB
  rw [Bool.eq_iff_iff]
  simp only [ge_iff_le, Bool.and_eq_true, decide_eq_true_eq]
theorem sameX_ok : sSameW.Ok Tryz.prog 12 := by
  refine sameX_vc ⟨alikeX_ok, trivial⟩ ?_
  rintro ⟨a1, c1, g1, a2, c2, g2⟩ w ⟨⟨hc1, hb1⟩, ⟨hc2, hb2⟩⟩ b w1 hn1 b2 w2 hn2
  dsimp only at hc1 hb1 hc2 hb2 hn1 hn2 ⊢
  have hg1 := (gr_box hn1.heap).ext hn2.ext
  have hg2 := gr_box hn2.heap
  have e02 := Ext.trans hn1.ext hn2.ext
  have hl1 := bulk_len g1.cs
  refine ⟨_, hg1.w, _, hg2.w, bcase_mk (fun h => ⟨_, rfl, ?_, e02⟩) (fun k1 => ⟨_, hg1.h, _, hg2.h, bcase_mk (fun h => ⟨_, rfl, ?_, e02⟩) (fun k2 => ⟨_, hg1.x, _, hg2.x, bcase_mk (fun h => ⟨_, rfl, ?_, e02⟩) (fun k3 => ⟨_, hg1.y, _, hg2.y, bcase_mk (fun h => ⟨_, rfl, ?_, e02⟩) (fun k4 => ?_)⟩)⟩)⟩)⟩
  · unfold sameB; rw [show (g1.w == g2.w) = false from by rw [beq_eq_false_iff_ne]; exact bne_iff_ne.1 h]; rfl
  · unfold sameB; rw [show (g1.h == g2.h) = false from by rw [beq_eq_false_iff_ne]; exact bne_iff_ne.1 h]; simp
  · unfold sameB; rw [show (g1.x == g2.x) = false from by rw [beq_eq_false_iff_ne]; exact bne_iff_ne.1 h]; simp
  · unfold sameB; rw [show (g1.y == g2.y) = false from by rw [beq_eq_false_iff_ne]; exact bne_iff_ne.1 h]; simp
  have hS := same_is (bne_eq_false_iff_eq.1 k1) (bne_eq_false_iff_eq.1 k2) (bne_eq_false_iff_eq.1 k3) (bne_eq_false_iff_eq.1 k4)
  rw [hS]
  refine ⟨_, _, _, hg1.cs, _, _, _, hg2.cs, bcase_mk (fun h => ⟨_, rfl, ?_, e02⟩) (fun k5 => ?_)⟩
  · have h := bne_iff_ne.1 h
    cases hs : samL g1.cs g2.cs with
    | false => rfl
    | true => have := sam_len hs; omega
  have hlen : g1.cs.length = g2.cs.length := by have := bne_eq_false_iff_eq.1 k5; omega
  refine ⟨⟨0, rfl, Nat.zero_le _, rfl, Ext.refl _⟩, ?_⟩
  rintro _ i w3 ⟨hi, hs, e23⟩
  have e03 := Ext.trans e02 e23
  have hg13 := hg1.ext e23
  have hg23 := hg2.ext e23
  refine ⟨_, _, _, hg13.cs, bcase_mk (fun h => ?_) (fun h => ⟨_, rfl, ?_, e03⟩)⟩
  · have hlt : i < g1.cs.length := by have := of_decide_eq_true h; omega
    intro w4 hd
    refine ⟨_, _, _, hg13.cs, i, rfl, hlt, (hc1.ext e03).ce hlt fun b3 o3 hce => hce.load ⟨_, _, _, hg23.cs, i, rfl, by omega, (hc2.ext e03).ce (by omega) fun b4 o4 hcd => hcd.load ⟨(ceG g1.cs i, ceG g2.cs i), rfl, trivial, ?_⟩⟩⟩
    rintro x w5 ⟨hx, e45⟩
    dsimp only at hx
    have e35 := Ext.trans hd.ext e45
    refine bcase_mk (fun h => ⟨_, rfl, ?_, Ext.trans e03 e35⟩) (fun h => ⟨inr_i64 (by omega) (by omega), i + 1, rfl, ⟨by omega, ?_, Ext.trans e23 e35⟩, by omega⟩)
    · rw [← hs, sam_cons hlt (by omega), ← hx, show x = false by simpa using h]; rfl
    · rw [← hs, sam_cons hlt (by omega), ← hx, show x = true by simpa using h]; rfl
  · have h := of_decide_eq_false h
    rw [← hs, sam_nil (by omega) (by omega)]
theorem at_row {W H y x : Nat} (hy : y < H) (hx : x < W) : y * W + x < W * H := by
  have h1 : (y + 1) * W ≤ H * W := Nat.mul_le_mul_right _ hy
  have h2 : (y + 1) * W = y * W + W := by rw [Nat.add_mul, Nat.one_mul]
  rw [Nat.mul_comm W H]; omega
theorem mod_row {W y x : Nat} (hx : x < W) : (y * W + x + 1) % W = 0 ↔ x + 1 = W := by
  rw [show y * W + x + 1 = x + 1 + W * y from by rw [Nat.mul_comm]; omega, Nat.add_mul_mod_self_left]
  constructor
  · intro h
    rcases Nat.lt_or_ge (x + 1) W with h1 | h1
    · rw [Nat.mod_eq_of_lt h1] at h; omega
    · omega
  · intro h; rw [h, Nat.mod_self]
set_option maxRecDepth 4000 in
theorem rightX_ok : sRightW.Ok Tryz.prog 10 := by
  refine rightX_vc ⟨sizeX_ok, textX_ok, plainX_ok, trivial⟩ ?_
  rintro ⟨ad, c, g, wd⟩ w ⟨hU, hc, hbk⟩ b w1 hn
  dsimp only at hU hc hbk hn ⊢
  have hg1 := gr_box hn.heap
  refine ⟨_, hg1.w, _, hg1.h, (g.w, g.h), rfl, trivial, ?_⟩
  rintro x w2 ⟨hx, e12⟩
  dsimp only at hx
  have e02 := Ext.trans hn.ext e12
  have hg2 := hg1.ext e12
  refine bcase_mk (fun h => ⟨_, rfl, ?_, e02⟩) (fun h => ?_)
  · unfold rightB; rw [← hx]; rw [show x = false by simpa using h]; rfl
  have hx1 : sizeB g.w g.h = true := by rw [← hx]; simpa using h
  have hsz : 0 ≤ g.w ∧ g.w ≤ 1024 ∧ 0 ≤ g.h ∧ g.h ≤ 1024 := of_decide_eq_true hx1
  obtain ⟨s1, s2, s3, s4⟩ := hsz
  have hwh : 0 ≤ g.w * g.h ∧ g.w * g.h ≤ 1024 * 1024 := ⟨Int.mul_nonneg s1 s3, Int.le_trans (Int.mul_le_mul_of_nonneg_right s2 s3) (Int.mul_le_mul_of_nonneg_left s4 (by omega))⟩
  refine ⟨_, _, _, hg2.cs, _, hg2.w, _, hg2.h, inr_i64 (by omega) (by omega), bcase_mk (fun h => ⟨_, rfl, ?_, e02⟩) (fun h => ?_)⟩
  · unfold rightB; rw [show ((g.cs.length : Int) == g.w * g.h) = false from by rw [beq_eq_false_iff_ne]; exact bne_iff_ne.1 h]; simp
  have hlen : (g.cs.length : Int) = g.w * g.h := bne_eq_false_iff_eq.1 h
  clear h
  have hf : ¬ (g.x = -1 ∧ g.y = -1) → ¬ (0 ≤ g.x ∧ g.x < g.w ∧ 0 ≤ g.y ∧ g.y < g.h) → rightB g wd = false := fun h0 hh => right_cur (by
    unfold curB
    rw [decide_eq_false hh, Bool.or_false, Bool.and_eq_false_iff, beq_eq_false_iff_ne, beq_eq_false_iff_ne]
    by_cases h1 : g.x = -1
    · exact .inr fun h2 => h0 ⟨h1, h2⟩
    · exact .inl h1)
  have hin : (0 ≤ g.x ∧ g.x < g.w ∧ 0 ≤ g.y ∧ g.y < g.h) → curB g = true := fun h => by unfold curB; rw [decide_eq_true h]; simp
  refine ⟨⟨_, hg2.x, bcase_mk (fun h0 => ?_) (fun h0 => ⟨_, hg2.y, bcase_mk (fun h1 => ?_) (fun h1 => ⟨(), rfl, ?_⟩)⟩)⟩, ?_⟩
  · have h0 := bne_iff_ne.1 h0
    have hf := hf (fun h => h0 h.1)
    refine ⟨_, hg2.x, bcase_mk (fun h => ⟨_, rfl, (hf (by have := of_decide_eq_true h; omega)).symm, e02⟩) (fun h1 => ⟨_, hg2.x, _, hg2.w, bcase_mk (fun h => ⟨_, rfl, (hf (by have := of_decide_eq_true h; omega)).symm, e02⟩) (fun h2 => ⟨_, hg2.y, bcase_mk (fun h => ⟨_, rfl, (hf (by have := of_decide_eq_true h; omega)).symm, e02⟩) (fun h3 => ⟨_, hg2.y, _, hg2.h, bcase_mk (fun h => ⟨_, rfl, (hf (by have := of_decide_eq_true h; omega)).symm, e02⟩) (fun h4 => ⟨(), rfl, hin ?_⟩)⟩)⟩)⟩)⟩
    have h1 := of_decide_eq_false h1; have h2 := of_decide_eq_false h2; have h3 := of_decide_eq_false h3; have h4 := of_decide_eq_false h4
    omega
  · have h1 := bne_iff_ne.1 h1
    have hf := hf (fun h => h1 h.2)
    refine ⟨_, hg2.x, bcase_mk (fun h => ⟨_, rfl, (hf (by have := of_decide_eq_true h; omega)).symm, e02⟩) (fun h1 => ⟨_, hg2.x, _, hg2.w, bcase_mk (fun h => ⟨_, rfl, (hf (by have := of_decide_eq_true h; omega)).symm, e02⟩) (fun h2 => ⟨_, hg2.y, bcase_mk (fun h => ⟨_, rfl, (hf (by have := of_decide_eq_true h; omega)).symm, e02⟩) (fun h3 => ⟨_, hg2.y, _, hg2.h, bcase_mk (fun h => ⟨_, rfl, (hf (by have := of_decide_eq_true h; omega)).symm, e02⟩) (fun h4 => ⟨(), rfl, hin ?_⟩)⟩)⟩)⟩)⟩
    have h1 := of_decide_eq_false h1; have h2 := of_decide_eq_false h2; have h3 := of_decide_eq_false h3; have h4 := of_decide_eq_false h4
    omega
  · have h0 := bne_eq_false_iff_eq.1 h0; have h1 := bne_eq_false_iff_eq.1 h1
    unfold curB; rw [h0, h1]; rfl
  intro _ _ w' hw'
  obtain ⟨hw', hcur⟩ := hw'
  replace hw' := hw'.symm; subst hw'
  have hR := right_is (wd := wd) hx1 hlen hcur
  have hWw : (g.w.toNat : Int) = g.w := Int.toNat_of_nonneg s1
  have hHh : (g.h.toNat : Int) = g.h := Int.toNat_of_nonneg s3
  have hln : g.cs.length = g.w.toNat * g.h.toNat := by
    have h6 : (g.cs.length : Int) = ((g.w.toNat * g.h.toNat : Nat) : Int) := by rw [Int.natCast_mul, hWw, hHh]; exact hlen
    omega
  have hll : g.w.toNat * g.h.toNat ≤ 1048576 := by omega
  refine ⟨⟨0, rfl, by omega, by rw [Nat.zero_mul, List.drop_zero], Ext.refl _⟩, ?_⟩
  rintro _ y w3 ⟨hy, hrg, e23⟩
  have hg3 := hg2.ext e23
  have e03 := Ext.trans e02 e23
  refine ⟨_, hg3.h, bcase_mk (fun h => ?_) (fun h => ⟨_, rfl, ?_, e03⟩)⟩
  rotate_left
  · have h := of_decide_eq_false h
    have hyh : y = g.h.toNat := by omega
    rw [hR, ← hrg, rgt_nil (by rw [hln, hyh, Nat.mul_comm]; exact Nat.le_refl _)]
  have hyh : y < g.h.toNat := by have := of_decide_eq_true h; omega
  refine ⟨⟨0, rfl, Nat.zero_le _, ⟨y, rfl, by omega, by rw [Nat.add_zero]; exact hrg⟩, Ext.refl _⟩, ?_⟩
  rintro _ x w4 ⟨hxw, ⟨y', hy', _, hrg2⟩, e34⟩
  obtain rfl : y = y' := by have : (y : Int) = (y' : Int) := by injection hy'
                            omega
  have hg4 := hg3.ext e34
  have e04 := Ext.trans e03 e34
  have hc4 := hc.ext e04
  refine ⟨_, hg4.w, bcase_mk (fun h => ?_) (fun h => ?_)⟩
  rotate_left
  · have h := of_decide_eq_false h
    have hxw : x = g.w.toNat := by omega
    refine ⟨inr_i64 (by omega) (by omega), y + 1, rfl, ⟨by omega, ?_, Ext.trans e23 e34⟩, by omega⟩
    rw [Nat.add_mul, Nat.one_mul]
    subst hxw
    exact hrg2
  have hlt' : x < g.w.toNat := by have := of_decide_eq_true h; omega
  have hat := at_row hyh hlt'
  have hlt : y * g.w.toNat + x < g.cs.length := by omega
  have hyw : (y : Int) * g.w = ((y * g.w.toNat : Nat) : Int) := by rw [Int.natCast_mul, hWw]
  have hba := bulk_at g.cs hlt
  have hts := tx_size (ceG g.cs (y * g.w.toNat + x))
  refine ⟨_, _, _, hg4.cs, _, hg4.w, by rw [hyw]; exact inr_i64 (by omega) (by omega), by rw [hyw]; exact inr_i64 (by omega) (by omega), y * g.w.toNat + x, by rw [hyw]; omega, hlt, hc4.ce hlt fun b1 o1 hce => hce.load ?_⟩
  intro b5 w5 hn5
  have hce5 := box_ce hn5.heap
  refine hce5.load ⟨_, rfl, trivial, ?_⟩
  rintro s w6 ⟨hs6, e56⟩
  have e46 := Ext.trans hn5.ext e56
  refine ⟨(s, wd), rfl, ⟨hU.ext (Ext.trans e04 e46), by dsimp only; rw [hs6]; omega⟩, ?_⟩
  rintro ⟨n, ok⟩ w7 ⟨hok, hnn, e67⟩
  dsimp only at hok hnn ⊢
  rw [hs6] at hok hnn
  have e47 := Ext.trans e46 e67
  have e07 := Ext.trans e04 e47
  have hce7 := hce5.ext (Ext.trans e56 e67)
  have hn2 := pl_le (txC (ceG g.cs (y * g.w.toNat + x))) wd
  refine ⟨_, hce7.2.1, bcase_mk (fun h1 => ⟨_, rfl, ?_, e07⟩) (fun h1 => bcase_mk (fun h2 => ⟨_, rfl, ?_, e07⟩) (fun h2 => ?_))⟩
  · rw [hR, ← hrg2, rgt_bad hlt (.inl (bne_iff_ne.1 h1))]
  · have h2 : ok = false := by simpa using h2
    rw [h2] at hok
    have := of_decide_eq_false hok.symm
    rw [hR, ← hrg2, rgt_bad hlt (.inr (by omega))]
  have hp0 := bne_eq_false_iff_eq.1 h1
  have h2 : ok = true := by simpa using h2
  have hnn := hnn h2
  rw [h2] at hok
  have hn0 := of_decide_eq_true hok.symm
  refine bcase_mk (fun h3 => ?_) (fun h3 => ?_)
  · have hn1 : n = 1 := by rw [beq_iff_eq] at h3; omega
    exact ⟨inr_i64 (by omega) (by omega), x + 1, rfl, ⟨by omega, ⟨y, rfl, by omega, by rw [← hrg2, rgt_one hlt hp0 (by omega) (by omega)]; rfl⟩, Ext.trans e34 e47⟩, by omega⟩
  have hn22 : plN (txC (ceG g.cs (y * g.w.toNat + x))) wd = 2 := by rw [beq_eq_false_iff_ne] at h3; omega
  have hg7 := hg4.ext e47
  refine ⟨inr_i64 (by omega) (by omega), _, hg7.w, bcase_mk (fun h4 => ⟨_, rfl, ?_, e07⟩) (fun h4 => ?_)⟩
  · have h4 : (y * g.w.toNat + x + 1) % g.w.toNat = 0 := (mod_row hlt').2 (by rw [beq_iff_eq] at h4; omega)
    rw [hR, ← hrg2]
    rcases Nat.lt_or_ge (y * g.w.toNat + x + 1) g.cs.length with h5 | h5
    · rw [rgt_two h5 hp0 hn22, h4]; rfl
    · rw [rgt_end (by omega) hp0 hn22]
  have hx1w : x + 1 < g.w.toNat := by rw [beq_eq_false_iff_ne] at h4; omega
  have h4 : ¬ (y * g.w.toNat + x + 1) % g.w.toNat = 0 := fun h => by have := (mod_row hlt').1 h; omega
  have hat2 := at_row hyh hx1w
  have hi1 : y * g.w.toNat + x + 1 < g.cs.length := by omega
  have hc7 := hc4.ext e47
  refine ⟨_, _, _, hg7.cs, _, hg7.w, by rw [hyw]; exact inr_i64 (by omega) (by omega), by rw [hyw]; exact inr_i64 (by omega) (by omega), y * g.w.toNat + x + 1, by rw [hyw]; omega, hi1, hc7.ce hi1 fun b2 o2 hd2 => hd2.load ?_⟩
  intro b8 w8 hn8
  have hd8 := box_ce hn8.heap
  have hce8 := hce7.ext hn8.ext
  have e08 := Ext.trans e07 hn8.ext
  have h2 := rgt_two (w := g.w.toNat) (wd := wd) hi1 hp0 hn22
  have hm0 : ((y * g.w.toNat + x + 1) % g.w.toNat == 0) = false := by rw [beq_eq_false_iff_ne]; exact h4
  rw [hm0] at h2
  refine ⟨_, hd8.2.1, bcase_mk (fun k1 => ⟨_, rfl, ?_, e08⟩) (fun k1 => ⟨_, hd8.1, bcase_mk (fun k2 => ⟨_, rfl, ?_, e08⟩) (fun k2 => ⟨_, hd8.2.2.2.2.2, _, hce8.2.2.2.2.2, bcase_mk (fun k3 => ⟨_, rfl, ?_, e08⟩) (fun k3 => ⟨inr_i64 (by omega) (by omega), x + 2, rfl, ⟨by omega, ⟨y, rfl, by omega, ?_⟩, Ext.trans e34 (Ext.trans e47 hn8.ext)⟩, by omega⟩)⟩)⟩)⟩
  · rw [hR, ← hrg2, h2, show ((ceG g.cs (y * g.w.toNat + x + 1)).p == 1) = false from by rw [beq_eq_false_iff_ne]; exact bne_iff_ne.1 k1]; simp
  · rw [str_empty, Bool.not_eq_true'] at k2
    rw [hR, ← hrg2, h2, k2]; simp
  · rw [hR, ← hrg2, h2, show ((ceG g.cs (y * g.w.toNat + x + 1)).st == (ceG g.cs (y * g.w.toNat + x)).st) = false from by rw [beq_eq_false_iff_ne]; have := bne_iff_ne.1 k3; omega]; simp
  · rw [str_empty, Bool.not_eq_false'] at k2
    rw [← hrg2, h2, k2, show ((ceG g.cs (y * g.w.toNat + x + 1)).p == 1) = true from by rw [beq_iff_eq]; exact bne_eq_false_iff_eq.1 k1, show ((ceG g.cs (y * g.w.toNat + x + 1)).st == (ceG g.cs (y * g.w.toNat + x)).st) = true from by rw [beq_iff_eq]; have := bne_eq_false_iff_eq.1 k3; omega]
    simp
    rfl
end

section
namespace Vc
open Go Go.RowKit
theorem Row.pushStr {P : Program} {w : World} {t u ty e : TypeId} (hE : ElemOk P t e 1 1) (hu : P.underlying u = some .string) {ad : Option Addr} {n c : Nat} {vs : List Value} (h : Row w e 1 ad n vs c) (s : ByteArray) (hb : n + s.size ≤ 70368744177664) :
    ∃ ad' c' w2, AppRun P #[t, u] ty (.slice ad n c) (.string s) w ad' (n + s.size) c' w2 ∧ KO w w2 ∧ Row w2 e 1 ad' (n + s.size) (vs ++ Lib.strCells s) c' ∧ w.grownBy w2 (blk ad) ∧
      (ad' = ad ∨ (ad' = some ⟨w.heap.size, 0, none⟩ ∧ w.heap.size < w2.heap.size ∧ Ext w w2)) := by
  obtain ⟨i, z, hi, hz, hsize, hby, hzs⟩ := hE.info
  have ht := hE.und
  have hlen : (vs ++ Lib.strCells s).length = (n + s.size) * 1 := by rw [List.length_append, h.1, Lib.strCells_length]; omega
  have h63 : n + s.size ≤ maxLen := by unfold maxLen; omega
  have hko : ∀ {w2 : World}, w.grownBy w2 (blk ad) → KO w w2 := fun hg => KO.grown hg (fun j o hj ho => by
    rcases h.2 with ⟨h1, _⟩ | ⟨g, cur, h1, h2, _⟩
    · subst h1; cases hj
    · subst h1; cases hj; rw [h2] at ho; cases ho; rfl)
  have grown : ∀ (old : Nat), old < n + s.size → ∀ (row : Option Nat) (xs : Array Value), xs = vs.toArray ++ (Lib.strCells s).toArray →
      Row (w.drew.alloc (.cells (xs ++ Builtin.zeroCells z.cells (grownCap w (n + s.size) old e - (n + s.size))) e)) e 1 (some ⟨w.heap.size, 0, none⟩) (n + s.size) (vs ++ Lib.strCells s) (grownCap w (n + s.size) old e) ∧
      w.grownBy (w.drew.alloc (.cells (xs ++ Builtin.zeroCells z.cells (grownCap w (n + s.size) old e - (n + s.size))) e)) row ∧ w.heap.size < (w.drew.alloc (.cells (xs ++ Builtin.zeroCells z.cells (grownCap w (n + s.size) old e - (n + s.size))) e)).heap.size ∧
      Ext w (w.drew.alloc (.cells (xs ++ Builtin.zeroCells z.cells (grownCap w (n + s.size) old e - (n + s.size))) e)) := by
    intro old ho row xs hxs
    subst hxs
    have hge := grownCap_ge w (n + s.size) old e
    have hcm : grownCap w (n + s.size) old e ≤ maxLen := grownCap_le_maxLen w (n + s.size) old e h63
    refine ⟨⟨hlen, .inr ⟨w.heap.size, _, rfl, heap_alloc_new w.drew _, hge, hcm, ?_, ?_⟩⟩, ⟨rfl, rfl, rfl, by simp, fun k hk _ => heap_alloc_old w.drew _ hk⟩, by simp, (Below.drew (Below.refl _ w)).alloc (by simp) _⟩
    · have h1 := h.1
      have h2 := Lib.strCells_length s
      simp only [Array.size_append, List.size_toArray, size_zeroCells, hzs]
      omega
    · simp only [Array.toList_append, List.append_assoc]
      rw [← List.append_assoc, ← hlen]
      exact List.take_left
  rcases h.2 with ⟨rfl, rfl, rfl⟩ | ⟨g, cur, rfl, hg, hnc, hcm, hcs, htake⟩
  · have hx : vs = [] := List.eq_nil_of_length_eq_zero (by simpa using h.1)
    subst hx
    by_cases h0 : s.size = 0
    · have hs : s = ByteArray.mk #[] := by
        cases s with | mk d => cases d with | mk l => cases l with
          | nil => rfl
          | cons x l => simp [ByteArray.size] at h0
      subst hs
      refine ⟨none, 0, w, ?_, KOE.refl _ _, (show Row w e 1 none 0 [] 0 from h), ⟨rfl, rfl, rfl, Nat.le_refl _, fun _ _ _ => rfl⟩, .inl rfl⟩
      unfold AppRun
      simp [Builtin.append_, run_underlying ht, run_underlying hu, sizeOf, typeInfo, hi, Builtin.lenOf, Builtin.firstCells, ByteArray.size]
    · have hr := run_append_nil_string (P := P) w t u ty e i z ht hu hi hz s (by omega) (by omega) (by rw [hby]; omega)
      have hgr := grown 0 (by omega) (blk none) (s.data.map (fun b => Value.int .u8 b.toNat)) (by
        apply Array.ext'; simp [Lib.strCells])
      simp only [Nat.zero_add] at hgr ⊢
      exact ⟨_, _, _, hr, hko hgr.2.1, hgr.1, hgr.2.1, .inr ⟨rfl, hgr.2.2⟩⟩
  · by_cases hroom : n + s.size ≤ c
    · have hfit : n + s.size ≤ cur.size := by omega
      have hr := Lib.run_append_room_string (P := P) w t u ty e i ht hu hi hsize g n c cur hg s hroom hfit
      have hgb : w.grownBy (w.setRow g (cur.toList.take n ++ Lib.strCells s ++ cur.toList.drop (n + s.size)).toArray) (blk (some ⟨g, 0, none⟩)) := ⟨rfl, rfl, rfl, by simp, fun k _ hk => setRow_other w g k _ (fun e => hk (by simp [blk, e]))⟩
      refine ⟨_, _, _, hr, hko hgb, ⟨hlen, .inr ⟨g, _, rfl, setRow_heap w g cur _ e _ hg, hroom, hcm, ?_, ?_⟩⟩, hgb, .inl rfl⟩
      · simp only [List.size_toArray, List.length_append, List.length_take, List.length_drop, Array.length_toList, Lib.strCells_length]
        omega
      · rw [Nat.mul_one] at htake
        rw [htake, ← hlen]
        exact List.take_left
    · have holds : ∀ (j : Nat) v, vs[j]? = some v → w.cell? ((⟨g, 0, none⟩ : Addr).add j) = some v := by
        intro j v hv
        rcases h.cells with h0 | ⟨b', o', e1, e2⟩
        · subst h0; simp at hv
        · cases e1; rw [add_lit]; exact e2 j v hv
      have hr := Lib.run_append_grow_string (P := P) w t u ty e i z ht hu hi hz ⟨g, 0, none⟩ n c vs (by rw [hsize]; exact h.1) holds s (by omega) (by omega) (growslice_fits (by omega) (by rw [hby]; omega))
      have hgr := grown c (by omega) (blk (some ⟨g, 0, none⟩)) _ rfl
      exact ⟨_, _, _, hr, hko hgr.2.1, hgr.1, hgr.2.1, .inr ⟨rfl, hgr.2.2⟩⟩
end Vc
end

section
open Go Go.RowKit Vc Ut Tb Cl
theorem Kp.trans {B : Nat} {q : Option Nat} {a b c : World} (h : Kp B q a b) (k : Kp B q b c) : Kp B q a c := ⟨Below.trans h.below k.below, h.oth.trans k.oth⟩
theorem Kp.weak {B : Nat} {q : Nat} {a b : World} (h : Kp B none a b) : Kp B (some q) a b := ⟨h.below, fun k o hk _ ho => h.oth k o hk (by simp) ho⟩
theorem Kp.ext {B : Nat} {q : Option Nat} {a b : World} (hB : B ≤ a.heap.size) (h : Ext a b) : Kp B q a b := ⟨h.mono hB, fun k o hk _ _ => h.heap hk⟩
theorem Kp.size {B : Nat} {q : Option Nat} {a b : World} (h : Kp B q a b) : a.heap.size ≤ b.heap.size := h.below.size
theorem Kp.stored {B q : Nat} {w w1 : World} {k : Nat} {v : Value} (h : Stored w ⟨q, k, none⟩ v w1) (hq : B ≤ q) : Kp B (some q) w w1 :=
  ⟨h.below (Below.refl _ _) hq, fun i o hi hn _ => (h.other (k := i) (by show i ≠ q; rintro rfl; exact hn rfl)).trans hi⟩
theorem row_cells {w : World} {e : TypeId} {s n c g : Nat} {ad : Option Addr} {vs : List Value} (h : Row w e s ad n vs c) (hg : blk ad = some g) : ∃ cur, w.heap[g]? = some (.cells cur e (0, 0)) := by
  rcases h.2 with ⟨rfl, _⟩ | ⟨g', cur, rfl, h1, _⟩
  · cases hg
  · cases hg; exact ⟨cur, h1⟩
theorem Kp.grown {B : Nat} {w w2 : World} {n c : Nat} {ad : Option Addr} {vs : List Value} (h : Row w 5 1 ad n vs c) (hg : w.grownBy w2 (blk ad)) (hB : B ≤ w.heap.size) (hb : ∀ g, blk ad = some g → B ≤ g) : Kp B none w w2 := by
  refine ⟨Below.grown (Below.refl _ _) hg hB hb, fun k o hk _ ho => (hg.block k (heap_lt hk) fun hh => ?_).trans hk⟩
  obtain ⟨cur, h1⟩ := row_cells h hh.symm
  rw [hk] at h1
  exact ho _ _ (Option.some.inj h1)
theorem Vc.Row.kp {B : Nat} {q : Option Nat} {w w' : World} {e : TypeId} {s n c : Nat} {ad : Option Addr} {vs : List Value} (h : Row w e s ad n vs c) (hk : Kp B q w w') (he : e ≠ 5) (hq : ∀ g, q = some g → blk ad ≠ some g) : Row w' e s ad n vs c := by
  refine h.keep fun g hg => ?_
  obtain ⟨cur, h1⟩ := row_cells h hg
  rw [h1]
  exact hk.oth g _ h1 (fun hh => hq g hh.symm hg) (fun c fz hh => by injection hh with _ h2; exact he h2)
theorem UDB.on {B : Nat} {w w' : World} (h : UDB B w) (hb : Below B w w') : UDB B w' := fun w'' h' => h w'' (Below.trans hb h')
theorem TeIn.ext {w w' : World} {p : TeP} {t : Te} (h : TeIn w p t) (hx : Ext w w') : TeIn w' p t :=
  ⟨hx.heap h.box, h.row.ext hx, h.bq, h.bad, Nat.le_trans h.bw hx.size, h.tab.on (hx.mono h.bw), h.u.on (hx.mono h.bw)⟩
theorem TeIn.ud {w : World} {p : TeP} {t : Te} (h : TeIn w p t) : UD w := h.u w (Below.refl _ _)
theorem TeIn.ne {w : World} {p : TeP} {t : Te} (h : TeIn w p t) : blk p.ad ≠ some p.q := fun hh => by
  obtain ⟨cur, h1⟩ := row_cells h.row hh
  rw [h.box] at h1
  injection h1 with h2
  injection h2 with _ h3
  exact absurd h3 (by decide)
theorem TeOut.ext {w w' : World} {p : TeP} {t : Te} (h : TeIn w p t) (hx : Ext w w') : TeOut w w' p p t := ⟨h.ext hx, rfl, rfl, Kp.ext h.bw hx⟩
theorem TeOut.trans {a b c : World} {p p1 p2 : TeP} {t1 t2 : Te} (h : TeOut a b p p1 t1) (k : TeOut b c p1 p2 t2) : TeOut a c p p2 t2 := by
  have hk := k.kp
  rw [h.b, h.q] at hk
  exact ⟨k.is, k.b.trans h.b, k.q.trans h.q, h.kp.trans hk⟩
theorem te_new {w w2 w3 : World} {p : TeP} {t : Te} {a' : Option Addr} {c' n' : Nat} {s : ByteArray} (h : TeIn w p t) (hk : Kp p.B none w w2) (hn : n' = s.size) (hrow : Row w2 5 1 a' n' (bytesV s) c') (hb : ∀ g, blk a' = some g → p.B ≤ g)
    (hs : Stored w2 ⟨p.q, 0, none⟩ (.slice a' n' c') w3) : TeOut w w3 p ⟨p.B, p.q, a', c'⟩ (teB t s) := by
  subst hn
  have hb2 : w2.heap[p.q]? = some (.cells (teV p t) 74) := hk.oth _ _ h.box (by simp) (fun c fz hh => by injection hh with _ h2; exact absurd h2 (by decide))
  have hks : Kp p.B (some p.q) w2 w3 := Kp.stored hs h.bq
  have hne : blk a' ≠ some p.q := fun hh => by
    obtain ⟨cur, h1⟩ := row_cells hrow hh
    rw [hb2] at h1
    injection h1 with h2
    injection h2 with _ h3
    exact absurd h3 (by decide)
  have h13 : Kp p.B (some p.q) w w3 := hk.weak.trans hks
  refine ⟨⟨hs.heap hb2, hrow.keep fun g hg => hs.other (by show g ≠ p.q; rintro rfl; exact hne hg), h.bq, hb, Nat.le_trans h.bw h13.size, h.tab.on h13.below, h.u.on h13.below⟩, rfl, rfl, h13⟩
theorem te_put {w w1 : World} {p : TeP} {t t' : Te} {k : Nat} {v : Value} (h : TeIn w p t) (hs : Stored w ⟨p.q, k, none⟩ v w1) (hv : (teV p t).setIfInBounds k v = teV p t') (hb : t'.b = t.b) : TeOut w w1 p p t' := by
  have hk : Kp p.B (some p.q) w w1 := Kp.stored hs h.bq
  refine ⟨⟨by rw [← hv]; exact hs.heap h.box, ?_, h.bq, h.bad, Nat.le_trans h.bw hk.size, h.tab.on hk.below, h.u.on hk.below⟩, rfl, rfl, hk⟩
  rw [hb]
  exact h.row.keep fun g hg => hs.other (by show g ≠ p.q; rintro rfl; exact h.ne hg)
theorem TeIn.old {w : World} {p : TeP} {t : Te} (h : TeIn w p t) {k : Nat} (hk : k < 6) : ∃ old, w.cell? ⟨p.q, k, none⟩ = some old := by
  rw [cell_of_heap h.box]; exact ⟨_, Array.getElem?_eq_getElem (by show k < 6; exact hk)⟩
theorem TeIn.free {w : World} {p : TeP} {t : Te} (h : TeIn w p t) (k : Nat) : w.frozen? ⟨p.q, k, none⟩ = false := frozen_of_heap h.box _
theorem bad_grown {w w2 : World} {p : TeP} {a' : Option Addr} (hB : p.B ≤ w.heap.size) (hb : ∀ g, blk p.ad = some g → p.B ≤ g) (hor : a' = p.ad ∨ (a' = some ⟨w.heap.size, 0, none⟩ ∧ w.heap.size < w2.heap.size ∧ Ext w w2)) : ∀ g, blk a' = some g → p.B ≤ g := by
  rintro g hg
  rcases hor with rfl | ⟨rfl, _⟩
  · exact hb g hg
  · simp [blk] at hg; omega
theorem Kp.old {B : Nat} {w w2 : World} (h : Kp B none w w2) {p : TeP} {t : Te} (hp : TeIn w p t) (k : Nat) (hk : k < 6) : (∃ old, w2.cell? ⟨p.q, k, none⟩ = some old) ∧ w2.frozen? ⟨p.q, k, none⟩ = false := by
  have hb2 : w2.heap[p.q]? = some (.cells (teV p t) 74) := h.oth _ _ hp.box (by simp) (fun c fz hh => by injection hh with _ h2; exact absurd h2 (by decide))
  refine ⟨?_, frozen_of_heap hb2 _⟩
  rw [cell_of_heap hb2]; exact ⟨_, Array.getElem?_eq_getElem (by show k < 6; exact hk)⟩
theorem te_app {w : World} {p : TeP} {t : Te} (h : TeIn w p t) (hsz : t.b.size ≤ 1073741824) (m : ByteArray) (hm : m.size ≤ 1073741824) {b : Nat} {w1 : World} (hn : New w (.cells (bytesV m).toArray 5) b w1) {K : Option Addr → Nat → World → Prop}
    (hK : ∀ a' c' w2, AppRun Tryz.prog #[40, 40] 40 (.slice p.ad t.b.size p.c) (.slice (some ⟨b, 0, none⟩) m.size m.size) w1 a' (t.b.size + m.size) c' w2 → KO w1 w2 → (∃ old, w2.cell? ⟨p.q, 0, none⟩ = some old) → w2.frozen? ⟨p.q, 0, none⟩ = false →
      (∀ w3, Stored w2 ⟨p.q, 0, none⟩ (.slice a' (t.b.size + m.size) c') w3 → TeOut w w3 p ⟨p.B, p.q, a', c'⟩ (teB t (t.b ++ m))) → K a' c' w2) : ∃ a' c' w2, K a' c' w2 := by
  obtain ⟨a', c', w2, hrun, hko, hrow, hg, hor, _⟩ := (h.row.ext hn.ext).pushS (P := Tryz.prog) (ty := 40) elem8 (by decide) (sa := some ⟨b, 0, none⟩) (m := m.size) (cx := m.size) (news := bytesV m) (by rw [bytesV_len]; omega) (.inr ⟨b, 0, rfl, fun j v hv => by rw [Nat.zero_add, hn.cell, List.getElem?_toArray]; exact hv⟩) (bytesV_one _) (by unfold maxLen; omega) (.inr (by omega))
  have hz := hn.ext.size
  have hk1 : Kp p.B none w1 w2 := Kp.grown (h.row.ext hn.ext) hg (Nat.le_trans h.bw hz) h.bad
  have hk : Kp p.B none w w2 := (Kp.ext h.bw hn.ext).trans hk1
  obtain ⟨o1, o2⟩ := hk.old h 0 (by decide)
  refine ⟨a', c', w2, hK a' c' w2 hrun hko o1 o2 fun w3 hs => te_new h hk (by rw [ByteArray.size_append]) (by rw [bytesV_append]; exact hrow) (bad_grown (Nat.le_trans h.bw hz) h.bad hor) hs⟩
theorem appI_ok : sAppI.Ok Tryz.prog 49 := by
  rintro ⟨B, ad, c, s, i⟩ w ⟨ht, hrow, hb, hB, hs, h0, h1⟩
  dsimp only at ht hrow hb hB hs h0 h1
  have hown : w.ownsRow B 5 1 (.slice ad s.size c) s.size (bytesV s) := by
    refine ⟨hrow.1, ?_⟩
    rcases hrow.2 with ⟨rfl, h2, h3⟩ | ⟨g, cur, rfl, h2, h3, h4, h5, h6⟩
    · left; rw [h2, h3]; exact ⟨rfl, rfl⟩
    · exact .inr ⟨g, c, cur, rfl, hb g rfl, h2, h3, h4, h5, h6⟩
  refine (Tryz.strconv_AppendInt_10 B s.size i h0 h1 (.slice ad s.size c) (bytesV s) w hown hB (by omega) ht).mono ?_
  rintro e w' ⟨v, he, hown', hbl, hok⟩
  have hz : (s ++ itoaB i).size = s.size + (Lib.itoa i).length := by rw [ByteArray.size_append]; rfl
  have hv : bytesV (s ++ itoaB i) = bytesV s ++ Lib.byteCells (Lib.itoa i) := by rw [bytesV_append]; congr 1
  have hko : KO w w' := ⟨hbl.size, fun k o _ hk ho => hok k o hk (by simp) (fun c fz h => by subst h; cases ho)⟩
  rcases hown'.2 with ⟨rfl, h2⟩ | ⟨g, cap, cur, rfl, h2, h3, h4, h5, h6, h7⟩
  · refine ⟨(none, 0, 0), he, ⟨?_, ⟨?_, .inl ⟨rfl, rfl, rfl⟩⟩, fun q hq => (by cases hq), hbl, hok⟩, hko⟩
    · show 0 = (s ++ itoaB i).size; omega
    · show (bytesV (s ++ itoaB i)).length = 0 * 1
      rw [hv, hown'.1]; omega
  · refine ⟨(some ⟨g, 0, none⟩, (s ++ itoaB i).size, cap), by rw [he, ← hz]; rfl, ⟨rfl, ⟨?_, .inr ⟨g, cur, rfl, h3, ?_, h5, h6, ?_⟩⟩, fun q hq => (by cases hq; exact h2), hbl, hok⟩, hko⟩
    · show (bytesV (s ++ itoaB i)).length = (s ++ itoaB i).size * 1
      rw [hv, hz]; exact hown'.1
    · show (s ++ itoaB i).size ≤ cap; omega
    · show cur.toList.take ((s ++ itoaB i).size * 1) = bytesV (s ++ itoaB i)
      rw [hv, hz]; exact h7
theorem nums_snoc : ∀ (l : List Int) (first : Bool) (n : Int), numsB first (l ++ [n]) = numsB first l ++ (if (l.isEmpty && first) = true then ⟨#[]⟩ else ⟨#[59]⟩) ++ itoaB n
  | [], first, n => by
    show (if first = true then _ else _) ++ itoaB n ++ ⟨#[]⟩ = ⟨#[]⟩ ++ _ ++ itoaB n
    cases first
    · show (⟨#[59]⟩ : ByteArray) ++ itoaB n ++ .empty = .empty ++ (⟨#[59]⟩ : ByteArray) ++ itoaB n
      rw [ByteArray.append_empty, ByteArray.empty_append]
    · show (.empty : ByteArray) ++ itoaB n ++ .empty = .empty ++ .empty ++ itoaB n
      simp only [ByteArray.append_empty, ByteArray.empty_append]
  | a :: l, first, n => by
    show _ ++ itoaB a ++ numsB false (l ++ [n]) = (_ ++ itoaB a ++ numsB false l) ++ _ ++ itoaB n
    rw [nums_snoc l false n]
    simp only [List.isEmpty_cons, Bool.false_and, Bool.and_false, Bool.false_eq_true, if_false, ByteArray.append_assoc]
theorem pfx_succ {l : List Int} {i : Nat} (h : i < l.length) : pfx l (i + 1) = pfx l i ++ (if i = 0 then ⟨#[]⟩ else ⟨#[59]⟩) ++ itoaB (l.getD i 0) := by
  unfold pfx
  rw [List.take_succ_eq_append_getElem h, nums_snoc, List.getD_eq_getElem?_getD, List.getElem?_eq_getElem h]
  congr 2
  cases i with
  | zero => rfl
  | succ k =>
    cases l with
    | nil => simp at h
    | cons a l => rfl
theorem itoa_len {n : Int} (h0 : -9223372036854775808 ≤ n) (h1 : n ≤ 9223372036854775807) : (itoaB n).size ≤ 21 := by
  have := Lib.itoa_length_le n h0 h1
  exact this
theorem nums_len : ∀ (l : List Int) (first : Bool), (∀ n ∈ l, -9223372036854775808 ≤ n ∧ n ≤ 9223372036854775807) → (numsB first l).size ≤ 22 * l.length
  | [], _, _ => Nat.le_refl _
  | a :: l, first, h => by
    have h1 := itoa_len (h a (by simp)).1 (h a (by simp)).2
    have h2 := nums_len l false (fun n hn => h n (by simp [hn]))
    show ((if first = true then _ else _) ++ itoaB a ++ numsB false l).size ≤ _
    rw [ByteArray.size_append, ByteArray.size_append, List.length_cons]
    have h3 : ((if first = true then ⟨#[]⟩ else ⟨#[59]⟩ : ByteArray)).size ≤ 1 := by cases first <;> decide
    omega
theorem say_ok : sSay.Ok Tryz.prog 35 := by
  refine say_vc ⟨appI_ok, trivial⟩ ?_
  rintro ⟨p, t, c, la, lc, l⟩ w ⟨hT, hl, hsz, hll, hli⟩
  dsimp only at hT hl hsz hll hli ⊢
  have hlq : ∀ g, some p.q = some g → blk la ≠ some g := fun g hg hh => by
    cases hg
    obtain ⟨cur, h1⟩ := row_cells hl hh
    rw [hT.box] at h1
    injection h1 with h2
    injection h2 with _ h3
    exact absurd h3 (by decide)
  have hps : ∀ i, (pfx l i).size ≤ 352 := fun i => by
    have := nums_len (l.take i) true (fun n hn => hli n (List.mem_of_mem_take hn))
    rw [List.length_take] at this
    unfold pfx; omega
  refine ⟨_, _, _, by rw [cell_of_heap hT.box]; rfl, ?_⟩
  intro b w1 hn
  refine te_app hT (by omega) ⟨#[27, 91]⟩ (by decide) hn fun a' c' w2 hrun hko h1 h2 hst => ⟨hrun, hko, rfl, h1, h2, fun w3 hs => ?_⟩
  have hO3 := hst w3 hs
  refine ⟨⟨(0, ⟨p.B, p.q, a', c'⟩), rfl, Nat.zero_le _, ?_⟩, ?_⟩
  · have e : sayP t l 0 = teB t (t.b ++ ⟨#[27, 91]⟩) := by
      unfold sayP pfx
      rw [List.take_zero]
      show teB t (_ ++ .empty) = _
      rw [ByteArray.append_empty]
    dsimp only
    rw [e]; exact hO3
  rintro _ ⟨i, ⟨B4, q4, a4, c4⟩⟩ w4 ⟨hi, hO4⟩
  obtain rfl : B4 = p.B := hO4.b
  obtain rfl : q4 = p.q := hO4.q
  dsimp only at hi hO4 ⊢
  have hl4 := hl.kp hO4.kp (by decide) hlq
  have hPs : ∀ i, (sayP t l i).b.size ≤ 1073741000 := fun i => by
    have := hps i
    show (t.b ++ ⟨#[27, 91]⟩ ++ pfx l i).size ≤ _
    rw [ByteArray.size_append, ByteArray.size_append]
    show t.b.size + 2 + _ ≤ _
    omega
  have hP4 := hPs i
  have hcell : ∀ {w : World} {p' : TeP} {t' : Te}, TeIn w p' t' → w.cell? ⟨p'.q, 0, none⟩ = some (.slice p'.ad t'.b.size p'.c) := fun h => by rw [cell_of_heap h.box]; rfl
  have hc4 := hcell hO4.is
  refine bcase_mk (fun h => ?_) (fun h => ?_)
  · have hlt : i < l.length := by have := of_decide_eq_true h; omega
    refine ⟨i, rfl, hlt, hl4.cells.int hlt fun b1 o1 hb1 => ⟨_, hb1, ⟨bcase_mk (fun h0 => ?_) (fun h0 => ?_), ?_⟩⟩⟩
    · have h0 : 0 < i := by have := of_decide_eq_true h0; omega
      refine ⟨_, _, _, hc4, ?_⟩
      intro b5 w5 hn5
      refine te_app hO4.is (by omega) ⟨#[59]⟩ (by decide) hn5 fun a' c' w6 hrun hko h1 h2 hst => ⟨hrun, hko, rfl, h1, h2, fun w7 hs => ⟨⟨p.B, p.q, a', c'⟩, i, rfl, hO4.trans ?_⟩⟩
      have e : sayQ t l i = teB (sayP t l i) ((sayP t l i).b ++ ⟨#[59]⟩) := by
        unfold sayQ; rw [if_neg (by omega)]; rfl
      rw [e]; exact hst w7 hs
    · have h0 : i = 0 := by have := of_decide_eq_false h0; omega
      refine ⟨⟨p.B, p.q, a4, c4⟩, i, rfl, ?_⟩
      have e : sayQ t l i = sayP t l i := by
        unfold sayQ; rw [if_pos h0]
        show teB t (_ ++ .empty) = _
        rw [ByteArray.append_empty]; rfl
      rw [e]; exact hO4
    · rintro _ ⟨B5, q5, a5, c5⟩ w5 ⟨i', hi', hO5⟩
      obtain rfl : B5 = p.B := hO5.b
      obtain rfl : q5 = p.q := hO5.q
      obtain rfl : i = i' := by have h : (i : Int) = (i' : Int) := by injection hi'
                                omega
      have hQs : (sayQ t l i).b.size ≤ 1073741824 := by
        show ((sayP t l i).b ++ _).size ≤ _
        rw [ByteArray.size_append]
        have : ((if i = 0 then ⟨#[]⟩ else ⟨#[59]⟩ : ByteArray)).size ≤ 1 := by split <;> decide
        omega
      have hx := hli (l.getD i 0) (by rw [List.getD_eq_getElem?_getD, List.getElem?_eq_getElem hlt]; exact List.getElem_mem hlt)
      have hc5 := hcell hO5.is
      refine ⟨_, _, _, hc5, ⟨p.B, a5, c5, (sayQ t l i).b, l.getD i 0⟩, rfl, ⟨hO5.is.tab, hO5.is.row, hO5.is.bad, hO5.is.bw, hQs, hx.1, hx.2⟩, ?_⟩
      rintro ⟨a6, n6, c6⟩ w6 ⟨hn6, hr6, hb6, hk6⟩
      dsimp only at hn6 hr6 hb6 hk6 ⊢
      have hold := hk6.old hO5.is 0 (by decide)
      refine ⟨rfl, hold.1, hold.2, fun w7 hs7 => ⟨inr_i64 (by omega) (by omega), (i + 1, ⟨p.B, p.q, a6, c6⟩), rfl, ⟨hlt, hO5.trans ?_⟩, by dsimp only; omega⟩⟩
      have e : sayP t l (i + 1) = teB (sayQ t l i) ((sayQ t l i).b ++ itoaB (l.getD i 0)) := by
        have e1 : t.b ++ ⟨#[27, 91]⟩ ++ pfx l (i + 1) = t.b ++ ⟨#[27, 91]⟩ ++ pfx l i ++ (if i = 0 then ⟨#[]⟩ else ⟨#[59]⟩) ++ itoaB (l.getD i 0) := by
          rw [pfx_succ hlt]
          simp only [ByteArray.append_assoc]
        unfold sayP
        rw [e1]; rfl
      dsimp only
      rw [e]
      exact te_new hO5.is hk6 hn6 hr6 hb6 hs7
  · have hi : i = l.length := by have := of_decide_eq_false h; omega
    refine ⟨_, _, _, hc4, ?_⟩
    intro b5 w5 hn5
    refine te_app hO4.is (by omega) ⟨#[c]⟩ (by show 1 ≤ _; decide) hn5 fun a' c' w6 hrun hko h1 h2 hst => ⟨hrun, hko, rfl, h1, h2, fun w7 hs => ?_⟩
    have hO7 := hst w7 hs
    have e : t.b ++ (⟨#[27, 91]⟩ ++ numsB true l ++ ⟨#[c]⟩) = t.b ++ ⟨#[27, 91]⟩ ++ pfx l i ++ ⟨#[c]⟩ := by
      unfold pfx
      rw [List.take_of_length_le (by omega)]
      simp only [ByteArray.append_assoc]
    refine ⟨rfl, hO7.is.old (k := 2) (by decide), hO7.is.free 2, fun w8 hs8 => ⟨_, rfl, (hO4.trans hO7).trans (te_put hO7.is hs8 ?_ e)⟩⟩
    show _ = teV ⟨p.B, p.q, a', c'⟩ ⟨t.b ++ (⟨#[27, 91]⟩ ++ numsB true l ++ ⟨#[c]⟩), t.ps, ⟨#[]⟩, t.st, t.w, t.wd⟩
    rw [e]; rfl
end

section
open Go Go.RowKit Vc Ut Tb Cl
theorem and_u16 {a b : Nat} (ha : a < 65536) (hb : b < 65536) : IntKind.u16.wrap (((BitVec.ofInt IntKind.u16.bits (a : Int) &&& BitVec.ofInt IntKind.u16.bits (b : Int)).toNat : Nat) : Int) = ((a &&& b : Nat) : Int) := by
  have h : (BitVec.ofInt IntKind.u16.bits (a : Int) &&& BitVec.ofInt IntKind.u16.bits (b : Int)).toNat = a &&& b := by
    rw [BitVec.toNat_and, BitVec.ofInt_natCast, BitVec.ofInt_natCast, BitVec.toNat_ofNat, BitVec.toNat_ofNat]
    show (a % 65536) &&& (b % 65536) = _
    rw [Nat.mod_eq_of_lt ha, Nat.mod_eq_of_lt hb]
  rw [h]
  have h2 : a &&& b ≤ a := Nat.and_le_left
  exact InR.wrap ⟨by show (0 : Int) ≤ _; omega, by show _ ≤ (65535 : Int); omega⟩
theorem and_pow (a k : Nat) : a &&& 2 ^ k = (a / 2 ^ k % 2) * 2 ^ k := by
  have hb : a.testBit k = decide (a / 2 ^ k % 2 = 1) := Nat.testBit_eq_decide_div_mod_eq
  have hm : a / 2 ^ k % 2 < 2 := Nat.mod_lt _ (by decide)
  apply Nat.eq_of_testBit_eq
  intro i
  rw [Nat.testBit_and, Nat.testBit_two_pow]
  by_cases h : a / 2 ^ k % 2 = 1
  · rw [h, Nat.one_mul, Nat.testBit_two_pow]
    by_cases hi : k = i
    · subst hi; rw [hb, h]; rfl
    · rw [decide_eq_false hi, Bool.and_false]
  · rw [show a / 2 ^ k % 2 = 0 from by omega, Nat.zero_mul, Nat.zero_testBit]
    by_cases hi : k = i
    · subst hi; rw [hb, decide_eq_false h]; rfl
    · rw [decide_eq_false hi, Bool.and_false]
theorem bit_is {st j : Nat} (hs : st < 65536) (hj : j < 4) : (IntKind.u16.wrap (((BitVec.ofInt IntKind.u16.bits (st : Int) &&& BitVec.ofInt IntKind.u16.bits (IntKind.u16.wrap (1 * 2 ^ min (8 + (j : Int)).toNat IntKind.u16.bits))).toNat : Nat) : Int) != 0) = decide (st / 2 ^ (8 + j) % 2 = 1) := by
  have e : IntKind.u16.wrap (1 * 2 ^ min (8 + (j : Int)).toNat IntKind.u16.bits) = ((2 ^ (8 + j) : Nat) : Int) := by
    rcases (by omega : j = 0 ∨ j = 1 ∨ j = 2 ∨ j = 3) with rfl | rfl | rfl | rfl <;> rfl
  have hp : 2 ^ (8 + j) < 65536 := by
    rcases (by omega : j = 0 ∨ j = 1 ∨ j = 2 ∨ j = 3) with rfl | rfl | rfl | rfl <;> decide
  have hp0 : 0 < 2 ^ (8 + j) := Nat.pow_pos (by decide)
  rw [e, and_u16 hs hp, and_pow]
  have : st / 2 ^ (8 + j) % 2 < 2 := Nat.mod_lt _ (by decide)
  rw [Bool.eq_iff_iff, bne_iff_ne, decide_eq_true_iff]
  constructor
  · intro h
    by_cases h1 : st / 2 ^ (8 + j) % 2 = 1
    · exact h1
    · exfalso; apply h
      rw [show st / 2 ^ (8 + j) % 2 = 0 from by omega, Nat.zero_mul]; rfl
  · intro h; rw [h, Nat.one_mul]; omega
theorem low_is {st : Nat} (hs : st < 65536) : IntKind.u16.wrap (((BitVec.ofInt IntKind.u16.bits (st : Int) &&& BitVec.ofInt IntKind.u16.bits 255).toNat : Nat) : Int) = ((st % 256 : Nat) : Int) := by
  rw [show (255 : Int) = ((255 : Nat) : Int) from rfl, and_u16 hs (by decide), show (255 : Nat) = 2 ^ 8 - 1 from rfl, Nat.and_two_pow_sub_one_eq_mod]
theorem high_is (st : Nat) : ((st : Int)).fdiv (2 ^ min (Int.toNat 12) IntKind.u16.bits) = ((st / 4096 : Nat) : Int) := by
  rw [show ((2 : Int) ^ min (Int.toNat 12) IntKind.u16.bits) = 4096 from rfl, Int.fdiv_eq_ediv_of_nonneg _ (by decide)]; rfl
theorem wearA_succ (st i : Nat) : wearA st (i + 1) = wearA st i ++ (if st / 2 ^ (8 + i) % 2 = 1 then [[1, 3, 4, 7].getD i 0] else []) := by
  unfold wearA
  rw [List.range_succ, List.filter_append, List.map_append]
  congr 1
  by_cases h : st / 2 ^ (8 + i) % 2 = 1
  · rw [if_pos h]; simp [h]
  · rw [if_neg h]; simp [h]
theorem wearA_len (st i : Nat) : (wearA st i).length ≤ i := by
  unfold wearA; rw [List.length_map]; have := List.length_filter_le (fun j => decide (st / 2 ^ (8 + j) % 2 = 1)) (List.range i); simpa using this
theorem wearA_bd (st : Nat) {i : Nat} : ∀ n ∈ wearA st i, 0 ≤ n ∧ n ≤ 7 := by
  intro n hn
  unfold wearA at hn
  obtain ⟨j, _, rfl⟩ := List.mem_map.1 hn
  match j with
  | 0 => decide
  | 1 => decide
  | 2 => decide
  | 3 => decide
  | k + 4 => exact ⟨by show (0 : Int) ≤ 0; decide, by show (0 : Int) ≤ 7; decide⟩
theorem wearN_len (st : Nat) : (wearN st).length ≤ 11 := by
  unfold wearN
  have := wearA_len st 4
  rw [List.length_append, List.length_append, List.length_append]
  have h1 : (if st % 256 ≠ 0 then [38, 5, ((st % 256 : Nat) : Int)] else []).length ≤ 3 := by split <;> simp
  have h2 : (if st / 4096 ≠ 0 then [48, 5, ((st / 4096 : Nat) : Int)] else []).length ≤ 3 := by split <;> simp
  have h3 : ([0] : List Int).length = 1 := rfl
  omega
theorem wearN_bd {st : Nat} (hs : st < 65536) : ∀ n ∈ wearN st, 0 ≤ n ∧ n ≤ 255 := by
  intro n hn
  unfold wearN at hn
  simp only [List.mem_append] at hn
  rcases hn with ((hn | hn) | hn) | hn
  · simp at hn; subst hn; decide
  · have := wearA_bd st n hn; omega
  · split at hn
    · simp only [List.mem_cons, List.not_mem_nil, or_false] at hn
      rcases hn with rfl | rfl | rfl <;> omega
    · cases hn
  · split at hn
    · simp only [List.mem_cons, List.not_mem_nil, or_false] at hn
      rcases hn with rfl | rfl | rfl <;> omega
    · cases hn
theorem move_ok : sMove.Ok Tryz.prog 38 := by
  refine move_vc ⟨say_ok, trivial⟩ ?_
  rintro ⟨p, t, i⟩ w ⟨hT, ⟨hw0, hw1, hst⟩, hi, hsz⟩ w1 hd
  dsimp only at hT hw0 hw1 hst hi hsz ⊢
  have hcw : w.cell? ⟨p.q, 4, none⟩ = some (.int .i64 t.w) := by rw [cell_of_heap hT.box]; rfl
  have hq : (i : Int) / t.w ≤ 1048576 := by
    have h1 : (i : Int) / t.w ≤ (i : Int) := Int.ediv_le_self _ (by omega)
    omega
  have hq0 : 0 ≤ (i : Int) / t.w := Int.ediv_nonneg (by omega) (by omega)
  have hr0 : 0 ≤ (i : Int) % t.w := Int.emod_nonneg _ (by omega)
  have hr1 : (i : Int) % t.w < t.w := Int.emod_lt_of_pos _ hw0
  refine ⟨_, hcw, by omega, hw0, inr_i64 (by omega) (by omega), inr_i64 (by omega) (by omega), _, hcw, by omega, hw0, inr_i64 (by omega) (by omega), ?_⟩
  intro b w2 hn
  have e02 := Ext.trans hd.ext hn.ext
  have hm := Made.box (s := 1) (n := 2) hn (Ext.refl _) rfl (by unfold maxLen; decide)
  refine ⟨hn.ext, ⟨p, t, 72, some ⟨b, 0, none⟩, 2, [(i : Int) / t.w + 1, (i : Int) % t.w + 1]⟩, rfl, ⟨hT.ext e02, hm.row, hsz, by show 2 ≤ 16; decide, ?_⟩, ?_⟩
  · intro n hn
    simp only [List.mem_cons, List.not_mem_nil, or_false] at hn
    rcases hn with rfl | rfl <;> omega
  rintro ⟨B3, q3, a3, c3⟩ w3 hO
  obtain rfl : B3 = p.B := hO.b
  obtain rfl : q3 = p.q := hO.q
  dsimp only at hO ⊢
  refine ⟨rfl, hO.is.old (k := 1) (by decide), hO.is.free 1, fun w4 hs => ⟨_, rfl, ((TeOut.ext hT e02).trans hO).trans (te_put hO.is hs rfl rfl)⟩⟩
set_option maxRecDepth 2000 in
theorem wear_ok : sWear.Ok Tryz.prog 34 := by
  refine wear_vc ⟨say_ok, trivial⟩ ?_
  rintro ⟨p, t, st⟩ w ⟨hT, hst, hsz⟩ b w1 hn
  dsimp only at hT hst hsz ⊢
  have hm := Made.box (s := 1) (n := 1) hn (Ext.refl _) rfl (by unfold maxLen; decide)
  have add : ∀ {w2 w3 : World} {a : Option Addr} {n c b : Nat} {l news : List Int}, Made w w2 3 1 a n (l.map (Value.int .i64)) c → n ≤ 16 → news.length ≤ 3 → New w2 (.cells (news.map (Value.int .i64)).toArray 3) b w3 →
      ∃ a' c' w4, AppRun Tryz.prog #[61, 61] 61 (.slice a n c) (.slice (some ⟨b, 0, none⟩) news.length news.length) w3 a' (n + news.length) c' w4 ∧ KO w3 w4 ∧ Made w w4 3 1 a' (n + news.length) ((l ++ news).map (Value.int .i64)) c' := by
    intro w2 w3 a n c b l news hm hn16 hl3 hn
    obtain ⟨a', c', w4, hrun, hko, hm4, _⟩ := hm.pushN (P := Tryz.prog) (ty := 61) elem64 (by decide) (m := news.length) (news := news.map (Value.int .i64)) hn (by simp) (one_ints _ _) (by unfold maxLen; omega) (.inr (by omega))
    rw [← List.map_append] at hm4
    exact ⟨a', c', w4, hrun, hko, hm4⟩
  refine ⟨⟨(0, some ⟨b, 0, none⟩, 1), rfl, rfl, Nat.zero_le _, hm⟩, ?_⟩
  rintro _ ⟨i, a, c⟩ w2 ⟨hi, hm2⟩
  dsimp only at hi hm2 ⊢
  have hal := wearA_len st i
  refine bcase_mk (fun h => ?_) (fun h => ?_)
  · have hlt : i < 4 := by have := of_decide_eq_true h; omega
    have hA := wearA_succ st i
    refine ⟨i, rfl, hlt, [1, 3, 4, 7].getD i 0, ?_, inr_i64 (by omega) (by omega), ?_⟩
    · rcases (by omega : i = 0 ∨ i = 1 ∨ i = 2 ∨ i = 3) with rfl | rfl | rfl | rfl <;> rfl
    rw [bit_is hst hlt]
    refine bcase_mk (fun h1 => ?_) (fun h1 => ?_)
    · intro b3 w3 hn3
      rw [if_pos (of_decide_eq_true h1)] at hA
      obtain ⟨a', c', w4, hrun, hko, hm4⟩ := add (news := [[1, 3, 4, 7].getD i 0]) hm2 (by omega) (by simp) hn3
      refine ⟨a', c', w4, hrun, hko, inr_i64 (by omega) (by omega), (i + 1, a', c'), rfl, ?_, ⟨hlt, ?_⟩, by dsimp only; omega⟩
      · dsimp only; rw [hA, List.length_append]; rfl
      · dsimp only; rw [hA, List.length_append, ← List.append_assoc]; exact hm4
    · rw [if_neg (of_decide_eq_false h1), List.append_nil] at hA
      refine ⟨inr_i64 (by omega) (by omega), (i + 1, a, c), rfl, ?_, ⟨hlt, ?_⟩, by dsimp only; omega⟩
      · dsimp only; rw [hA]
      · dsimp only; rw [hA]; exact hm2
  · have hi4 : i = 4 := by have := of_decide_eq_false h; omega
    subst hi4
    rw [low_is hst]
    have hmod : st % 256 < 256 := Nat.mod_lt _ (by decide)
    have hB : wearB st = [0] ++ wearA st 4 ++ (if st % 256 ≠ 0 then [38, 5, ((st % 256 : Nat) : Int)] else []) := rfl
    refine ⟨⟨inr_i64 (by omega) (by omega), bcase_mk (fun h1 => ?_) (fun h1 => ?_)⟩, ?_⟩
    · intro b3 w3 hn3
      have h1 : st % 256 ≠ 0 := by have := bne_iff_ne.1 h1; omega
      rw [if_pos h1] at hB
      obtain ⟨a', c', w4, hrun, hko, hm4⟩ := add (news := [38, 5, ((st % 256 : Nat) : Int)]) hm2 (by omega) (by simp) hn3
      have hlen : (wearB st).length = 1 + (wearA st 4).length + 3 := by rw [hB, List.length_append, List.length_append]; rfl
      refine ⟨a', c', w4, hrun, hko, (a', c'), by rw [hlen], ?_⟩
      rw [hlen, hB]; exact hm4
    · have h1 : ¬ st % 256 ≠ 0 := by have := bne_eq_false_iff_eq.1 h1; omega
      rw [if_neg h1, List.append_nil] at hB
      have hlen : (wearB st).length = 1 + (wearA st 4).length := by rw [hB, List.length_append]; rfl
      refine ⟨(a, c), by rw [hlen], ?_⟩
      rw [hlen, hB]; exact hm2
    rintro _ ⟨a3, c3⟩ w3 hm3
    dsimp only at hm3 ⊢
    rw [high_is]
    have hN : wearN st = wearB st ++ (if st / 4096 ≠ 0 then [48, 5, ((st / 4096 : Nat) : Int)] else []) := rfl
    have hNl := wearN_len st
    have hBl : (wearB st).length ≤ 11 := by rw [hN, List.length_append] at hNl; omega
    refine ⟨⟨inr_i64 (by omega) (by omega), bcase_mk (fun h1 => ?_) (fun h1 => ?_)⟩, ?_⟩
    · intro b4 w4 hn4
      have h1 : st / 4096 ≠ 0 := by have := bne_iff_ne.1 h1; omega
      rw [if_pos h1] at hN
      obtain ⟨a', c', w5, hrun, hko, hm5⟩ := add (news := [48, 5, ((st / 4096 : Nat) : Int)]) hm3 (by omega) (by simp) hn4
      have hlen : (wearN st).length = (wearB st).length + 3 := by rw [hN, List.length_append]; rfl
      refine ⟨a', c', w5, hrun, hko, (a', c'), by rw [hlen], ?_⟩
      rw [hlen, hN]; exact hm5
    · have h1 : ¬ st / 4096 ≠ 0 := by have := bne_eq_false_iff_eq.1 h1; omega
      rw [if_neg h1, List.append_nil] at hN
      refine ⟨(a3, c3), by rw [hN], ?_⟩
      rw [hN]; exact hm3
    rintro _ ⟨a4, c4⟩ w4 hm4
    dsimp only at hm4 ⊢
    refine ⟨⟨p, t, 109, a4, c4, wearN st⟩, rfl, ⟨hT.ext hm4.ext, hm4.row, hsz, by dsimp only; omega, fun n hn => ?_⟩, ?_⟩
    · have := wearN_bd hst n hn; omega
    rintro ⟨B5, q5, a5, c5⟩ w5 hO
    obtain rfl : B5 = p.B := hO.b
    obtain rfl : q5 = p.q := hO.q
    dsimp only at hO ⊢
    refine ⟨rfl, hO.is.old (k := 3) (by decide), hO.is.free 3, fun w6 hs => ⟨_, rfl, ((TeOut.ext hT hm4.ext).trans hO).trans (te_put hO.is hs rfl rfl)⟩⟩
end

section
open Go Go.RowKit Vc Ut Tb Cl
def likeB (a b : Gr) : Bool := a.w == b.w && (a.h == b.h && (a.x == b.x && (a.y == b.y && decide (a.cs = b.cs))))
structure GCs where
  ad : Option Addr
  c : Nat
  cs : List Ce
def sLikeW : CallSpec where
  G := GGg
  args := fun g => #[grA g.a1 g.c1 g.g1, grA g.a2 g.c2 g.g2]
  pre := fun g w => grIn w g.a1 g.g1.cs ∧ grIn w g.a2 g.g2.cs
  X := Bool
  res := fun x => .bool x
  post := fun g w x w' => x = likeB g.g1 g.g2 ∧ Ext w w'
def annLikeW (g : GGg) (_ : World) : Ann where
  sp := []
  loops := [(4, {
    X := Nat
    sh := fun _ i => [(44, .int .i64 i)]
    inv := fun _ w0 i w => i ≤ g.g1.cs.length ∧ g.g1.cs.take i = g.g2.cs.take i ∧ Ext w0 w
    mu := fun _ _ i _ => g.g1.cs.length - i })]
def sBeyond : CallSpec where
  G := GCs
  args := fun g => #[.slice g.ad g.cs.length g.c]
  pre := fun g w => CellsAt w g.ad (flat g.cs) ∧ bulkC g.cs ≤ 16777216
  X := Unit
  res := fun _ => .bool false
  post := fun _ w _ w' => Ext w w'
def annBeyond (g : GCs) (_ : World) : Ann where
  sp := []
  loops := [(3, {
    X := Nat
    sh := fun _ i => [(7, .int .i64 i), (3, .int .i64 (bulkC (g.cs.take i)))]
    inv := fun _ w0 i w => i ≤ g.cs.length ∧ Ext w0 w
    mu := fun _ _ i _ => g.cs.length - i })]
def markC : Ce := ⟨⟨#[]⟩, 77, 0, 0, false, 0⟩
structure GTw where
  ad : Option Addr
  c : Nat
  g : Gr
def sTwin : CallSpec where
  G := GTw
  args := fun g => #[grA g.ad g.c g.g]
  pre := fun g w => grIn w g.ad g.g.cs
  X := GTw
  res := fun x => grA x.ad x.c x.g
  post := fun g w x w' => x.g = g.g ∧ Made w w' 52 6 x.ad (g.g.cs.length + 1) (flat (g.g.cs ++ [markC])) x.c
structure GKp where
  a1 : Option Addr
  c1 : Nat
  a2 : Option Addr
  c2 : Nat
  g : Gr
def sKept : CallSpec where
  G := GKp
  args := fun g => #[grA g.a1 g.c1 g.g, grA g.a2 g.c2 g.g]
  pre := fun g w => CellsAt w g.a1 (flat (g.g.cs ++ [markC])) ∧ g.g.cs.length + 1 ≤ g.c1 ∧ grIn w g.a2 g.g.cs
  X := Unit
  res := fun _ => .bool true
  post := fun _ w _ w' => Ext w w'
def spKept : List (Nat × CallSpec) := [(32, sLikeW)]
end
end Go.Proofs.YtjdohhididpomaaGreatDoor
