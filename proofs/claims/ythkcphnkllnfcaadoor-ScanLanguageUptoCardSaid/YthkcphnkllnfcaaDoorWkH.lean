/-
  Chapter 1: the law on whole texts, their lists written over.
-/
import Derived.Test.YthkcphnkllnfcaaDoorVgH
import Derived.Test.YthkcphnkllnfcaaDoorWkF
set_option linter.unusedVariables false
set_option linter.unusedSimpArgs false
namespace Go.Proofs.YthkcphnkllnfcaaDoor
open Go Go.RowKit Vc Ut

theorem slN_iff {a : Option Addr} {n c g : Nat} : slN (.slice a n c) g ↔ blk a = some g := by
  cases a with
  | none => simp [slN, blk]
  | some p => simp only [slN, blk, Option.map_some, Option.some.injEq]; exact eq_comm
theorem apart_hi {a l : Option Addr} {n c B : Nat} (ha : ∀ g, blk a = some g → B ≤ g) (hl : ∀ g, blk l = some g → g < B) : ∀ g, blk l = some g → ¬ slN (.slice a n c) g := fun g hg h => by
  have := ha g (slN_iff.1 h); have := hl g hg; omega
theorem apart_lo {a l : Option Addr} {n c B : Nat} (ha : ∀ g, blk a = some g → g < B) (hl : ∀ g, blk l = some g → B ≤ g) : ∀ g, blk l = some g → ¬ slN (.slice a n c) g := fun g hg h => by
  have := ha g (slN_iff.1 h); have := hl g hg; omega

theorem Twin.symm {w0 w : World} {S : Nat → Prop} {e1 e2 : TypeId} {a c : Option Addr} {na ca nc cc : Nat} (h : Twin w0 w S e1 e2 a na ca c nc cc) : Twin w0 w S e2 e1 c nc cc a na ca :=
  ⟨h.rc, h.ra, h.fr, h.ic, h.ia, fun g h1 h2 => h.ne g h2 h1⟩
theorem Twin.push {P : Program} {w0 w w1 : World} {t ty : TypeId} {bytes b : Nat} {S : Nat → Prop} {e1 e2 : TypeId} {a c : Option Addr} {na ca nc cc : Nat} {v : Value} (hE : ElemOk P t e1 1 bytes) (h : Twin w0 w S e1 e2 a na ca c nc cc) (hn : New w (.cells #[v] e1) b w1)
    (hv : v.oneCell' = true) (h63 : na + 1 ≤ maxLen) (hb : (na + 1) * bytes ≤ 140737488355328) :
    ∃ a' c' w2, AppRun P #[t, t] ty (.slice a na ca) (.slice (some ⟨b, 0, none⟩) 1 1) w1 a' (na + 1) c' w2 ∧ KO w1 w2 ∧ Twin w0 w2 S e1 e2 a' (na + 1) c' c nc cc := by
  obtain ⟨vs, hr⟩ := h.ra
  obtain ⟨us, hc⟩ := h.rc
  obtain ⟨a', c', w2, hrun, hko, hrow, hg, hor, _⟩ := hr.pushN (P := P) (ty := ty) hE (by decide) (m := 1) (news := [v]) hn rfl (by simp [hv]) h63 (.inr hb)
  refine ⟨a', c', w2, hrun, hko, ⟨_, hrow⟩, ⟨us, (hc.ext hn.ext).grown hg (fun g hg he => h.ne g he hg)⟩, ?_, ?_, h.ic, ?_⟩
  · exact (h.fr.trans (Fr.of_ext (S := S) hn.ext) (fun _ _ h => h)).trans (Fr.grown hg) (fun x hx he => (h.ia x he).elim id (fun hh => by omega))
  · intro g hgg
    rcases hor with rfl | ⟨rfl, _⟩
    · exact h.ia g hgg
    · simp [blk] at hgg; subst hgg; exact .inr (Nat.le_trans h.fr.size hn.ext.size)
  · intro g hgg hcg
    rcases hor with rfl | ⟨rfl, _⟩
    · exact h.ne g hgg hcg
    · simp [blk] at hgg; subst hgg
      have := hc.lt hcg
      have := hn.ext.size
      omega

theorem lawAll_ok : sLawS.Ok Tryd.prog 9 := by
  refine lawAll_vc ⟨rbad_ok, rrunes_ok, bad_ok, runes_ok, sameI_ok, sameR_ok, valid_ok, count_ok, clean_ok, rclean_ok, wakes_ok, trivial⟩ ?_
  rintro (s : ByteArray) w ⟨hU, hs⟩
  have hcn := cnt_le s
  have hrl := runes_len s
  have hbl := badL_len s
  have hz : s.size ≤ 67108864 := by omega
  refine ⟨s, rfl, ⟨hU, hz⟩, ?_⟩
  rintro ⟨xa, xn, xc⟩ w1 ⟨hxn, mx⟩
  dsimp only at hxn mx ⊢
  subst hxn
  have hU1 := hU.ext mx.ext
  refine ⟨s, rfl, ⟨hU1, hz⟩, ?_⟩
  rintro ⟨ya, yn, yc⟩ w2 ⟨hyn, my⟩
  dsimp only at hyn my ⊢
  subst hyn
  have hU2 := hU1.ext my.ext
  refine ⟨s, rfl, ⟨hU2, hz⟩, ?_⟩
  rintro ⟨aa, an, ac⟩ w3 ⟨han, ma⟩
  dsimp only at han ma ⊢
  subst han
  have hU3 := hU2.ext ma.ext
  refine ⟨s, rfl, ⟨hU3, hz⟩, ?_⟩
  rintro ⟨ba, bn, bc⟩ w4 ⟨hbn, mb⟩
  dsimp only at hbn mb ⊢
  subst hbn
  have hU4 := hU3.ext mb.ext
  refine ⟨s, rfl, ⟨hU4, hz⟩, ?_⟩
  rintro ⟨ca, cn, cc⟩ w5 ⟨hcn', mc⟩
  dsimp only at hcn' mc ⊢
  subst hcn'
  have hU5 := hU4.ext mc.ext
  refine ⟨s, rfl, ⟨hU5, hz⟩, ?_⟩
  rintro ⟨da, dn, dc⟩ w6 ⟨hdn, md⟩
  dsimp only at hdn md ⊢
  subst hdn
  have hU6 := hU5.ext md.ext
  have e56 := md.ext
  have e46 := mc.ext.trans e56
  have e36 := mb.ext.trans e46
  have e26 := ma.ext.trans e36
  have e16 := my.ext.trans e26
  have e06 := mx.ext.trans e16
  have gx : GSl.at .i64 ⟨xa, xc, badL s⟩ w6 := GSl.at_ext (at_made mx (by omega)) e16
  have gy : GSl.at .i32 ⟨ya, yc, runes s⟩ w6 := GSl.at_ext (at_made my (by omega)) e26
  have ga : GSl.at .i64 ⟨aa, ac, badL s⟩ w6 := GSl.at_ext (at_made ma (by omega)) e36
  have gb : GSl.at .i64 ⟨ba, bc, badL s⟩ w6 := GSl.at_ext (at_made mb (by omega)) e46
  have gc : GSl.at .i32 ⟨ca, cc, runes s⟩ w6 := GSl.at_ext (at_made mc (by omega)) e56
  have gd : GSl.at .i32 ⟨da, dc, runes s⟩ w6 := at_made md (by omega)
  refine ⟨?_, ?_⟩
  · refine ⟨⟨⟨aa, ac, badL s⟩, ⟨xa, xc, badL s⟩⟩, rfl, ⟨ga, gx⟩, ?_⟩
    rintro t u1 ⟨ht, f1⟩
    simp only [decide_true] at ht
    subst ht
    refine bcase_mk (fun h => by cases h) (fun _ => ?_)
    refine ⟨⟨⟨ba, bc, badL s⟩, ⟨xa, xc, badL s⟩⟩, rfl, ⟨GSl.at_ext gb f1, GSl.at_ext gx f1⟩, ?_⟩
    rintro t u2 ⟨ht, f2⟩
    simp only [decide_true] at ht
    subst ht
    have f12 := f1.trans f2
    refine bcase_mk (fun h => by cases h) (fun _ => ?_)
    refine ⟨⟨⟨ca, cc, runes s⟩, ⟨ya, yc, runes s⟩⟩, rfl, ⟨GSl.at_ext gc f12, GSl.at_ext gy f12⟩, ?_⟩
    rintro t u3 ⟨ht, f3⟩
    simp only [decide_true] at ht
    subst ht
    have f13 := f12.trans f3
    refine bcase_mk (fun h => by cases h) (fun _ => ?_)
    refine ⟨⟨⟨da, dc, runes s⟩, ⟨ya, yc, runes s⟩⟩, rfl, ⟨GSl.at_ext gd f13, GSl.at_ext gy f13⟩, ?_⟩
    rintro t u4 ⟨ht, f4⟩
    simp only [decide_true] at ht
    subst ht
    exact bcase_mk (fun h => by cases h) (fun _ => ⟨(), rfl, f13.trans f4⟩)
  intro _ _ w7 e67
  -- whose block is whose
  have sx := mx.ext.size
  have sy := my.ext.size
  have sa := ma.ext.size
  have sb := mb.ext.size
  have sc := mc.ext.size
  have sd := md.ext.size
  have s7 := e67.size
  have la : ∀ g, blk aa = some g → g < w3.heap.size := fun g hg => ma.row.lt hg
  have lc : ∀ g, blk ca = some g → g < w5.heap.size := fun g hg => mc.row.lt hg
  have lx : ∀ g, blk xa = some g → g < w1.heap.size := fun g hg => mx.row.lt hg
  have ly : ∀ g, blk ya = some g → g < w2.heap.size := fun g hg => my.row.lt hg
  have lb : ∀ g, blk ba = some g → g < w4.heap.size := fun g hg => mb.row.lt hg
  have ha7 : Row w7 3 1 aa (badL s).length ((badL s).map (Value.int .i64)) ac := ma.row.ext (e36.trans e67)
  have hc7 : Row w7 21 1 ca (runes s).length ((runes s).map (Value.int .i32)) cc := mc.row.ext (e56.trans e67)
  have nca : ∀ g, blk ca = some g → ¬ slN (.slice aa (badL s).length ac) g := apart_lo la (fun g hg => by have := mc.new g hg; omega)
  have nac : ∀ g, blk aa = some g → ¬ slN (.slice ca (runes s).length cc) g := apart_hi (B := w3.heap.size) (fun g hg => by have := mc.new g hg; omega) la
  refine ⟨⟨0, rfl, Nat.zero_le _, ⟨aa, ac, _, rfl, ha7⟩, Fr.refl _ _⟩, ?_⟩
  rintro _ i w8 ⟨hi, ⟨a8, c8, vs, he, hrow⟩, hf8⟩
  injection he with h1 _ h3
  subst h1 h3
  refine bcase_mk (fun h => ?_) (fun _ => ?_)
  · have hlt : i < (badL s).length := by simpa using h
    refine ⟨i, rfl, hlt, hrow.wr hlt fun g hg => ?_⟩
    subst hg
    have hst := hrow.at_store hlt
    refine ⟨rfl, hst.1, hst.2, ?_⟩
    intro w9 hs9
    refine ⟨inr_i64 (by omega) (by omega), i + 1, by simp, ⟨hlt, ⟨_, _, _, rfl, hrow.store hs9⟩, hf8.trans (Fr.stored hs9) (fun x _ hx => ?_)⟩, by omega⟩
    subst hx; exact slN_iff.2 rfl
  have hc8 : Row w8 21 1 ca (runes s).length _ cc := hc7.fr hf8 nca
  refine ⟨⟨0, rfl, Nat.zero_le _, ⟨ca, cc, _, rfl, hc8⟩, Fr.refl _ _⟩, ?_⟩
  rintro _ j w9 ⟨hj, ⟨a9, c9, us, he, hrow9⟩, hf9⟩
  injection he with h1 _ h3
  subst h1 h3
  refine bcase_mk (fun h => ?_) (fun _ => ?_)
  · have hlt : j < (runes s).length := by simpa using h
    refine ⟨j, rfl, hlt, hrow9.wr hlt fun g hg => ?_⟩
    subst hg
    have hst := hrow9.at_store hlt
    refine ⟨rfl, hst.1, hst.2, ?_⟩
    intro w10 hs10
    refine ⟨inr_i64 (by omega) (by omega), j + 1, by simp, ⟨hlt, ⟨_, _, _, rfl, hrow9.store hs10⟩, hf9.trans (Fr.stored hs10) (fun x _ hx => ?_)⟩, by omega⟩
    subst hx; exact slN_iff.2 rfl
  have ha9 : Row w9 3 1 aa (badL s).length _ ac := hrow.fr hf9 nac
  refine ⟨⟨(0, (aa, ac), (ca, cc)), rfl, rfl, rfl, Nat.zero_le _, ⟨⟨_, ha9⟩, ⟨_, hrow9⟩, Fr.refl _ _, fun g hg => .inl (.inl (slN_iff.2 hg)), fun g hg => .inl (.inr (slN_iff.2 hg)), fun g h1 h2 => nca g h2 (slN_iff.2 h1)⟩⟩, ?_⟩
  rintro _ ⟨k, ⟨pa, pc⟩, ⟨qa, qc⟩⟩ w10 ⟨hk, ht⟩
  dsimp only at hk ht ⊢
  refine bcase_mk (fun h => ?_) (fun h => ?_)
  · have hlt : k < 40 := by simp only [decide_eq_true_eq] at h; omega
    intro b w11 hn1
    obtain ⟨a2, c2, w12, hr2, hk2, ht2⟩ := ht.push (P := Tryd.prog) (t := 41) (ty := 41) elem64 hn1 rfl (by unfold maxLen; omega) (by omega)
    refine ⟨a2, c2, w12, hr2, hk2, ?_⟩
    intro b2 w13 hn2
    obtain ⟨a3, c3, w14, hr3, hk3, ht3⟩ := ht2.symm.push (P := Tryd.prog) (t := 26) (ty := 26) elem32 hn2 rfl (by unfold maxLen; omega) (by omega)
    refine ⟨a3, c3, w14, hr3, hk3, inr_i64 (by omega) (by omega), ⟨(k + 1, (a2, c2), (a3, c3)), by simp, rfl, rfl, ⟨hlt, ht3.symm⟩, ?_⟩⟩
    dsimp only
    omega
  have hk40 : k = 40 := by simp only [decide_eq_false_iff_not] at h; omega
  subst hk40
  have hF : Fr (fun q => slN (.slice aa (badL s).length ac) q ∨ slN (.slice ca (runes s).length cc) q) w7 w10 :=
    ((hf8.mono (fun _ _ h => .inl h)).trans (hf9.mono (T := fun q => slN (.slice aa (badL s).length ac) q ∨ slN (.slice ca (runes s).length cc) q) (fun _ _ h => .inr h)) (fun _ _ h => h)).trans ht.fr (fun _ _ h => h)
  have keep : ∀ {kk : IntKind} {g : GSl}, g.at kk w7 → (∀ p, blk g.ad = some p → ¬ slN (.slice aa (badL s).length ac) p) → (∀ p, blk g.ad = some p → ¬ slN (.slice ca (runes s).length cc) p) → g.at kk w10 :=
    fun h h1 h2 => ⟨h.1.fr hF (fun p hp hh => hh.elim (h1 p hp) (h2 p hp)), h.2⟩
  have hx10 := keep (GSl.at_ext gx e67) (apart_hi (B := w1.heap.size) (fun g hg => by have := ma.new g hg; omega) lx) (apart_hi (B := w1.heap.size) (fun g hg => by have := mc.new g hg; omega) lx)
  have hy10 := keep (GSl.at_ext gy e67) (apart_hi (B := w2.heap.size) (fun g hg => by have := ma.new g hg; omega) ly) (apart_hi (B := w2.heap.size) (fun g hg => by have := mc.new g hg; omega) ly)
  have hb10 := keep (GSl.at_ext gb e67) (apart_lo la (fun g hg => by have := mb.new g hg; omega)) (apart_hi (B := w4.heap.size) (fun g hg => by have := mc.new g hg; omega) lb)
  have hd10 := keep (GSl.at_ext gd e67) (apart_lo la (fun g hg => by have := md.new g hg; omega)) (apart_lo lc (fun g hg => by have := md.new g hg; omega))
  have e010 : Ext w w10 := Ext.fr_new (e06.trans e67) hF (fun q hq => by
    rcases hq with hq | hq
    · have := ma.new q (slN_iff.1 hq); omega
    · have := mc.new q (slN_iff.1 hq); omega)
  have hU10 := hU.ext e010
  refine ⟨?_, ?_⟩
  · refine ⟨⟨⟨ba, bc, badL s⟩, ⟨xa, xc, badL s⟩⟩, rfl, ⟨hb10, hx10⟩, ?_⟩
    rintro t u1 ⟨ht, f1⟩
    simp only [decide_true] at ht
    subst ht
    refine bcase_mk (fun _ => ?_) (fun h => by cases h)
    refine ⟨⟨⟨da, dc, runes s⟩, ⟨ya, yc, runes s⟩⟩, rfl, ⟨GSl.at_ext hd10 f1, GSl.at_ext hy10 f1⟩, ?_⟩
    rintro t u2 ⟨ht, f2⟩
    simp only [decide_true] at ht
    subst ht
    refine bcase_mk (fun _ => ?_) (fun h => by cases h)
    refine ⟨inr_i64 (by omega) (by omega), ?_⟩
    refine bcase_mk (fun _ => ?_) (fun h => by simp at h)
    exact ⟨inr_i64 (by omega) (by omega), (), by simp, f1.trans f2⟩
  intro _ _ w11 e1011
  have hU11 := hU10.ext e1011
  refine ⟨s, rfl, ⟨hU11, hz⟩, ?_⟩
  rintro x w12 ⟨rfl, e12⟩
  have hb : (((badL s).length : Int) == (0 : Int)) = validB s := by
    have := badL_nil s
    cases hv : validB s
    · rw [hv] at this
      have h0 : (badL s).length ≠ 0 := fun h => by have := this.1 (List.eq_nil_of_length_eq_zero h); cases this
      simp only [beq_eq_false_iff_ne, ne_eq]; omega
    · rw [this.2 hv]; rfl
  refine bcase_mk (fun _ => ?_) (fun h => by rw [hb] at h; simp at h)
  refine ⟨s, rfl, ⟨hU11.ext e12, hz⟩, ?_⟩
  rintro x w13 ⟨rfl, e13⟩
  refine bcase_mk (fun _ => ?_) (fun h => by rw [hrl] at h; simp at h)
  have hU13 := (hU11.ext e12).ext e13
  refine ⟨s, rfl, ⟨hU13, hz⟩, ?_⟩
  rintro x w14 ⟨rfl, e14⟩
  refine ⟨s, rfl, ⟨hU13.ext e14, hz⟩, ?_⟩
  rintro x w15 ⟨rfl, e15⟩
  refine bcase_mk (fun _ => ?_) (fun h => by simp at h)
  refine ⟨(), rfl, (hU13.ext e14).ext e15, ?_⟩
  rintro _ w16 e16
  exact ⟨(), rfl, e010.trans (((((e1011.trans e12).trans e13).trans e14).trans e15).trans e16)⟩

end Go.Proofs.YthkcphnkllnfcaaDoor
