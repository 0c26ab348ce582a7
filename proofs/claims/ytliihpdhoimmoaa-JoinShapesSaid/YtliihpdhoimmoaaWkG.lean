/-
  Chapter 11: the laws that ask the document's answer return true.
-/
import Derived.Test.YtliihpdhoimmoaaVgD
import Derived.Test.YtliihpdhoimmoaaWkF
set_option linter.unusedVariables false
set_option linter.unusedSimpArgs false
namespace Go.Proofs.Ytliihpdhoimmoaa
open Go Go.RowKit Vc Tb

theorem Ext.fr_new {w0 w w' : World} {S : Nat → Prop} (h : Ext w0 w) (hf : Fr S w w') (hS : ∀ q, S q → w0.heap.size ≤ q) : Ext w0 w' :=
  Below.trans h (hf.below h.size (fun q hq hs => by have := hS q hs; omega))

theorem two_apart {w w1 w2 : World} {e e' : TypeId} {s s' n n' c c' : Nat} {a b : Option Addr} {va vb : List Value} (ha : Made w w1 e s a n va c) (hb : Made w1 w2 e' s' b n' vb c') : ∀ q, blk a = some q → blk b ≠ some q :=
  fun q hq hq2 => by have := ha.row.lt hq; have := hb.new q hq2; omega

theorem lawForms_ok : sLawL.Ok Try.prog 3 := by
  refine lawForms_vc ⟨rforms_ok, lent_ok, jforms_ok, same8_ok, kept_ok, fresh8_ok, works_ok, trivial⟩ ?_
  rintro ⟨ad, c, xs⟩ w ⟨hc, hlen⟩
  dsimp only at hc hlen ⊢
  refine ⟨⟨ad, c, xs⟩, rfl, ⟨hc, hlen⟩, ?_⟩
  rintro ⟨wa, wn, wc⟩ w1 ⟨hwn, hm1⟩
  dsimp only at hwn hm1 ⊢
  subst hwn
  have hc1 := hc.ext hm1.ext
  refine ⟨⟨ad, c, xs⟩, rfl, ⟨hc1, hlen⟩, ?_⟩
  rintro ⟨kb, kn⟩ w2 ⟨hkn, hm2⟩
  dsimp only at hkn hm2 ⊢
  subst hkn
  have hk2 : CellsAt w2 (some ⟨kb, 0, none⟩) (xs.map (Value.int .i32)) := by
    have := hm2.row.cells.take xs.length
    rwa [List.map_append, List.take_left' (by simp)] at this
  have hfl : (formsR xs).length = xs.length := formsR_len xs
  refine ⟨⟨some ⟨kb, 0, none⟩, xs.length + 2, xs⟩, rfl, ⟨hk2, hlen⟩, ?_⟩
  rintro ⟨a, an, ac⟩ w3 ⟨han, hm3⟩
  dsimp only at han hm3 ⊢
  subst han
  refine ⟨⟨some ⟨kb, 0, none⟩, xs.length + 2, xs⟩, rfl, ⟨hk2.ext hm3.ext, hlen⟩, ?_⟩
  rintro ⟨b, bn, bc⟩ w4 ⟨hbn, hm4⟩
  dsimp only at hbn hm4 ⊢
  subst hbn
  have hm14 := hm1.later ((hm2.ext.trans hm3.ext).trans hm4.ext)
  have hm34 := hm3.later hm4.ext
  have hl8 : (formsR xs).length ≤ 35184372087808 := by omega
  refine ⟨⟨⟨a, ac, formsR xs⟩, ⟨wa, wc, formsR xs⟩⟩, rfl, ⟨at_made hm34 hl8, at_made hm14 hl8⟩, ?_⟩
  rintro x w5 ⟨hx, hw5⟩
  obtain rfl : x = true := by rw [hx]; simp
  refine bcase_mk (fun _ => ?_) (fun h => by cases h)
  refine ⟨⟨⟨b, bc, formsR xs⟩, ⟨wa, wc, formsR xs⟩⟩, rfl, ⟨GSl.at_ext (at_made hm4 hl8) hw5, GSl.at_ext (at_made hm14 hl8) hw5⟩, ?_⟩
  rintro x w6 ⟨hx, hw6⟩
  obtain rfl : x = true := by rw [hx]; simp
  refine bcase_mk (fun _ => ?_) (fun h => by cases h)
  have e46 := Ext.trans hw5 hw6
  have e06 := (((hm1.ext.trans hm2.ext).trans hm3.ext).trans hm4.ext).trans e46
  have hg6 := hm2.row.cells.ext ((hm3.ext.trans hm4.ext).trans e46)
  refine ⟨⟨some ⟨kb, 0, none⟩, ⟨ad, c, xs⟩⟩, rfl, ⟨hg6, hc.ext e06, hlen⟩, ?_⟩
  rintro _ w7 hw7
  have ha7 := (hm34.row.ext e46).ext hw7
  have hb7 := (hm4.row.ext e46).ext hw7
  refine ⟨⟨a, b, (formsR xs).length, ac, bc, (formsR xs).map (Value.int .i8), (formsR xs).map (Value.int .i8), 101, 102⟩, rfl, ⟨ha7, hb7, two_apart hm3 hm4, hl8⟩, ?_⟩
  rintro _ w8 hf8
  have hS : ∀ q, GFresh.S ⟨a, b, (formsR xs).length, ac, bc, (formsR xs).map (Value.int .i8), (formsR xs).map (Value.int .i8), 101, 102⟩ q → w2.heap.size ≤ q := by
    rintro q (hq | hq)
    · exact hm3.new q hq
    · exact Nat.le_trans hm3.ext.size (hm4.new q hq)
  have h02 := hm1.ext.trans hm2.ext
  have e8 : Ext w w8 := Ext.fr_new (e06.trans hw7) hf8 (fun q hq => Nat.le_trans h02.size (hS q hq))
  refine ⟨(), rfl, trivial, ?_⟩
  rintro _ w9 hw9
  exact ⟨(), rfl, e8.trans hw9⟩
  --have hg8 := (hg6.ext hw7).fr hf8 (fun q hq hq2 => by simp [blk] at hq; have := hm2.row.lt (g := kb) rfl; have := hS q hq2; omega)
  --refine ⟨⟨some ⟨kb, 0, none⟩, ⟨ad, c, xs⟩⟩, rfl, ⟨hg8, hc.ext e8, hlen⟩, ?_⟩
  --rintro _ w9 hw9
  --refine ⟨(), rfl, trivial, ?_⟩
  --rintro _ w10 hw10
  --exact ⟨(), rfl, (e8.trans hw9).trans hw10⟩

theorem lawShaped_ok : sLawL.Ok Try.prog 4 := by
  refine lawShaped_vc ⟨rshaped_ok, lent_ok, shaped_ok, same32_ok, kept_ok, fresh32_ok, works_ok, trivial⟩ ?_
  rintro ⟨ad, c, xs⟩ w ⟨hc, hlen⟩
  dsimp only at hc hlen ⊢
  refine ⟨⟨ad, c, xs⟩, rfl, ⟨hc, hlen⟩, ?_⟩
  rintro ⟨wa, wn, wc⟩ w1 ⟨hwn, hm1⟩
  dsimp only at hwn hm1 ⊢
  subst hwn
  have hc1 := hc.ext hm1.ext
  refine ⟨⟨ad, c, xs⟩, rfl, ⟨hc1, hlen⟩, ?_⟩
  rintro ⟨kb, kn⟩ w2 ⟨hkn, hm2⟩
  dsimp only at hkn hm2 ⊢
  subst hkn
  have hk2 : CellsAt w2 (some ⟨kb, 0, none⟩) (xs.map (Value.int .i32)) := by
    have := hm2.row.cells.take xs.length
    rwa [List.map_append, List.take_left' (by simp)] at this
  have hfl : (shapedR xs).length = xs.length := shapedR_len xs
  refine ⟨⟨some ⟨kb, 0, none⟩, xs.length + 2, xs⟩, rfl, ⟨hk2, hlen⟩, ?_⟩
  rintro ⟨a, an, ac⟩ w3 ⟨han, hm3⟩
  dsimp only at han hm3 ⊢
  subst han
  refine ⟨⟨some ⟨kb, 0, none⟩, xs.length + 2, xs⟩, rfl, ⟨hk2.ext hm3.ext, hlen⟩, ?_⟩
  rintro ⟨b, bn, bc⟩ w4 ⟨hbn, hm4⟩
  dsimp only at hbn hm4 ⊢
  subst hbn
  have hm14 := hm1.later ((hm2.ext.trans hm3.ext).trans hm4.ext)
  have hm34 := hm3.later hm4.ext
  have hl8 : (shapedR xs).length ≤ 35184372087808 := by omega
  refine ⟨⟨⟨a, ac, shapedR xs⟩, ⟨wa, wc, shapedR xs⟩⟩, rfl, ⟨at_made hm34 hl8, at_made hm14 hl8⟩, ?_⟩
  rintro x w5 ⟨hx, hw5⟩
  obtain rfl : x = true := by rw [hx]; simp
  refine bcase_mk (fun _ => ?_) (fun h => by cases h)
  refine ⟨⟨⟨b, bc, shapedR xs⟩, ⟨wa, wc, shapedR xs⟩⟩, rfl, ⟨GSl.at_ext (at_made hm4 hl8) hw5, GSl.at_ext (at_made hm14 hl8) hw5⟩, ?_⟩
  rintro x w6 ⟨hx, hw6⟩
  obtain rfl : x = true := by rw [hx]; simp
  refine bcase_mk (fun _ => ?_) (fun h => by cases h)
  have e46 := Ext.trans hw5 hw6
  have e06 := (((hm1.ext.trans hm2.ext).trans hm3.ext).trans hm4.ext).trans e46
  have hg6 := hm2.row.cells.ext ((hm3.ext.trans hm4.ext).trans e46)
  refine ⟨⟨some ⟨kb, 0, none⟩, ⟨ad, c, xs⟩⟩, rfl, ⟨hg6, hc.ext e06, hlen⟩, ?_⟩
  rintro _ w7 hw7
  have ha7 := (hm34.row.ext e46).ext hw7
  have hb7 := (hm4.row.ext e46).ext hw7
  refine ⟨⟨a, b, (shapedR xs).length, ac, bc, (shapedR xs).map (Value.int .i32), (shapedR xs).map (Value.int .i32), -101, -102⟩, rfl, ⟨ha7, hb7, two_apart hm3 hm4, hl8⟩, ?_⟩
  rintro _ w8 hf8
  have hS : ∀ q, GFresh.S ⟨a, b, (shapedR xs).length, ac, bc, (shapedR xs).map (Value.int .i32), (shapedR xs).map (Value.int .i32), -101, -102⟩ q → w2.heap.size ≤ q := by
    rintro q (hq | hq)
    · exact hm3.new q hq
    · exact Nat.le_trans hm3.ext.size (hm4.new q hq)
  have h02 := hm1.ext.trans hm2.ext
  have e8 : Ext w w8 := Ext.fr_new (e06.trans hw7) hf8 (fun q hq => Nat.le_trans h02.size (hS q hq))
  --refine ⟨(), rfl, trivial, ?_⟩
  --rintro _ w9 hw9
  --exact ⟨(), rfl, e8.trans hw9⟩
  have hg8 := (hg6.ext hw7).fr hf8 (fun q hq hq2 => by simp [blk] at hq; have := hm2.row.lt (g := kb) rfl; have := hS q hq2; omega)
  refine ⟨⟨some ⟨kb, 0, none⟩, ⟨ad, c, xs⟩⟩, rfl, ⟨hg8, hc.ext e8, hlen⟩, ?_⟩
  rintro _ w9 hw9
  refine ⟨(), rfl, trivial, ?_⟩
  rintro _ w10 hw10
  exact ⟨(), rfl, (e8.trans hw9).trans hw10⟩


theorem lawShapes_ok : sLawShapes.Ok Try.prog 5 := by
  refine lawShapes_vc ⟨rplain_ok, plain_ok, shape_ok, rshape_ok, same32_ok, fresh32_ok, works_ok, trivial⟩ ?_
  rintro ⟨r, form⟩ w _
  dsimp only
  refine ⟨r, rfl, trivial, ?_⟩
  rintro ⟨wa, wn, wc⟩ w1 ⟨rfl, hm1⟩
  dsimp only at hm1 ⊢
  refine ⟨r, rfl, trivial, ?_⟩
  rintro ⟨a, an, ac⟩ w2 ⟨rfl, hm2⟩
  dsimp only at hm2 ⊢
  refine ⟨r, rfl, trivial, ?_⟩
  rintro ⟨b, bn, bc⟩ w3 ⟨rfl, hm3⟩
  dsimp only at hm3 ⊢
  refine ⟨(r, form), rfl, trivial, ?_⟩
  rintro x w4 ⟨rfl, hw4⟩
  refine ⟨(r, form), rfl, trivial, ?_⟩
  rintro x w5 ⟨rfl, hw5⟩
  refine bcase_mk (fun _ => ?_) (fun h => by simp at h)
  have hl : (plainR r).length ≤ 35184372087808 := by have := plainR_len r; omega
  have e35 := hw4.trans hw5
  have hm15 := hm1.later ((hm2.ext.trans hm3.ext).trans e35)
  have hm25 := hm2.later (hm3.ext.trans e35)
  have hm35 := hm3.later e35
  refine ⟨⟨⟨a, ac, plainR r⟩, ⟨wa, wc, plainR r⟩⟩, rfl, ⟨at_made hm25 hl, at_made hm15 hl⟩, ?_⟩
  rintro x w6 ⟨hx, hw6⟩
  obtain rfl : x = true := by rw [hx]; simp
  refine bcase_mk (fun _ => ?_) (fun h => by cases h)
  refine ⟨⟨⟨b, bc, plainR r⟩, ⟨wa, wc, plainR r⟩⟩, rfl, ⟨GSl.at_ext (at_made hm35 hl) hw6, GSl.at_ext (at_made hm15 hl) hw6⟩, ?_⟩
  rintro x w7 ⟨hx, hw7⟩
  obtain rfl : x = true := by rw [hx]; simp
  refine bcase_mk (fun _ => ?_) (fun h => by cases h)
  have e57 := Ext.trans hw6 hw7
  refine ⟨⟨a, b, (plainR r).length, ac, bc, (plainR r).map (Value.int .i32), (plainR r).map (Value.int .i32), -101, -102⟩, rfl, ⟨hm25.row.ext e57, hm35.row.ext e57, two_apart hm2 hm3, hl⟩, ?_⟩
  rintro _ w8 hf8
  have hS : ∀ q, GFresh.S ⟨a, b, (plainR r).length, ac, bc, (plainR r).map (Value.int .i32), (plainR r).map (Value.int .i32), -101, -102⟩ q → w1.heap.size ≤ q := by
    rintro q (hq | hq)
    · exact hm2.new q hq
    · exact Nat.le_trans hm2.ext.size (hm3.new q hq)
  have e7 : Ext w w7 := hm15.ext.trans e57
  have e8 : Ext w w8 := Ext.fr_new e7 hf8 (fun q hq => Nat.le_trans hm1.ext.size (hS q hq))
  refine ⟨r, rfl, trivial, ?_⟩
  rintro ⟨p, pn, pc⟩ w9 ⟨rfl, hm9⟩
  dsimp only at hm9 ⊢
  have hw9 : CellsAt w9 wa ((plainR r).map (Value.int .i32)) :=
    ((hm15.row.cells.ext e57).fr hf8 (fun q hq hq2 => by have := hm1.row.lt hq; have := hS q hq2; omega)).ext hm9.ext
  refine ⟨⟨⟨p, pc, plainR r⟩, ⟨wa, wc, plainR r⟩⟩, rfl, ⟨at_made hm9 hl, hw9, hl⟩, ?_⟩
  rintro x w10 ⟨hx, hw10⟩
  obtain rfl : x = true := by rw [hx]; simp
  refine bcase_mk (fun _ => ?_) (fun h => by cases h)
  refine ⟨(), rfl, trivial, ?_⟩
  rintro _ w11 hw11
  exact ⟨(), rfl, ((e8.trans hm9.ext).trans hw10).trans hw11⟩

end Go.Proofs.Ytliihpdhoimmoaa
