/-
  Chapter 1: laws on one step, on texts.
-/
import Derived.Test.YthkcphnkllnfcaaDoorVgD
import Derived.Test.YthkcphnkllnfcaaDoorWkC
set_option linter.unusedVariables false
set_option linter.unusedSimpArgs false
namespace Go.Proofs.YthkcphnkllnfcaaDoor
open Go Go.RowKit Vc Ut

theorem ext_u8 {w w' : World} (h : U8 w) (hx : Ext w w') : U8 w' := h.ext hx

theorem wakes_ok : (sYes U8).Ok Tryd.prog 20 := by
  refine wakes_vc ⟨next_ok, last_ok, runes_ok, whole_ok, valid_ok, count_ok, text_ok, trivial⟩ ?_
  rintro _ w hU
  refine ⟨_, rfl, ⟨hU, by decide⟩, ?_⟩
  rintro ⟨r1, n1⟩ w1 ⟨hr1, hn1, hw1⟩
  dsimp only at hr1 hn1 ⊢
  have hU1 := hU.ext hw1
  refine ⟨_, rfl, ⟨hU1, by decide⟩, ?_⟩
  rintro ⟨r2, n2⟩ w2 ⟨hr2, hn2, hw2⟩
  dsimp only at hr2 hn2 ⊢
  have hU2 := hU1.ext hw2
  refine ⟨_, rfl, ⟨hU2, by decide⟩, ?_⟩
  rintro ⟨r3, n3⟩ w3 ⟨hr3, hn3, hw3⟩
  dsimp only at hr3 hn3 ⊢
  have hU3 := hU2.ext hw3
  refine ⟨_, rfl, ⟨hU3, by decide⟩, ?_⟩
  rintro ⟨a, n, c⟩ w4 ⟨hn, hm⟩
  dsimp only at hn hm ⊢
  have e1 : nxR (ByteArray.mk #[228, 184]) = 65533 ∧ nxN (ByteArray.mk #[228, 184]) = 1 := by decide +kernel
  have e2 : lsR (ByteArray.mk #[97, 195, 169]) = 233 ∧ lsN (ByteArray.mk #[97, 195, 169]) = 2 := by decide +kernel
  have e3 : nxR (ByteArray.mk #[239, 191, 189]) = 65533 ∧ nxN (ByteArray.mk #[239, 191, 189]) = 3 := by decide +kernel
  have e4 : runes (ByteArray.mk #[97, 255, 195, 169]) = [97, 65533, 233] := by decide +kernel
  rw [e4] at hn hm
  rw [e1.1] at hr1; rw [e1.2] at hn1; rw [e2.1] at hr2; rw [e2.2] at hn2; rw [e3.1] at hr3; rw [e3.2] at hn3
  subst hr1 hn1 hr2 hn2 hr3 hn3
  have hn' : n = 3 := hn
  subst hn'
  have hU4 := hU3.ext hm.ext
  have e14 : Ext w w4 := ((hw1.trans hw2).trans hw3).trans hm.ext
  have hc := hm.row.cells
  refine ⟨?_, ?_⟩
  · refine bcase_mk (fun _ => ?_) (fun h => by simp at h)
    refine bcase_mk (fun _ => ?_) (fun h => by simp at h)
    refine bcase_mk (fun _ => ?_) (fun h => by simp at h)
    refine bcase_mk (fun _ => ?_) (fun h => by simp at h)
    refine bcase_mk (fun _ => ?_) (fun h => by simp at h)
    refine bcase_mk (fun _ => ?_) (fun h => by simp at h)
    refine bcase_mk (fun _ => ?_) (fun h => by simp at h)
    refine ⟨1, rfl, by decide, hc.int (i := 1) (by decide) fun b o hb => ⟨_, hb, ?_⟩⟩
    refine bcase_mk (fun _ => ?_) (fun h => by simp at h)
    exact ⟨2, rfl, by decide, hc.int (i := 2) (by decide) fun b o hb => ⟨_, hb, (), rfl, Ext.refl _⟩⟩
  rintro _ _ w5 hw5
  have hU5 := hU4.ext hw5
  have e5 := e14.trans hw5
  refine ⟨_, rfl, ⟨hU5, by decide⟩, ?_⟩
  rintro x w6 ⟨hx, hw6⟩
  obtain rfl : x = false := by rw [hx]; decide +kernel
  have hU6 := hU5.ext hw6
  refine bcase_mk (fun _ => ?_) (fun h => by cases h)
  refine ⟨_, rfl, ⟨hU6, by decide⟩, ?_⟩
  rintro x w7 ⟨hx, hw7⟩
  obtain rfl : x = true := by rw [hx]; decide +kernel
  have hU7 := hU6.ext hw7
  refine bcase_mk (fun _ => ?_) (fun h => by cases h)
  refine ⟨_, rfl, ⟨hU7, by decide⟩, ?_⟩
  rintro x w8 ⟨hx, hw8⟩
  obtain rfl : x = true := by rw [hx]; decide +kernel
  have hU8 := hU7.ext hw8
  refine bcase_mk (fun _ => ?_) (fun h => by cases h)
  refine ⟨_, rfl, ⟨hU8, by decide⟩, ?_⟩
  rintro x w9 ⟨hx, hw9⟩
  obtain rfl : x = false := by rw [hx]; decide +kernel
  have hU9 := hU8.ext hw9
  refine bcase_mk (fun _ => ?_) (fun h => by cases h)
  refine ⟨_, rfl, ⟨hU9, by decide⟩, ?_⟩
  rintro x w10 ⟨hx, hw10⟩
  obtain rfl : x = 3 := by rw [hx]; decide +kernel
  refine bcase_mk (fun _ => ?_) (fun h => by simp at h)
  intro b w11 hnw
  refine ⟨⟨_, 2, [97, -1]⟩, rfl, ⟨at_box hnw rfl (by decide), by simp⟩, ?_⟩
  rintro x w12 ⟨rfl, hw12⟩
  refine ⟨(), ?_, ((((((e5.trans hw6).trans hw7).trans hw8).trans hw9).trans hw10).trans hnw.ext).trans hw12⟩
  dsimp only
  rw [show runesBytes [97, -1] = ByteArray.mk #[97, 239, 191, 189] from by decide +kernel, str_eq]
  simp

theorem lawOne_ok : sLawS.Ok Tryd.prog 3 := by
  refine lawOne_vc ⟨next_ok, last_ok, rnext_ok, rlast_ok, whole_ok, rwhole_ok, wakes_ok, trivial⟩ ?_
  rintro (s : ByteArray) w ⟨hU, hsm⟩
  refine ⟨s, rfl, ⟨hU, by omega⟩, ?_⟩
  rintro ⟨r1, n1⟩ w1 ⟨rfl, rfl, hw1⟩
  have hU1 := hU.ext hw1
  refine ⟨s, rfl, ⟨hU1, by omega⟩, ?_⟩
  rintro ⟨r2, n2⟩ w2 ⟨rfl, rfl, hw2⟩
  have hU2 := hU1.ext hw2
  refine ⟨s, rfl, ⟨hU2, by omega⟩, ?_⟩
  rintro ⟨r3, n3⟩ w3 ⟨rfl, rfl, hw3⟩
  have hU3 := hU2.ext hw3
  refine ⟨s, rfl, ⟨hU3, by omega⟩, ?_⟩
  rintro ⟨r4, n4⟩ w4 ⟨rfl, rfl, hw4⟩
  have hU4 := hU3.ext hw4
  refine bcase_mk (fun _ => ?_) (fun h => by simp at h)
  refine bcase_mk (fun _ => ?_) (fun h => by simp at h)
  refine bcase_mk (fun _ => ?_) (fun h => by simp at h)
  refine bcase_mk (fun _ => ?_) (fun h => by simp at h)
  refine ⟨s, rfl, ⟨hU4, by omega⟩, ?_⟩
  rintro x w5 ⟨rfl, hw5⟩
  have hU5 := hU4.ext hw5
  refine ⟨s, rfl, ⟨hU5, by omega⟩, ?_⟩
  rintro x w6 ⟨rfl, hw6⟩
  refine bcase_mk (fun _ => ?_) (fun h => by simp at h)
  refine ⟨(), rfl, hU5.ext hw6, ?_⟩
  rintro _ w7 hw7
  exact ⟨(), rfl, (((((hw1.trans hw2).trans hw3).trans hw4).trans hw5).trans hw6).trans hw7⟩

theorem lawText_ok : sLawL.Ok Tryd.prog 4 := by
  refine lawText_vc ⟨text_ok, sameR_ok, rtext_ok, wakes_ok, trivial⟩ ?_
  rintro ⟨ad, c, xs⟩ w ⟨hU, hc, hl⟩ b w1 hn
  dsimp only at hc hl ⊢
  have hm1 : Made w w1 21 1 (some ⟨b, 0, none⟩) 0 ([] : List Value) 0 := Made.box (n := 0) (s := 1) hn (Ext.refl _) rfl (by unfold maxLen; omega)
  obtain ⟨a2, c2, w2, hr2, hk2, hm2, _⟩ := hm1.pushS (P := Tryd.prog) (ty := 26) (sa := ad) (cx := c) elem32 (by decide) (m := xs.length) (news := xs.map (Value.int .i32)) (by simp) (hc.ext hn.ext) (one_ints _ _) (by unfold maxLen; omega) (.inr (by omega))
  refine ⟨a2, c2, w2, hr2, hk2, fun b1 w3 hn1 => ?_⟩
  obtain ⟨a3, c3, w4, hr3, hk3, hm4, _⟩ := hm2.pushN (P := Tryd.prog) (ty := 26) elem32 (by decide) (m := 2) (news := [.int .i32 65, .int .i32 66]) hn1 rfl (by simp [Value.oneCell']) (by unfold maxLen; omega) (.inr (by omega))
  have hle := hm4.row.le.1
  have hcells : CellsAt w4 a3 ((xs ++ [65, 66]).map (Value.int .i32)) := by have := hm4.row.cells; simpa using this
  have hpre : CellsAt w4 a3 (xs.map (Value.int .i32)) := by
    have := hcells.take xs.length
    rwa [List.map_append, List.take_left' (by simp)] at this
  have hU4 := hU.ext hm4.ext
  refine ⟨a3, c3, w4, hr3, hk3, xs.length, rfl, by omega, ⟨a3, c3, xs⟩, rfl, ⟨⟨hpre, by dsimp only; omega⟩, by dsimp only; omega⟩, ?_⟩
  rintro x w5 ⟨rfl, hw5⟩
  refine ⟨xs.length, rfl, by omega, ⟨⟨a3, c3, xs⟩, ⟨ad, c, xs⟩⟩, rfl, ⟨⟨hpre.ext hw5, by dsimp only; omega⟩, ⟨(hc.ext hm4.ext).ext hw5, by dsimp only; omega⟩⟩, ?_⟩
  rintro x w6 ⟨hx, hw6⟩
  obtain rfl : x = true := by rw [hx]; simp
  have e46 := hw5.trans hw6
  refine ⟨⟨ad, c, xs⟩, rfl, ⟨⟨(hc.ext hm4.ext).ext e46, by dsimp only; omega⟩, by dsimp only; omega⟩, ?_⟩
  rintro x w7 ⟨rfl, hw7⟩
  have e47 := e46.trans hw7
  have hall := hcells.ext e47
  refine bcase_mk (fun _ => ?_) (fun h => by simp at h)
  refine bcase_mk (fun _ => ?_) (fun h => by cases h)
  have g0 : (xs ++ [65, 66]).getD xs.length 0 = 65 := by rw [List.getD_eq_getElem?_getD, List.getElem?_append_right (Nat.le_refl _), Nat.sub_self]; rfl
  have g1 : (xs ++ [65, 66]).getD (xs.length + 1) 0 = 66 := by rw [List.getD_eq_getElem?_getD, List.getElem?_append_right (by omega), show xs.length + 1 - xs.length = 1 from by omega]; rfl
  refine ⟨xs.length, rfl, by omega, hall.int (i := xs.length) (by simp) fun b2 o hb => ⟨_, hb, ?_⟩⟩
  rw [g0]
  refine bcase_mk (fun _ => ?_) (fun h => by simp at h)
  refine ⟨inr_i64 (by omega) (by omega), xs.length + 1, by omega, by omega, hall.int (i := xs.length + 1) (by simp) fun b3 o3 hb3 => ⟨_, hb3, ?_⟩⟩
  rw [g1]
  refine bcase_mk (fun _ => ?_) (fun h => by simp at h)
  refine ⟨(), rfl, hU4.ext e47, ?_⟩
  rintro _ w8 hw8
  exact ⟨(), rfl, (hm4.ext.trans e47).trans hw8⟩

end Go.Proofs.YthkcphnkllnfcaaDoor
