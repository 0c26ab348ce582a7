/-
  Chapter 11: the laws that ask nothing of the document's answer return true.
-/
import Derived.Test.YtliihpdhoimmoaaVgE
import Derived.Test.YtliihpdhoimmoaaWkG
set_option linter.unusedVariables false
set_option linter.unusedSimpArgs false
namespace Go.Proofs.Ytliihpdhoimmoaa
open Go Go.RowKit Vc Tb

theorem back_ok : sLawU.Ok Try.prog 6 := by
  refine back_vc ⟨works_ok, shaped_ok, plainl_ok, same32_ok, cjoin_ok, trivial⟩ ?_
  rintro ⟨ad, c, xs⟩ w ⟨⟨hc, hlen⟩, hsm⟩
  dsimp only at hc hlen hsm ⊢
  refine ⟨(), rfl, trivial, ?_⟩
  rintro _ w1 hw1
  refine ⟨⟨ad, c, xs⟩, rfl, ⟨hc.ext hw1, hlen⟩, ?_⟩
  rintro ⟨sa, sn, sc⟩ w2 ⟨hsn, hs⟩
  dsimp only at hsn hs ⊢
  have hsl := shapedR_len xs
  rw [hsl] at hsn; subst hsn
  refine bcase_mk (fun h => by simp at h) (fun _ => ?_)
  refine ⟨⟨sa, sc, shapedR xs⟩, by simp only [hsl], ⟨⟨hs.row.cells, by dsimp only; omega⟩, by dsimp only; omega⟩, ?_⟩
  rintro ⟨pa, pn, pc⟩ w3 ⟨hpn, hp⟩
  dsimp only at hpn hp ⊢
  rw [shaped_plain] at hpn hp
  subst hpn
  have e2 : Ext w w2 := Ext.trans hw1 hs.ext
  refine ⟨⟨ad, c, xs⟩, rfl, ⟨⟨hc.ext (e2.trans hp.ext), hlen⟩, by dsimp only; omega⟩, ?_⟩
  rintro ⟨qa, qn, qc⟩ w4 ⟨hqn, hq⟩
  dsimp only at hqn hq ⊢
  subst hqn
  have hl := flat_len xs
  refine ⟨⟨⟨pa, pc, xs.flatMap plainR⟩, ⟨qa, qc, xs.flatMap plainR⟩⟩, rfl, ⟨at_made (hp.later hq.ext) (by omega), at_made hq (by omega)⟩, ?_⟩
  rintro x w5 ⟨hx, hw5⟩
  obtain rfl : x = true := by rw [hx]; simp
  refine bcase_mk (fun h => by cases h) (fun _ => ?_)
  have e5 : Ext w w5 := ((e2.trans hp.ext).trans hq.ext).trans hw5
  have hs5 : CellsAt w5 sa ((shapedR xs).map (Value.int .i32)) := hs.row.cells.ext ((hp.ext.trans hq.ext).trans hw5)
  refine ⟨⟨0, rfl, Nat.zero_le _, e5, sa, sc, rfl, hs5⟩, ?_⟩
  rintro _ i w6 ⟨hi, e6, a', c', ha, hs6⟩
  obtain ⟨rfl, rfl⟩ : sa = a' ∧ sc = c' := by simpa using ha
  refine bcase_mk (fun h w7 hd => ?_) (fun h => ?_)
  · have hi1 : i < xs.length := by simpa using h
    refine ⟨i, rfl, hi1, hs6.int (by omega) fun b o hb => ⟨_, hb, i, rfl, hi1, (hc.ext e6).int hi1 fun b1 o1 hb1 => ⟨_, hb1, ?_⟩⟩⟩
    have next : ∀ w8, Ext w6 w8 → InR IntKind.i64 ((i : Int) + 1) ∧ ∃ y : Nat, Value.int IntKind.i64 ((i : Int) + 1) = Value.int IntKind.i64 (y : Int) ∧ (y ≤ xs.length ∧ Ext w w8 ∧ ∃ a6 c, Value.slice sa xs.length sc = Value.slice a6 xs.length c ∧ CellsAt w8 a6 (List.map (Value.int IntKind.i32) (shapedR xs))) ∧ xs.length - y < xs.length - i :=
      fun w8 hw8 => ⟨inr_i64 (by omega) (by omega), i + 1, by simp, ⟨by omega, e6.trans hw8, sa, sc, rfl, hs6.ext hw8⟩, by omega⟩
    refine bcase_mk (fun hne => ?_) (fun _ => next w7 hd.ext)
    have hj := shape_letter (r := xs.getD i 0) (form := (formsR xs).getD i 0) (by rw [← shapedR_at hi1]; simpa using hne)
    refine ⟨i, rfl, hi1, (hc.ext e6).int hi1 fun b2 o2 hb2 => ⟨_, hb2, _, rfl, trivial, ?_⟩⟩
    rintro x w8 ⟨rfl, hw8⟩
    refine bcase_mk (fun h => by simp only [beq_iff_eq] at h; exact absurd h hj.1) (fun _ => ?_)
    have e68 := Ext.trans hd.ext hw8
    refine ⟨i, rfl, hi1, (hc.ext (e6.trans e68)).int hi1 fun b3 o3 hb3 => ⟨_, hb3, _, rfl, trivial, ?_⟩⟩
    rintro x w9 ⟨rfl, hw9⟩
    refine bcase_mk (fun h => by simp only [beq_iff_eq] at h; exact absurd h hj.2) (fun _ => next w9 (e68.trans hw9))
  · refine ⟨⟨ad, c, xs⟩, rfl, ⟨⟨hc.ext e6, hlen⟩, by dsimp only; omega⟩, ?_⟩
    rintro ⟨ra, rn, rc⟩ w7 ⟨hrn, hr⟩
    dsimp only at hrn hr ⊢
    subst hrn
    refine ⟨⟨ra, rc, xs.flatMap plainR⟩, rfl, at_made hr (by omega), ?_⟩
    rintro ⟨ta, tn, tc⟩ w8 ⟨htn, ht⟩
    dsimp only at htn ht ⊢
    have htl := shapedR_len (xs.flatMap plainR)
    refine ⟨⟨ta, tc, shapedR (xs.flatMap plainR)⟩, by simp only [htn], ⟨⟨ht.row.cells, by dsimp only; omega⟩, by dsimp only; omega⟩, ?_⟩
    rintro ⟨ua, un, uc⟩ w9 ⟨hun, hu⟩
    dsimp only at hun hu ⊢
    rw [shaped_plain, flat_plain] at hun hu
    subst hun
    refine ⟨⟨⟨ua, uc, xs.flatMap plainR⟩, ⟨ra, rc, xs.flatMap plainR⟩⟩, rfl, ⟨at_made hu (by omega), at_made (hr.later (ht.ext.trans hu.ext)) (by omega)⟩, ?_⟩
    rintro x w10 ⟨hx, hw10⟩
    obtain rfl : x = true := by rw [hx]; simp
    exact ⟨(), rfl, (((e6.trans hr.ext).trans ht.ext).trans hu.ext).trans hw10⟩

theorem formsR_at {xs : List Int} {i : Nat} (h : i < xs.length) : (formsR xs).getD i 0 = formR xs i := by
  simp only [formsR, List.getD_eq_getElem?_getD, List.getElem?_map, List.getElem?_range h]; rfl

theorem mutual_ok : sLawL.Ok Try.prog 8 := by
  refine mutual_vc ⟨works_ok, cjoin_ok, jforms_ok, trivial⟩ ?_
  rintro ⟨ad, c, xs⟩ w ⟨hc, hlen⟩
  dsimp only at hc hlen ⊢
  refine ⟨(), rfl, trivial, ?_⟩
  rintro _ w1 hw1
  refine ⟨⟨ad, c, xs⟩, rfl, ⟨hc.ext hw1, hlen⟩, ?_⟩
  rintro ⟨fa, fn, fc⟩ w2 ⟨hfn, hf⟩
  dsimp only at hfn hf ⊢
  have hfl := formsR_len xs
  rw [hfl] at hfn; subst hfn
  refine bcase_mk (fun h => by simp at h) (fun _ => ?_)
  refine ⟨⟨0, rfl, rfl, Nat.zero_le _, Ext.trans hw1 hf.ext, fa, fc, rfl, hf.row.cells⟩, ?_⟩
  rintro _ i w3 ⟨hi, e3, a', c', ha, hf3⟩
  obtain ⟨rfl, rfl⟩ : fa = a' ∧ fc = c' := by simpa using ha
  have hlb := lastR_bd xs i
  refine bcase_mk (fun h => ?_) (fun h => ?_)
  · have hi1 : i < xs.length := by simpa using h
    refine ⟨i, rfl, hi1, (hc.ext e3).int hi1 fun b o hb => ⟨_, hb, _, rfl, trivial, ?_⟩⟩
    rintro k w4 ⟨hk, hw4⟩
    have e4 := e3.trans hw4
    have hf4 := hf3.ext hw4
    have next : ∀ w8, Ext w4 w8 → ∀ v : Int, v = lastR xs (i + 1) → InR IntKind.i64 ((i : Int) + 1) ∧ ∃ y : Nat, Value.int IntKind.i64 ((i : Int) + 1) = Value.int IntKind.i64 (y : Int) ∧ Value.int IntKind.i64 v = Value.int IntKind.i64 (lastR xs y) ∧ (y ≤ xs.length ∧ Ext w w8 ∧ ∃ a6 c, Value.slice fa xs.length fc = Value.slice a6 xs.length c ∧ CellsAt w8 a6 (List.map (Value.int IntKind.i8) (formsR xs))) ∧ xs.length - y < xs.length - i :=
      fun w8 hw8 v hv => ⟨inr_i64 (by omega) (by omega), i + 1, by simp, by rw [hv], ⟨by omega, e4.trans hw8, fa, fc, rfl, hf4.ext hw8⟩, by omega⟩
    have hbd := formOf_bd (joinR (xs.getD i 0)) (nextJ (xs.take i).reverse) (nextJ (xs.drop (i + 1)))
    have hfi : (formsR xs).getD i 0 = formOf (joinR (xs.getD i 0)) (nextJ (xs.take i).reverse) (nextJ (xs.drop (i + 1))) := formsR_at hi1
    rw [← hfi, ← hk] at hbd
    obtain ⟨hb0, hb3, hbl, hb1⟩ := hbd
    have rd : ∀ {K : Nat → Nat → Prop}, (∀ b o, w4.cell? ⟨b, o + i, none⟩ = some (.int .i8 ((formsR xs).getD i 0)) → K b o) → ptrE fa K := fun hK => hf4.int (by omega) hK
    refine ⟨⟨(), ?_, by trivial⟩, ?_⟩
    · by_cases h1 : k = 1 <;> by_cases h2 : k = 2 <;> simp [h1, h2]
    rintro _ _ w' hw'; replace hw' := hw'.symm; subst hw'
    have tail : bcase (k == 1)
        (∃ k4 : Nat, (i : Int) = k4 ∧ k4 < xs.length ∧ ptrE fa fun b4 o4 => ∃ n4, w4.cell? ⟨b4, o4 + k4, none⟩ = some (.int .i8 n4) ∧ bcase (n4 == 1) (∃ _ : Unit, Value.bool true = Value.bool false ∧ w4 = w4)
          (∃ k5 : Nat, (i : Int) = k5 ∧ k5 < xs.length ∧ ptrE fa fun b5 o5 => ∃ n5, w4.cell? ⟨b5, o5 + k5, none⟩ = some (.int .i8 n5) ∧ ∃ _ : Unit, Value.bool (n5 == 2) = Value.bool false ∧ w4 = w4))
        (∃ _ : Unit, Value.bool false = Value.bool false ∧ w4 = w4) := by
      refine bcase_mk (fun h1 => ?_) (fun _ => ⟨(), rfl, rfl⟩)
      have h1' : k = 1 := by simpa using h1
      have := hb1 h1'
      exact ⟨i, rfl, hi1, rd fun b o hb => ⟨_, hb, bcase_mk (fun h => absurd (by simpa using h) this.1) (fun _ => ⟨i, rfl, hi1, rd fun b o hb => ⟨_, hb, (), by simpa using this.2, rfl⟩⟩)⟩⟩
    refine ⟨?_, ?_⟩
    · refine ⟨i, rfl, hi1, rd fun b o hb => ⟨_, hb, bcase_mk (fun h => ?_) (fun _ => ?_)⟩⟩
      · simp only [decide_eq_true_eq] at h; omega
      refine ⟨i, rfl, hi1, rd fun b o hb => ⟨_, hb, bcase_mk (fun h => ?_) (fun _ => ?_)⟩⟩
      · simp only [gt_iff_lt, decide_eq_true_eq] at h; omega
      refine ⟨i, rfl, hi1, rd fun b o hb => ⟨_, hb, bcase_mk (fun h => ?_) (fun _ => tail)⟩⟩
      refine bcase_mk (fun h2 => ?_) (fun _ => tail)
      have := hbl (by simpa using h)
      simp only [Bool.not_eq_true', decide_eq_false_iff_not] at h2
      exact absurd this h2
    rintro _ _ w' hw'; replace hw' := hw'.symm; subst hw'
    have hlast : lastR xs (i + 1) = if k = 4 then lastR xs i else (i : Int) := by rw [hk]; rfl
    refine bcase_mk (fun h4 => ?_) (fun h4 => ?_)
    · have h4' : k = 4 := by simpa using h4
      exact next _ (Ext.refl _) _ (by rw [hlast, if_pos h4'])
    have h4' : k ≠ 4 := by simpa using h4
    have hl1 : (i : Int) = lastR xs (i + 1) := by rw [hlast, if_neg h4']
    refine ⟨?_, ?_⟩
    · refine ⟨i, rfl, hi1, rd fun b o hb => ⟨_, hb, bcase_mk (fun h => ⟨(), ?_, by trivial⟩) (fun h => ?_)⟩⟩
      · have h' : (formsR xs).getD i 0 = 3 := by simpa using h
        simp only [Int.toNat_natCast, h', true_or, decide_true]
      · have h' : ¬ (formsR xs).getD i 0 = 3 := by simpa using h
        refine ⟨i, rfl, hi1, rd fun b o hb => ⟨_, hb, (), ?_, by trivial⟩⟩
        simp only [Int.toNat_natCast, h', false_or]
        rfl
    rintro _ _ w' hw'; replace hw' := hw'.symm; subst hw'
    simp only [Int.toNat_natCast]
    have hprev := prevJ xs i (by omega)
    refine bcase_mk (fun hl => ?_) (fun hl => ?_)
    · have hl' : lastR xs i < 0 := by simpa using hl
      rw [if_pos hl'] at hprev
      rw [hprev] at hfi
      have := formOf_first (joinR (xs.getD i 0)) (nextJ (xs.drop (i + 1)))
      rw [← hfi] at this
      refine bcase_mk (fun h => ?_) (fun _ => next _ (Ext.refl _) _ hl1)
      simp only [decide_eq_true_eq] at h; omega
    have hl' : ¬ lastR xs i < 0 := by simpa using hl
    obtain ⟨j, hj⟩ : ∃ j : Nat, lastR xs i = j := ⟨(lastR xs i).toNat, by omega⟩
    have hji : j < i := by omega
    rw [if_neg hl', hj, Int.toNat_natCast] at hprev
    have hnx := next_last hi1 hj (by rw [← hk]; exact h4')
    have hfj : (formsR xs).getD j 0 = formOf (joinR (xs.getD j 0)) (nextJ (xs.take j).reverse) (nextJ (xs.drop (j + 1))) := formsR_at (by omega)
    rw [hnx, ← hk] at hfj
    rw [hprev, ← hk] at hfi
    have htwo := formOf_two (joinR (xs.getD j 0)) (nextJ (xs.take j).reverse) k (nextJ (xs.drop (i + 1)))
    simp only [← hfi, ← hfj] at htwo
    rw [hj]
    simp only [Int.toNat_natCast]
    have rdj : ∀ {K : Nat → Nat → Prop}, (∀ b o, w4.cell? ⟨b, o + j, none⟩ = some (.int .i8 ((formsR xs).getD j 0)) → K b o) → ptrE fa K := fun hK => hf4.int (by omega) hK
    refine ⟨?_, ?_⟩
    · refine ⟨j, rfl, by omega, rdj fun b o hb => ⟨_, hb, bcase_mk (fun h => ⟨(), ?_, by trivial⟩) (fun h => ?_)⟩⟩
      · have h' : (formsR xs).getD j 0 = 1 := by simpa using h
        simp only [h', true_or, decide_true]
      · have h' : ¬ (formsR xs).getD j 0 = 1 := by simpa using h
        refine ⟨j, rfl, by omega, rdj fun b o hb => ⟨_, hb, (), ?_, by trivial⟩⟩
        simp only [h', false_or]
        rfl
    rintro _ _ w' hw'; replace hw' := hw'.symm; subst hw'
    refine ⟨j, rfl, by omega, (hc.ext e4).int (by omega) fun b o hb => ⟨_, hb, _, rfl, trivial, ?_⟩⟩
    rintro cj w5 ⟨hcj, hw5⟩
    rw [← hcj] at htwo
    refine ⟨⟨(), ?_, by trivial⟩, ?_⟩
    · obtain ⟨t1, t2, t3⟩ := htwo
      generalize hL : decide (k = 1 ∨ k = 2) = L
      generalize hB : decide ((formsR xs).getD j 0 = 1 ∨ (formsR xs).getD j 0 = 2) = B
      generalize hA : decide ((formsR xs).getD i 0 = 3 ∨ (formsR xs).getD i 0 = 2) = A
      generalize hC : (cj == 3) = C
      generalize hK : (k != 3) = K
      have f1 : L = true → C = false → B = A := by
        rintro rfl rfl
        simp only [decide_eq_true_eq] at hL
        simp only [beq_eq_false_iff_ne] at hC
        rw [← hB, ← hA]; exact decide_eq_decide.2 (t1 hL hC)
      have f2 : L = true → C = true → A = true := by
        rintro rfl rfl
        simp only [decide_eq_true_eq] at hL
        simp only [beq_iff_eq] at hC
        rw [← hA]; exact decide_eq_true (t2 hL hC)
      have f3 : B = true → L = false → K = false := by
        rintro rfl rfl
        simp only [decide_eq_true_eq] at hB
        simp only [decide_eq_false_iff_not] at hL
        rw [← hK]; simpa using t3 hB hL
      clear hL hB hA hC hK t1 t2 t3
      revert f1 f2 f3
      cases L <;> cases B <;> cases A <;> cases C <;> cases K <;> simp
    rintro _ _ w' hw'; replace hw' := hw'.symm; subst hw'
    exact next _ hw5 _ hl1
  · have hi1 : i = xs.length := by simp only [decide_eq_false_iff_not] at h; omega
    subst hi1
    refine bcase_mk (fun hl => ⟨(), rfl, e3⟩) (fun hl => ?_)
    have hl' : ¬ lastR xs xs.length < 0 := by simpa using hl
    obtain ⟨j, hj⟩ : ∃ j : Nat, lastR xs xs.length = j := ⟨(lastR xs xs.length).toNat, by omega⟩
    have hfj : (formsR xs).getD j 0 = formOf (joinR (xs.getD j 0)) (nextJ (xs.take j).reverse) (nextJ (xs.drop (j + 1))) := formsR_at (by omega)
    rw [last_end hj] at hfj
    have he := formOf_end (joinR (xs.getD j 0)) (nextJ (xs.take j).reverse)
    rw [← hfj] at he
    rw [hj]
    refine ⟨j, rfl, by omega, hf3.int (by omega) fun b o hb => ⟨_, hb, bcase_mk (fun _ => ⟨(), rfl, e3⟩) (fun h => ?_)⟩⟩
    have h' : ¬ (formsR xs).getD j 0 = 0 := by simpa using h
    refine ⟨j, rfl, by omega, hf3.int (by omega) fun b o hb => ⟨_, hb, (), ?_, e3⟩⟩
    rcases he with he | he
    · exact absurd he h'
    · rw [he]; rfl

end Go.Proofs.Ytliihpdhoimmoaa
