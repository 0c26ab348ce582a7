/-
  Texts joined by program: WkSh.
-/
import Derived.Test.YthpjkgoahneldaaDoorSg15
set_option linter.unusedVariables false
set_option linter.unusedSimpArgs false

section
/-
  Chapter 6: the law ShowKnown (printed by tools/known6.py).
-/
namespace Go.Proofs.YthpjkgoahneldaaDoor
open Go Go.RowKit Vc Ut Tb Cl

theorem mk_len (n : Nat) : (mkL n).length = 2 * n := by
  unfold mkL
  induction n with
  | zero => rfl
  | succ n ih => rw [List.replicate_succ, List.flatten_cons, List.length_append, ih]; show 2 + 2 * n = 2 * (n + 1); omega
theorem mk_succ (n : Nat) : mkL (n + 1) = mkL n ++ [204, 129] := by
  unfold mkL
  rw [List.replicate_succ', List.flatten_append]; rfl
theorem mk_in {w : World} {a : Option Addr} {n : Nat} (h : CellsAt w a (u8L (mkL n))) : BytesIn w a (2 * n) (strL (mkL n)) :=
  bytesIn_of (by rw [strL_size, mk_len]) h
theorem mk_take : (u8L (mkL 32)).take 62 = u8L (mkL 31) := by
  unfold u8L
  rw [← List.map_take, show (mkL 32).take 62 = mkL 31 from by decide +kernel]
theorem kn_one : showsB (strL (mkL 32)) 0 lkZ (⟨#[226, 151, 140]⟩ ++ strL (mkL 31)) 1 = true := by decide +kernel
theorem kn_two : showsB (strL (mkL 31)) 0 lkZ (⟨#[226, 151, 140]⟩ ++ strL (mkL 31)) 1 = true := by decide +kernel
theorem kn_sz : (ByteArray.mk #[226, 151, 140]).size + (strL (mkL 31)).size ≤ 9223372036854775807 := by rw [strL_size, mk_len]; show (3 + 62 : Nat) ≤ _; decide
theorem kn_s1 : (strL (mkL 32)).size ≤ 67108864 := by rw [strL_size, mk_len]; decide
theorem kn_s2 : (strL (mkL 31)).size ≤ 67108864 := by rw [strL_size, mk_len]; decide

set_option maxRecDepth 100000 in
set_option maxHeartbeats 4000000 in
theorem lawKn_ok : (sYes UD).Ok Tryd.prog 17 := by
  refine lawKn_vc ⟨shows_ok, widc_ok, cutc_ok, plainc_ok, live_ok, trivial⟩ ?_
  rintro _ w hUD b w1 hn1 b1 w2 hn2
  have e2 : Ext w w2 := Ext.trans hn1.ext hn2.ext
  obtain ⟨c0, c1, c2, c3, c4⟩ := look_at (l := lkZ) (hn2.ext.heap hn1.heap)
  obtain ⟨r0, r1, r2, r3, r4⟩ := look_at (l := lkR) hn2.heap
  have hU : UD w2 := hUD.ext e2
  refine ⟨?_, ?_⟩
  · refine ⟨_, (Ext.refl _).cell r0, _, (Ext.refl _).cell r1, _, (Ext.refl _).cell r2, _, (Ext.refl _).cell r3, _, (Ext.refl _).cell r4, sh_step hU (Ext.refl _) lkR (by decide) (by decide +kernel) fun va0 ea0 => bcase_is rfl ?_⟩
    refine ⟨_, ea0.cell c0, _, ea0.cell c1, _, ea0.cell c2, _, ea0.cell c3, _, ea0.cell c4, sh_step hU ea0 lkZ (by decide) (by decide +kernel) fun va1 ea1 => bcase_is rfl ?_⟩
    refine sh_step hU ea1 ⟨4, false, 0, false, false⟩ (by decide) (by decide +kernel) fun va2 ea2 => bcase_is rfl ?_
    refine sh_step hU ea2 ⟨99, false, 0, false, false⟩ (by decide) (by decide +kernel) fun va3 ea3 => bcase_is rfl ?_
    refine sh_step hU ea3 ⟨16, false, 0, false, false⟩ (by decide) (by decide +kernel) fun va4 ea4 => bcase_is rfl ?_
    refine ⟨_, ea4.cell r0, _, ea4.cell r1, _, ea4.cell r2, _, ea4.cell r3, _, ea4.cell r4, sh_step hU ea4 lkR (by decide) (by decide +kernel) fun va5 ea5 => bcase_is rfl ?_⟩
    refine ⟨_, ea5.cell r0, _, ea5.cell r1, _, ea5.cell r2, _, ea5.cell r3, _, ea5.cell r4, sh_step hU ea5 lkR (by decide) (by decide +kernel) fun va6 ea6 => bcase_is rfl ?_⟩
    refine ⟨_, ea6.cell c0, _, ea6.cell c1, _, ea6.cell c2, _, ea6.cell c3, _, ea6.cell c4, sh_step hU ea6 lkZ (by decide) (by decide +kernel) fun va7 ea7 => bcase_is rfl ?_⟩
    refine ⟨_, ea7.cell c0, _, ea7.cell c1, _, ea7.cell c2, _, ea7.cell c3, _, ea7.cell c4, sh_step hU ea7 lkZ (by decide) (by decide +kernel) fun va8 ea8 => bcase_is rfl ?_⟩
    refine ⟨_, ea8.cell c0, _, ea8.cell c1, _, ea8.cell c2, _, ea8.cell c3, _, ea8.cell c4, sh_step hU ea8 lkZ (by decide) (by decide +kernel) fun va9 ea9 => bcase_is rfl ?_⟩
    exact ⟨_, ea9.cell c0, _, ea9.cell c1, _, ea9.cell c2, _, ea9.cell c3, _, ea9.cell c4, sh_step hU ea9 lkZ (by decide) (by decide +kernel) fun va10 ea10 => ⟨(), rfl, ea10⟩⟩
  rintro _ _ w3 e3
  have e03 := Ext.trans e2 e3
  have hU3 := hUD.ext e03
  replace c0 := e3.cell c0; replace c1 := e3.cell c1; replace c2 := e3.cell c2; replace c3 := e3.cell c3; replace c4 := e3.cell c4
  replace r0 := e3.cell r0; replace r1 := e3.cell r1; replace r2 := e3.cell r2; replace r3 := e3.cell r3; replace r4 := e3.cell r4
  refine ⟨?_, ?_⟩
  · refine ⟨_, (Ext.refl _).cell c0, _, (Ext.refl _).cell c1, _, (Ext.refl _).cell c2, _, (Ext.refl _).cell c3, _, (Ext.refl _).cell c4, sh_step hU3 (Ext.refl _) lkZ (by decide) (by decide +kernel) fun vb0 eb0 => bcase_is rfl ?_⟩
    refine ⟨_, eb0.cell r0, _, eb0.cell r1, _, eb0.cell r2, _, eb0.cell r3, _, eb0.cell r4, sh_step hU3 eb0 lkR (by decide) (by decide +kernel) fun vb1 eb1 => bcase_is rfl ?_⟩
    refine ⟨_, eb1.cell c0, _, eb1.cell c1, _, eb1.cell c2, _, eb1.cell c3, _, eb1.cell c4, sh_step hU3 eb1 lkZ (by decide) (by decide +kernel) fun vb2 eb2 => bcase_is rfl ?_⟩
    refine ⟨_, eb2.cell c0, _, eb2.cell c1, _, eb2.cell c2, _, eb2.cell c3, _, eb2.cell c4, sh_step hU3 eb2 lkZ (by decide) (by decide +kernel) fun vb3 eb3 => bcase_is rfl ?_⟩
    refine ⟨_, eb3.cell c0, _, eb3.cell c1, _, eb3.cell c2, _, eb3.cell c3, _, eb3.cell c4, sh_step hU3 eb3 lkZ (by decide) (by decide +kernel) fun vb4 eb4 => bcase_is rfl ?_⟩
    exact ⟨_, eb4.cell r0, _, eb4.cell r1, _, eb4.cell r2, _, eb4.cell r3, _, eb4.cell r4, sh_step hU3 eb4 lkR (by decide) (by decide +kernel) fun vb5 eb5 => ⟨(), rfl, eb5⟩⟩
  rintro _ _ w4 e4
  have e04 := Ext.trans e03 e4
  have hU4 := hUD.ext e04
  replace c0 := e4.cell c0; replace c1 := e4.cell c1; replace c2 := e4.cell c2; replace c3 := e4.cell c3; replace c4 := e4.cell c4
  replace r0 := e4.cell r0; replace r1 := e4.cell r1; replace r2 := e4.cell r2; replace r3 := e4.cell r3; replace r4 := e4.cell r4
  refine ⟨?_, ?_⟩
  · refine ⟨_, (Ext.refl _).cell c0, _, (Ext.refl _).cell c1, _, (Ext.refl _).cell c2, _, (Ext.refl _).cell c3, _, (Ext.refl _).cell c4, tx_step hU4 (Ext.refl _) lkZ (by decide) fun vd0 ed0 => bcase_is (by decide +kernel) ?_⟩
    refine ⟨_, ed0.cell c0, _, ed0.cell c1, _, ed0.cell c2, _, ed0.cell c3, _, ed0.cell c4, tx_step hU4 ed0 lkZ (by decide) fun vd1 ed1 => bcase_is (by decide +kernel) ?_⟩
    refine ⟨_, ed1.cell c0, _, ed1.cell c1, _, ed1.cell c2, _, ed1.cell c3, _, ed1.cell c4, tx_step hU4 ed1 lkZ (by decide) fun vd2 ed2 => bcase_is (by decide +kernel) ?_⟩
    refine ⟨_, ed2.cell c0, _, ed2.cell c1, _, ed2.cell c2, _, ed2.cell c3, _, ed2.cell c4, tx_step hU4 ed2 lkZ (by decide) fun vd3 ed3 => bcase_is (by decide +kernel) ?_⟩
    refine ⟨_, ed3.cell c0, _, ed3.cell c1, _, ed3.cell c2, _, ed3.cell c3, _, ed3.cell c4, tx_step hU4 ed3 lkZ (by decide) fun vd4 ed4 => bcase_is (by decide +kernel) ?_⟩
    exact pl_step hU4 ed4 (by decide) fun vd5 ed5 => ⟨(), by rw [str_eq]; exact congrArg Value.bool (by decide +kernel), ed5⟩
  rintro _ _ w5 e5
  have e05 := Ext.trans e04 e5
  replace c0 := e5.cell c0; replace c1 := e5.cell c1; replace c2 := e5.cell c2; replace c3 := e5.cell c3; replace c4 := e5.cell c4
  replace r0 := e5.cell r0; replace r1 := e5.cell r1; replace r2 := e5.cell r2; replace r3 := e5.cell r3; replace r4 := e5.cell r4
  refine ⟨⟨(0, none, 0), rfl, rfl, Nat.zero_le _, Made.nil _ _ _⟩, ?_⟩
  rintro _ ⟨n, a, c⟩ w6 ⟨hn, hm⟩
  dsimp only at hn hm ⊢
  refine bcase_mk (fun h => ?_) (fun h => ?_)
  · have hlt : n < 32 := by have := of_decide_eq_true h; omega
    obtain ⟨a', c', w7, hr, hko, hm7⟩ := hm.pushStr (P := Tryd.prog) (ty := 64) elem8 builder_str (ByteArray.mk #[204, 129]) (by show 2 * n + 2 ≤ _; omega)
    refine ⟨a', c', w7, hr, hko, inr_i64 (by omega) (by omega), (n + 1, a', c'), by simp, rfl, ⟨hlt, ?_⟩, by dsimp only; omega⟩
    dsimp only
    rw [mk_succ, u8L_app]
    exact hm7
  have hn32 : n = 32 := by have := of_decide_eq_false h; omega
  subst hn32
  have e6 : Ext w5 w6 := hm.ext
  have e06 := Ext.trans e05 e6
  have hU6 := hUD.ext e06
  replace c0 := e6.cell c0; replace c1 := e6.cell c1; replace c2 := e6.cell c2; replace c3 := e6.cell c3; replace c4 := e6.cell c4
  replace r0 := e6.cell r0; replace r1 := e6.cell r1; replace r2 := e6.cell r2; replace r3 := e6.cell r3; replace r4 := e6.cell r4
  have hcap : 62 ≤ c := by have := hm.row.le.1; omega
  have hcl := hm.row.cells
  have b64 : ∀ {V : World}, Ext w6 V → BytesIn V a (2 * 32) (strL (mkL 32)) := fun e => mk_in (n := 32) (hcl.ext e)
  have b62 : ∀ {V : World}, Ext w6 V → BytesIn V a 62 (strL (mkL 31)) := fun e => mk_in (n := 31) (by rw [← mk_take]; exact (hcl.ext e).take 62)
  refine ⟨?_, ?_⟩
  · intro w7 hd7
    have e7 : Ext w6 w7 := hd7.ext
    refine ⟨_, c0, _, c1, _, c2, _, c3, _, c4, 62, rfl, hcap, ?_, ?_⟩
    · refine ⟨_, b64 e7, Below.refl _ _, _, b62 e7, Below.refl _ _, kn_sz, ?_⟩
      refine sh_step hU6 e7 lkZ kn_s1 kn_one fun w8 e8 => bcase_is rfl ?_
      refine ⟨62, rfl, hcap, _, e8.cell c0, _, e8.cell c1, _, e8.cell c2, _, e8.cell c3, _, e8.cell c4, 62, rfl, hcap, ?_, ?_⟩
      · refine ⟨_, b62 e8, Below.refl _ _, _, b62 e8, Below.refl _ _, kn_sz, ?_⟩
        refine sh_step hU6 e8 lkZ kn_s2 kn_two fun w9 e9 => bcase_is rfl ?_
        refine ⟨_, e9.cell c0, _, e9.cell c1, _, e9.cell c2, _, e9.cell c3, _, e9.cell c4, sh_step hU6 e9 lkZ (by decide) (by decide +kernel) fun vfx0 efx0 => bcase_is rfl ?_⟩
        refine ⟨_, efx0.cell r0, _, efx0.cell r1, _, efx0.cell r2, _, efx0.cell r3, _, efx0.cell r4, sh_step hU6 efx0 lkR (by decide) (by decide +kernel) fun vfx1 efx1 => bcase_is rfl ?_⟩
        refine sh_step hU6 efx1 ⟨0, true, 0, false, false⟩ (by decide) (by decide +kernel) fun vfx2 efx2 => bcase_is rfl ?_
        exact ⟨_, efx2.cell r0, _, efx2.cell r1, _, efx2.cell r2, _, efx2.cell r3, _, efx2.cell r4, sh_step hU6 efx2 lkR (by decide) (by decide +kernel) fun vfx3 efx3 => ⟨(), rfl, efx3⟩⟩
      · refine ⟨_, b62 e8, Below.refl _ _, kn_sz, _, b62 e8, Below.refl _ _, ?_⟩
        refine sh_step hU6 e8 lkZ kn_s2 kn_two fun w9 e9 => bcase_is rfl ?_
        refine ⟨_, e9.cell c0, _, e9.cell c1, _, e9.cell c2, _, e9.cell c3, _, e9.cell c4, sh_step hU6 e9 lkZ (by decide) (by decide +kernel) fun vfy0 efy0 => bcase_is rfl ?_⟩
        refine ⟨_, efy0.cell r0, _, efy0.cell r1, _, efy0.cell r2, _, efy0.cell r3, _, efy0.cell r4, sh_step hU6 efy0 lkR (by decide) (by decide +kernel) fun vfy1 efy1 => bcase_is rfl ?_⟩
        refine sh_step hU6 efy1 ⟨0, true, 0, false, false⟩ (by decide) (by decide +kernel) fun vfy2 efy2 => bcase_is rfl ?_
        exact ⟨_, efy2.cell r0, _, efy2.cell r1, _, efy2.cell r2, _, efy2.cell r3, _, efy2.cell r4, sh_step hU6 efy2 lkR (by decide) (by decide +kernel) fun vfy3 efy3 => ⟨(), rfl, efy3⟩⟩
    · refine ⟨_, b62 e7, Below.refl _ _, kn_sz, _, b64 e7, Below.refl _ _, ?_⟩
      refine sh_step hU6 e7 lkZ kn_s1 kn_one fun w8 e8 => bcase_is rfl ?_
      refine ⟨62, rfl, hcap, _, e8.cell c0, _, e8.cell c1, _, e8.cell c2, _, e8.cell c3, _, e8.cell c4, 62, rfl, hcap, ?_, ?_⟩
      · refine ⟨_, b62 e8, Below.refl _ _, _, b62 e8, Below.refl _ _, kn_sz, ?_⟩
        refine sh_step hU6 e8 lkZ kn_s2 kn_two fun w9 e9 => bcase_is rfl ?_
        refine ⟨_, e9.cell c0, _, e9.cell c1, _, e9.cell c2, _, e9.cell c3, _, e9.cell c4, sh_step hU6 e9 lkZ (by decide) (by decide +kernel) fun vgx0 egx0 => bcase_is rfl ?_⟩
        refine ⟨_, egx0.cell r0, _, egx0.cell r1, _, egx0.cell r2, _, egx0.cell r3, _, egx0.cell r4, sh_step hU6 egx0 lkR (by decide) (by decide +kernel) fun vgx1 egx1 => bcase_is rfl ?_⟩
        refine sh_step hU6 egx1 ⟨0, true, 0, false, false⟩ (by decide) (by decide +kernel) fun vgx2 egx2 => bcase_is rfl ?_
        exact ⟨_, egx2.cell r0, _, egx2.cell r1, _, egx2.cell r2, _, egx2.cell r3, _, egx2.cell r4, sh_step hU6 egx2 lkR (by decide) (by decide +kernel) fun vgx3 egx3 => ⟨(), rfl, egx3⟩⟩
      · refine ⟨_, b62 e8, Below.refl _ _, kn_sz, _, b62 e8, Below.refl _ _, ?_⟩
        refine sh_step hU6 e8 lkZ kn_s2 kn_two fun w9 e9 => bcase_is rfl ?_
        refine ⟨_, e9.cell c0, _, e9.cell c1, _, e9.cell c2, _, e9.cell c3, _, e9.cell c4, sh_step hU6 e9 lkZ (by decide) (by decide +kernel) fun vgy0 egy0 => bcase_is rfl ?_⟩
        refine ⟨_, egy0.cell r0, _, egy0.cell r1, _, egy0.cell r2, _, egy0.cell r3, _, egy0.cell r4, sh_step hU6 egy0 lkR (by decide) (by decide +kernel) fun vgy1 egy1 => bcase_is rfl ?_⟩
        refine sh_step hU6 egy1 ⟨0, true, 0, false, false⟩ (by decide) (by decide +kernel) fun vgy2 egy2 => bcase_is rfl ?_
        exact ⟨_, egy2.cell r0, _, egy2.cell r1, _, egy2.cell r2, _, egy2.cell r3, _, egy2.cell r4, sh_step hU6 egy2 lkR (by decide) (by decide +kernel) fun vgy3 egy3 => ⟨(), rfl, egy3⟩⟩
  rintro _ _ w7 e7
  exact ⟨(), rfl, hUD.ext (Ext.trans e06 e7), fun _ w8 e8 => ⟨(), rfl, Ext.trans e06 (Ext.trans e7 e8)⟩⟩

end Go.Proofs.YthpjkgoahneldaaDoor
end
