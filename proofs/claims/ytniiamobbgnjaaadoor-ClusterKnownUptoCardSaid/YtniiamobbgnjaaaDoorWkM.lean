/-
  Chapter 3: the laws ClusterAll, ClusterAt, ClusterCuts.
-/
import Derived.Test.YtniiamobbgnjaaaDoorVgM
import Derived.Test.YtniiamobbgnjaaaDoorWkL
import Derived.Test.YtniiamobbgnjaaaDoorCm
set_option linter.unusedVariables false
set_option linter.unusedSimpArgs false
namespace Go.Proofs.YtniiamobbgnjaaaDoor
open Go Go.RowKit Vc Ut Tb Cl Orb

theorem yes_ext {w w' : World} (h : Ext w w') : ∃ (_ : Unit), Value.bool true = Value.bool true ∧ Ext w w' := ⟨(), rfl, h⟩

theorem lawAll_ok : sLawSI.Ok Tryd.prog 3 := by
  refine lawAll_vc ⟨steps_ok, rallP_ok, call_ok, cback_ok, told_ok, cnext_ok, rnextC_ok, clast_ok, rlastC_ok, ccount_ok, alive_ok, trivial⟩ ?_
  rintro ⟨s, leave⟩ w ⟨hU, hsz, _, _⟩
  dsimp only at hU hsz ⊢
  have hncl := ncl_le s
  refine ⟨(), rfl, hU, ?_⟩
  rintro _ w1 e1
  refine ⟨s, rfl, ⟨hU.ext e1, by omega⟩, ?_⟩
  rintro ⟨a, n, c⟩ w2 ⟨hn, hm⟩
  dsimp only at hn hm ⊢
  subst hn
  rw [pcV_flat] at hm
  have e2 := e1.trans hm.ext
  refine ⟨s, rfl, trivial, ?_⟩
  rintro x w3 ⟨hx, hxs, e23⟩
  have e3 := e2.trans e23
  have hU3 := hU.ext e3
  have hpl := pc_len s
  refine ⟨⟨⟨47, #[.pointer (some ⟨x, 0, none⟩)], pcL s, cC x⟩, pcL s, a, c, false, leave⟩, by dsimp only; rw [hpl], ⟨⟨pc_iter hxs hU3 (by omega), cC_lt (heap_lt hxs) hU3, by dsimp only; omega⟩, hm.row.cells.ext e23, rfl⟩, ?_⟩
  rintro _ w4 e34
  have e4 := e3.trans e34
  refine ⟨s, rfl, ⟨hU.ext e4, by omega⟩, ?_⟩
  rintro ⟨gs, bl, bs, ga, gc⟩ w5 ⟨hgs, hbk, _, _, _, e45⟩
  dsimp only at hgs
  subst hgs
  have e5 := e4.trans e45
  have hrl : (pcR gs).length = ncl gs := pcr_len gs
  have hit := bk_iter (g := ⟨gs, bl, bs, ga, gc⟩) hbk (by dsimp only; omega)
  have hlt := cB_lt hbk
  refine ⟨⟨⟨33, #[.pointer (some ⟨bl, 0, none⟩), .pointer (some ⟨bs, 0, none⟩)], pcR gs, cB ⟨gs, bl, bs, ga, gc⟩⟩, pcL gs, a, c, true, leave⟩, by dsimp only; rw [hpl], ⟨⟨hit, hlt, by dsimp only; omega⟩, hm.row.cells.ext (e23.trans (e34.trans e45)), by dsimp only; rw [if_pos rfl]; exact pcR_rev gs⟩, ?_⟩
  rintro _ w6 e56
  have e6 := e5.trans e56
  refine ⟨gs, rfl, ⟨hU.ext e6, by omega⟩, ?_⟩
  rintro x6 w7 ⟨hx6, e67⟩
  have e7 := e6.trans e67
  refine ⟨gs, rfl, ⟨hU.ext e7, by omega⟩, ?_⟩
  rintro x7 w8 ⟨hx7, e78⟩
  have e8 := e7.trans e78
  refine bcase_mk (fun _ => ?_) (fun h => by rw [hx6, hx7] at h; simp at h)
  refine ⟨gs, rfl, ⟨hU.ext e8, by omega⟩, ?_⟩
  rintro x8 w9 ⟨hx8, e89⟩
  have e9 := e8.trans e89
  refine ⟨gs, rfl, ⟨hU.ext e9, by omega⟩, ?_⟩
  rintro x9 w10 ⟨hx9, e910⟩
  have e10 := e9.trans e910
  refine bcase_mk (fun _ => ?_) (fun h => by rw [hx8, hx9] at h; simp at h)
  refine ⟨gs, rfl, ⟨hU.ext e10, by omega⟩, ?_⟩
  rintro x10 w11 ⟨hx10, e11'⟩
  have e11 := e10.trans e11'
  refine bcase_mk (fun _ => ?_) (fun h => by rw [hx10] at h; simp at h)
  refine ⟨(), rfl, hU.ext e11, ?_⟩
  rintro _ w12 e12
  exact yes_ext (e11.trans e12)

set_option maxRecDepth 10000 in
theorem lawAt_ok : sLawSL.Ok Tryd.prog 4 := by
  refine lawAt_vc ⟨steps_ok, cat_ok, rat_ok, cis_ok, ris_ok, alive_ok, trivial⟩ ?_
  rintro ⟨s, ad, c, xs⟩ w ⟨hU, hsz, ⟨hl, _⟩, hll⟩
  dsimp only at hU hsz hl hll ⊢
  refine ⟨(), rfl, hU, ?_⟩
  rintro _ w1 e1
  obtain ⟨a', c', w2, hrun, hko, hm2, _⟩ := (Made.nil w1 3 1).pushS (P := Tryd.prog) (ty := 31) (sa := ad) (cx := c) elem64 (by decide) (m := xs.length) (news := xs.map (Value.int .i64)) (by simp) (hl.ext e1) (one_ints _ _) (by unfold maxLen; omega) (.inr (by omega))
  simp only [List.nil_append] at hm2
  refine ⟨a', c', w2, hrun, hko, ⟨⟨⟨0, a', c', xs⟩, rfl, by dsimp only; rw [Nat.zero_add], Nat.zero_le _, fun h => absurd h (Nat.lt_irrefl 0), rfl, ?_⟩, ?_⟩, ?_⟩
  · rw [Nat.zero_add] at hm2
    exact hm2.earlier e1
  · rintro _ ⟨j, a, c, ys⟩ w3 ⟨hj, hs2, hyl, hm⟩
    dsimp only at hj hs2 hyl hm ⊢
    have hyb : ys.length ≤ 2000000 := by
      by_cases h0 : j = 0
      · omega
      · have := hs2 (by omega); omega
    have done : ∃ c2 : GLa, Value.slice a ys.length c = Value.slice c2.a c2.xs.length c2.c ∧ c2.xs.length ≤ 2000000 ∧ Made w w3 3 1 c2.a c2.xs.length (c2.xs.map (Value.int .i64)) c2.c := ⟨⟨0, a, c, ys⟩, rfl, hyb, hm⟩
    refine ⟨inr_i64 (by omega) (by omega), bcase_mk (fun h1 => bcase_mk (fun h2 => ?_) (fun _ => done)) (fun _ => done)⟩
    have h1 := of_decide_eq_true h1
    have h2 := of_decide_eq_true h2
    intro b w4 hn
    obtain ⟨a2, c2, w5, hrun, hko, hm5, _⟩ := hm.pushN (P := Tryd.prog) (ty := 31) elem64 (by decide) (m := 1) (news := [.int .i64 ((j : Int) - 1)]) hn rfl (by simp [Value.oneCell']) (by unfold maxLen; omega) (.inr (by omega))
    refine ⟨a2, c2, w5, hrun, hko, inr_i64 (by omega) (by omega), ⟨j + 1, a2, c2, ys ++ [(j : Int) - 1]⟩, by dsimp only; congr 1; omega, by dsimp only; rw [List.length_append]; rfl, ⟨by dsimp only; omega, fun _ => by omega, by dsimp only; rw [List.length_append, hyl]; rfl, ?_⟩, by dsimp only; omega⟩
    dsimp only
    rw [List.length_append, List.map_append]
    exact hm5
  · rintro _ ⟨_, a, c, ys⟩ w3 ⟨hyb, hm⟩
    dsimp only at hyb hm ⊢
    refine ⟨⟨0, rfl, Nat.zero_le _, Ext.refl _⟩, ?_⟩
    rintro _ i w4 ⟨hi, e34⟩
    have e4 := hm.ext.trans e34
    refine bcase_mk (fun h => ?_) (fun _ => ⟨(), rfl, hU.ext e4, fun _ w5 e5 => yes_ext (e4.trans e5)⟩)
    simp only [Bool.and_eq_true, decide_eq_true_eq] at h
    have hlt : i < ys.length := by omega
    have hc4 := hm.row.cells.ext e34
    refine ⟨i, rfl, hlt, hc4.int hlt fun b o hb => ⟨_, hb, (s, _), rfl, ⟨hU.ext e4, by dsimp only; omega⟩, ?_⟩⟩
    rintro x5 w5 ⟨hx5, e45⟩
    refine ⟨i, rfl, hlt, (hc4.ext e45).int hlt fun b o hb => ⟨_, hb, (s, _), rfl, ⟨hU.ext (e4.trans e45), by dsimp only; omega⟩, ?_⟩⟩
    rintro x6 w6 ⟨hx6, e56⟩
    subst hx5
    subst hx6
    intro w7 hd
    have e46 := e45.trans e56
    have e47 := e46.trans hd.ext
    refine bcase_mk (fun h => by simp at h) (fun _ => bcase_mk (fun h => by simp at h) (fun _ => ?_))
    refine ⟨i, rfl, hlt, (hc4.ext e46).int hlt fun b o hb => ⟨_, hb, i, rfl, hlt, (hc4.ext e46).int hlt fun b2 o2 hb2 => ⟨_, hb2, (s, _), rfl, ⟨hU.ext (e4.trans e47), by dsimp only; omega⟩, ?_⟩⟩⟩
    rintro x8 w8 ⟨hx8, e78⟩
    refine ⟨e78, (s, _), rfl, ⟨hU.ext ((e4.trans e47).trans e78), by dsimp only; omega⟩, ?_⟩
    rintro x9 w9 ⟨hx9, e89⟩
    refine bcase_mk (fun h => by rw [hx8, hx9] at h; simp at h) (fun _ => ⟨inr_i64 (by omega) (by omega), i + 1, by simp, ⟨hlt, e34.trans ((e47.trans e78).trans e89)⟩, by omega⟩)

theorem mod_nat {a : Int} {n : Nat} : a.tmod ((n : Int) + 1) < (n : Int) + 1 ∧ -((n : Int) + 1) < a.tmod ((n : Int) + 1) := by
  have h1 := Int.tmod_lt_of_pos a (b := (n : Int) + 1) (by omega)
  have h2 := Int.lt_tmod_of_pos a (b := (n : Int) + 1) (by omega)
  omega

theorem pc_cell {w : World} {s : ByteArray} {a : Option Addr} {k : Nat} {j : Nat} {v : Value} {K : Nat → Nat → Prop} (h : CellsAt w a ((pcL s).flatMap encPc)) (hk : k < ncl s) (hj : j < 2) (hv : (encPc (pcP s k))[j]? = some v)
    (hK : ∀ b o, w.cell? ⟨b, o + k * 2 + j, none⟩ = some v → K b o) : ptrE a K := h.fld (s := 2) (by rw [enc_at (pc_get hk) hj]; exact hv) hK
theorem upP_zero (l : List (Nat × ByteArray)) : l.map (upP 0) = l := by
  rw [List.map_congr_left (g := id) (fun p _ => by cases p; rfl), List.map_id]
theorem pc_le {s : ByteArray} (hs : s.size ≤ 67108864) : ∀ p ∈ pcL s, p.1 ≤ 67108864 := by
  intro p hp
  obtain ⟨i, _, rfl⟩ := List.mem_map.1 hp
  have := bp_le s i
  show bp s i ≤ _
  omega
theorem pc_sz {s : ByteArray} {i : Nat} : ((pcP s i).2.size : Int) = (bp s (i + 1) : Int) - bp s i := ext_sz (bp_le s _) (bp_mono s (by omega))

theorem flat_take {α : Type} {f : α → List Value} {s : Nat} (hf : ∀ x, (f x).length = s) : ∀ (l : List α) (n : Nat), (l.flatMap f).take (n * s) = (l.take n).flatMap f
  | [], n => by simp
  | x :: l, 0 => by simp
  | x :: l, n + 1 => by
    rw [List.flatMap_cons, List.take_succ_cons, List.flatMap_cons, List.take_append, hf, List.take_of_length_le (by rw [hf, Nat.add_mul]; omega), show (n + 1) * s - s = n * s from by rw [Nat.add_mul]; omega, flat_take hf l n]

set_option maxHeartbeats 2000000 in
set_option maxRecDepth 10000 in
theorem lawCut_ok : sLawSI.Ok Tryd.prog 5 := by
  refine lawCut_vc ⟨steps_ok, call_ok, cback_ok, pcs_ok, ccount_ok, alive_ok, sameP_ok, cis_ok, cat_ok, cnext_ok, trivial⟩ ?_
  rintro ⟨s, wh⟩ w ⟨hU, hsz, hw1, hw2⟩
  dsimp only at hU hsz hw1 hw2 ⊢
  have hncl := ncl_le s
  have hpl := pc_len s
  have hrl := pcr_len s
  refine ⟨(), rfl, hU, ?_⟩
  rintro _ w1 e1
  refine ⟨s, rfl, trivial, ?_⟩
  rintro x w2 ⟨_, hxs, e12⟩
  have e2 := e1.trans e12
  refine ⟨⟨47, #[.pointer (some ⟨x, 0, none⟩)], pcL s, cC x⟩, rfl, ⟨pc_iter hxs (hU.ext e2) (by omega), cC_lt (heap_lt hxs) (hU.ext e2), by dsimp only; omega⟩, ?_⟩
  rintro ⟨la, ln, lc⟩ w3 ⟨hln, hml⟩
  dsimp only at hln hml ⊢
  rw [hpl] at hln
  subst hln
  have e3 := e2.trans hml.ext
  refine ⟨s, rfl, ⟨hU.ext e3, by omega⟩, ?_⟩
  rintro ⟨gs, bl, bs, ga, gc⟩ w4 ⟨hgs, hbk, _, _, _, e34⟩
  dsimp only at hgs
  subst hgs
  have e4 := e3.trans e34
  have hit := bk_iter (g := ⟨gs, bl, bs, ga, gc⟩) hbk (by dsimp only; omega)
  have hlt := cB_lt hbk
  refine ⟨⟨33, #[.pointer (some ⟨bl, 0, none⟩), .pointer (some ⟨bs, 0, none⟩)], pcR gs, cB ⟨gs, bl, bs, ga, gc⟩⟩, rfl, ⟨hit, hlt, by dsimp only; omega⟩, ?_⟩
  rintro ⟨ra, rn, rc⟩ w5 ⟨hrn, hmr⟩
  dsimp only at hrn hmr ⊢
  rw [hrl] at hrn
  subst hrn
  have e5 := e4.trans hmr.ext
  have E35 := e34.trans hmr.ext
  refine bcase_mk (fun h => by simp at h) (fun _ => ?_)
  refine ⟨gs, rfl, ⟨hU.ext e5, by omega⟩, ?_⟩
  rintro x6 w6 ⟨hx6, e56⟩
  refine bcase_mk (fun h => by rw [hx6] at h; simp at h) (fun _ => ?_)
  have e6 := e5.trans e56
  refine ⟨(), rfl, hU.ext e6, ?_⟩
  rintro _ w7 e67
  have e7 := e6.trans e67
  have hcl7 := hml.row.cells.ext (E35.trans (e56.trans e67))
  have hcr7 := hmr.row.cells.ext (e56.trans e67)
  refine ⟨⟨0, rfl, rfl, Nat.zero_le _, Ext.refl _⟩, ?_⟩
  rintro _ i w8 ⟨hi, e78⟩
  have e8 := e7.trans e78
  have hcl := hcl7.ext e78
  have hcr := hcr7.ext e78
  refine bcase_mk (fun h => ?_) (fun h => ?_)
  · have hlt : i < ncl gs := by have := of_decide_eq_true h; omega
    intro w9 hd
    have hri : (pcR gs)[ncl gs - 1 - i]? = some (pcP gs i) := by
      rw [pcr_get (by omega)]; congr 2; omega
    refine ⟨inr_i64 (by omega) (by omega), inr_i64 (by omega) (by omega), ncl gs - 1 - i, by omega, by omega, ?_⟩
    refine hcr.elem (k := ncl gs - 1 - i) (s := 2) (by decide) (by rw [flat_len' (s := 2) (fun _ => rfl), hrl]; omega) fun b o hb => ?_
    have hb0 := hb 0 _ (by rw [enc_at hri (by decide)]; rfl)
    have hb1 := hb 1 _ (by rw [enc_at hri (by decide)]; rfl)
    refine ⟨_, hb0, _, hb1, i, rfl, hlt, ?_⟩
    refine hcl.elem (k := i) (s := 2) (by decide) (by rw [flat_len' (s := 2) (fun _ => rfl), hpl]; omega) fun b2 o2 hb2 => ?_
    have hc0 := hb2 0 _ (by rw [enc_at (pc_get hlt) (by decide)]; rfl)
    have hc1 := hb2 1 _ (by rw [enc_at (pc_get hlt) (by decide)]; rfl)
    refine ⟨_, hc0, _, hc1, bcase_mk (fun h => by simp at h) (fun _ => ?_)⟩
    refine ⟨i, rfl, hlt, pc_cell hcl hlt (j := 0) (by decide) rfl fun b o hb => ⟨_, hb, bcase_mk (fun h => by simp [pcP] at h) (fun _ => ?_)⟩⟩
    have hst := bp_strict (s := gs) (show i < i + 1 by omega) hlt
    have hps := pc_sz (s := gs) (i := i)
    refine ⟨i, rfl, hlt, pc_cell hcl hlt (j := 1) (by decide) rfl fun b o hb => ⟨_, hb, bcase_mk (fun h => ?_) (fun _ => ?_)⟩⟩
    · rw [str_nil] at h
      have := of_decide_eq_true h
      omega
    have hble := bp_le gs (i + 1)
    refine ⟨i, rfl, hlt, pc_cell (hcl.ext hd.ext) hlt (j := 1) (by decide) rfl fun b o hb => ⟨_, hb, ?_⟩⟩
    rw [hps, show (bp gs i : Int) + ((bp gs (i + 1) : Int) - bp gs i) = (bp gs (i + 1) : Int) from by omega]
    exact ⟨inr_i64 (by omega) (by omega), inr_i64 (by omega) (by omega), i + 1, by simp, rfl, ⟨hlt, e78.trans hd.ext⟩, by omega⟩
  · have hie : i = ncl gs := by have := of_decide_eq_false h; omega
    subst hie
    have hbe := bp_end gs
    refine bcase_mk (fun h => by rw [hbe] at h; simp at h) (fun _ => ?_)
    have hwr : IntKind.i64.wrap ((ncl gs : Int) + 1) = (ncl gs : Int) + 1 := (inr_i64 (by omega) (by omega)).wrap
    rw [hwr]
    obtain ⟨hm1, hm2⟩ := mod_nat (a := wh) (n := ncl gs)
    refine ⟨by omega, bcase_mk (fun h => ?_) (fun h => ?_), ?_⟩
    · have h := of_decide_eq_true h
      exact ⟨inr_i64 (by omega) (by omega), inr_i64 (by omega) (by omega), (wh.tmod ((ncl gs : Int) + 1) + (ncl gs : Int) + 1).toNat, by congr 1; omega, by omega, Ext.refl _⟩
    · have h := of_decide_eq_false h
      exact ⟨(wh.tmod ((ncl gs : Int) + 1)).toNat, by congr 1; omega, by omega, Ext.refl _⟩
    rintro _ n w9 ⟨hn, e89⟩
    have e9 := e8.trans e89
    refine ⟨bcase_mk (fun h => ?_) (fun h => ⟨n, ?_, rfl, Ext.refl _⟩), ?_⟩
    · have hlt : n < ncl gs := by have := of_decide_eq_true h; omega
      exact ⟨n, rfl, hlt, pc_cell (hcl.ext e89) hlt (j := 0) (by decide) rfl fun b o hb => ⟨_, hb, n, rfl, rfl, Ext.refl _⟩⟩
    · have : n = ncl gs := by have := of_decide_eq_false h; omega
      rw [this, hbe]
    rintro _ n' w10 ⟨hn', e910⟩
    have : n' = n := by omega
    subst this
    have e10 := e9.trans e910
    have hble := bp_le gs n'
    refine ⟨bp gs n', rfl, Nat.zero_le _, hble, _, rfl, trivial, ?_⟩
    rintro x8 w11 ⟨_, hx8, e1011⟩
    have e11 := e10.trans e1011
    have hz1 : (gs.extract 0 (bp gs n')).size = bp gs n' := by rw [size_ext hble]; omega
    have hz2 : (gs.extract (bp gs n') gs.size).size = gs.size - bp gs n' := size_ext (Nat.le_refl _)
    have hn1 := ncl_le (gs.extract 0 (bp gs n'))
    have hn2 := ncl_le (gs.extract (bp gs n') gs.size)
    have hp1 := pc_len (gs.extract 0 (bp gs n'))
    have hp2 := pc_len (gs.extract (bp gs n') gs.size)
    refine ⟨⟨47, #[.pointer (some ⟨x8, 0, none⟩)], pcL (gs.extract 0 (bp gs n')), cC x8⟩, rfl, ⟨pc_iter hx8 (hU.ext e11) (by omega), cC_lt (heap_lt hx8) (hU.ext e11), by dsimp only; omega⟩, ?_⟩
    rintro ⟨aa, an, ac⟩ w12 ⟨han, hma⟩
    dsimp only at han hma ⊢
    subst han
    have e12' := e11.trans hma.ext
    refine ⟨bp gs n', rfl, hble, Nat.le_refl _, _, rfl, trivial, ?_⟩
    rintro x10 w13 ⟨_, hx10, e1213⟩
    have e13 := e12'.trans e1213
    refine ⟨⟨47, #[.pointer (some ⟨x10, 0, none⟩)], pcL (gs.extract (bp gs n') gs.size), cC x10⟩, rfl, ⟨pc_iter hx10 (hU.ext e13) (by omega), cC_lt (heap_lt hx10) (hU.ext e13), by dsimp only; omega⟩, ?_⟩
    rintro ⟨ba, bn, bc⟩ w14 ⟨hbn, hmb⟩
    dsimp only at hbn hmb ⊢
    subst hbn
    have e14 := e13.trans hmb.ext
    have E814 : Ext w8 w14 := ((e89.trans e910).trans (e1011.trans hma.ext)).trans (e1213.trans hmb.ext)
    have hcl14 := hcl.ext E814
    have hlc := hml.row.le
    have ht1 := pcL_take hn
    have ht2 := pcL_drop hn
    refine ⟨n', rfl, by omega, ⟨la, lc, (pcL gs).take n', aa, ac, pcL (gs.extract 0 (bp gs n')), 0⟩, ?_, ⟨?_, hma.row.cells.ext (e1213.trans hmb.ext), by dsimp only; rw [List.length_take]; omega, Nat.zero_le _, pc_le (by omega)⟩, ?_⟩
    · dsimp only; rw [List.length_take, hpl, Nat.min_eq_left hn]; rfl
    · have h1 := hcl14.take (n' * 2)
      have h2 : ((pcL gs).flatMap encPc).take (n' * 2) = ((pcL gs).take n').flatMap encPc := flat_take (s := 2) (fun _ => rfl) _ _
      rw [h2] at h1; exact h1
    rintro x12 w15 ⟨hx12, e1415⟩
    dsimp only at hx12
    rw [upP_zero, ht1] at hx12
    refine bcase_mk (fun h => by rw [hx12] at h; simp at h) (fun _ => ?_)
    have e15 := e14.trans e1415
    refine ⟨n', rfl, hn, fun ad' hsl => ⟨⟨ad', lc - n', (pcL gs).drop n', ba, bc, pcL (gs.extract (bp gs n') gs.size), bp gs n'⟩, ?_, ⟨?_, hmb.row.cells.ext e1415, by dsimp only; rw [List.length_drop]; omega, by dsimp only; omega, pc_le (by omega)⟩, ?_⟩⟩
    · dsimp only; rw [List.length_drop, hpl]
    · have h1 := (hcl14.ext e1415).drop hsl (by omega) (by rw [flat_len' (s := 2) (fun _ => rfl), hpl]; omega)
      rw [flat_drop (s := 2) (fun _ => rfl)] at h1; exact h1
    rintro x13 w16 ⟨hx13, e1516⟩
    dsimp only at hx13
    refine bcase_mk (fun h => by rw [hx13, ht2] at h; simp [upBy, upP] at h) (fun _ => ?_)
    have e16 := e15.trans e1516
    refine ⟨(gs, _), rfl, ⟨hU.ext e16, by dsimp only; omega⟩, ?_⟩
    rintro x14 w17 ⟨hx14, e1617⟩
    have hisb : isB gs (bp gs n' : Int) = true := isB_iff.2 ⟨n', hn, rfl⟩
    refine bcase_mk (fun h => by rw [hx14, hisb] at h; simp at h) (fun _ => ?_)
    have e17 := e16.trans e1617
    have hcl17 := hcl14.ext (e1415.trans (e1516.trans e1617))
    refine bcase_mk (fun h => ?_) (fun h => ?_)
    · have hlt : n' < ncl gs := by have := of_decide_eq_true h; omega
      have hst := bp_strict (s := gs) (show n' < n' + 1 by omega) hlt
      have hps := pc_sz (s := gs) (i := n')
      have hbl2 := bp_le gs (n' + 1)
      have hix := at_in (s := gs) (i := n') (q := bp gs (n' + 1) - 1) hlt (by omega) (by omega)
      refine ⟨n', rfl, hlt, pc_cell hcl17 hlt (j := 1) (by decide) rfl fun b o hb => ⟨_, hb, ?_⟩⟩
      rw [hps, show (bp gs n' : Int) + ((bp gs (n' + 1) : Int) - bp gs n') = (bp gs (n' + 1) : Int) from by omega]
      refine ⟨inr_i64 (by omega) (by omega), inr_i64 (by omega) (by omega), (gs, _), rfl, ⟨hU.ext e17, by dsimp only; omega⟩, ?_⟩
      rintro x15 w18 ⟨hx15, e1718⟩ w19 hd
      dsimp only at hx15
      rw [show (bp gs (n' + 1) : Int) - 1 = ((bp gs (n' + 1) - 1 : Nat) : Int) from by omega, hix] at hx15
      subst hx15
      have hcl18 := hcl17.ext e1718
      refine bcase_mk (fun _ => ?_) (fun h => by simp at h)
      refine ⟨n', rfl, hlt, pc_cell hcl18 hlt (j := 1) (by decide) rfl fun b o hb => ⟨_, hb, ?_⟩⟩
      rw [hps, show (bp gs n' : Int) + ((bp gs (n' + 1) : Int) - bp gs n') = (bp gs (n' + 1) : Int) from by omega]
      refine ⟨inr_i64 (by omega) (by omega), bcase_mk (fun _ => ?_) (fun h => by simp at h)⟩
      refine ⟨bp gs n', rfl, hble, Nat.le_refl _, n', rfl, hlt, pc_cell hcl18 hlt (j := 1) (by decide) rfl fun b o hb => ⟨_, hb, _, rfl, ⟨hU.ext ((e17.trans e1718).trans hd.ext), by omega⟩, ?_⟩⟩
      rintro x16 w20 ⟨hx16, e1920⟩
      refine ⟨e1920, (), congrArg Value.bool ?_, ((e17.trans e1718).trans hd.ext).trans e1920⟩
      have hnd := next_drop (s := gs) (i := n') (by omega)
      rw [hx16]
      simp only [beq_iff_eq]
      omega
    · have hie : n' = ncl gs := by have := of_decide_eq_false h; omega
      refine ⟨(gs, _), rfl, ⟨hU.ext e17, by dsimp only; omega⟩, ?_⟩
      rintro x15 w18 ⟨hx15, e1718⟩
      refine ⟨(), congrArg Value.bool ?_, e17.trans e1718⟩
      dsimp only at hx15
      rw [hie, hbe, at_end (Int.le_refl _)] at hx15
      rw [hx15, hie, bp_out (Nat.le_refl _), bp_out (Nat.le_succ _)]
      simp

end Go.Proofs.YtniiamobbgnjaaaDoor
