/-
  Texts joined by program: WkXm, WkXn, WkXo, SpXj, VgXj, Qm.
-/
import Derived.Test.YtjdohhididpomaaDoorWk18
import Derived.Test.YtjdohhididpomaaDoorWk06
import Derived.Test.YtjdohhididpomaaDoorProg
import Derived.KernelRfl
import Derived.Test.YtjdohhididpomaaDoorWk07
set_option linter.unusedVariables false
set_option linter.unusedSimpArgs false

section
namespace Go.Proofs.YtjdohhididpomaaDoor
open Go Go.RowKit Vc Ut Tb Cl
set_option maxRecDepth 2000 in
theorem joinG_ok : sJoinG.Ok Tryd.prog 52 := by
  refine joinG_vc ⟨textW_ok, plainW_ok, layG_ok, trivial⟩ ?_
  rintro ⟨A, g, r, m⟩ w ⟨hG, hk, hm⟩
  dsimp only at hG hk hm ⊢
  have hF := hk.fit hm
  have hw := hF.w; have hh := hF.h; have hlen := hF.len; have hlast := hF.last
  have hwh : g.w * g.h ≤ 1048576 := Nat.le_trans (Nat.mul_le_mul hw hh) (by decide)
  have hx := hF.x
  refine ⟨g.last, (cell_of_heap hG.box 8).trans rfl, bcase_mk (fun h => ?_) (fun h => ?_)⟩
  · have h : g.last = 0 := by have := beq_iff_eq.1 h; omega
    have e : joinG g r = none := by unfold joinG; rw [if_pos h]
    exact ⟨(A, false), rfl, by rw [e]; rfl, by rw [e]; exact GlOut.refl hG⟩
  have hl : g.last ≠ 0 := by have := beq_eq_false_iff_ne.1 h; omega
  clear h
  obtain ⟨t1, t2, tz⟩ := hk.txt hl
  have hL := hk.last hl
  have hi : g.last - 1 < g.cs.length := by have := hL.le; omega
  have hez := enc1_len r
  refine ⟨g.last, (cell_of_heap hG.box 8).trans rfl, inr_i64 (by omega) (by omega), _, _, _, (cell_of_heap hG.box 3).trans rfl, g.last - 1, by omega, hi, hG.row.cells.ce hi fun b o hce => hce.load ⟨ceG g.cs (g.last - 1), rfl, trivial, ?_⟩⟩
  rintro _ w1 ⟨rfl, hx1⟩
  have hG1 := hG.ext hx1
  refine ⟨g.wd, (cell_of_heap hG1.box 2).trans rfl, (txC (ceG g.cs (g.last - 1)), g.wd), rfl, ⟨hG1.ud, Nat.le_trans tz (by decide)⟩, ?_⟩
  rintro n w2 ⟨hn, hx2⟩
  dsimp only at hn
  have hx02 := Ext.trans hx1 hx2
  have hG2 := hG.ext hx02
  have hsz : (txC (ceG g.cs (g.last - 1)) ++ Utf8.encode r).size ≤ 132 := by
    rw [ByteArray.size_append]; have : (Utf8.encode r).size ≤ 4 := hez; omega
  refine ⟨by have : (Utf8.encode r).size ≤ 4 := hez; omega, g.wd, (cell_of_heap hG2.box 2).trans rfl, (txC (ceG g.cs (g.last - 1)) ++ Utf8.encode r, g.wd), rfl, ⟨hG2.ud, Nat.le_trans hsz (by decide)⟩, ?_⟩
  rintro k w3 ⟨hkk, hx3⟩
  dsimp only at hkk
  have hx03 := Ext.trans hx02 hx3
  have hG3 := hG.ext hx03
  have hO3 := GlOut.ext hG hx03
  have hj : joinG g r = if k < n then none else if n < k then
    (if g.last % g.w = 0 then some { g with last := 0 } else
      some { g with cs := (layL g.cs g.w g.last (hlfC (ceG g.cs (g.last - 1)).st)).set (g.last - 1) { ceG (layL g.cs g.w g.last (hlfC (ceG g.cs (g.last - 1)).st)) (g.last - 1) with t := txC (ceG g.cs (g.last - 1)) ++ enc1 r }, x := g.x + 1 })
    else some { g with cs := g.cs.set (g.last - 1) { ceG g.cs (g.last - 1) with t := txC (ceG g.cs (g.last - 1)) ++ enc1 r } } := by
    unfold joinG; rw [if_neg hl, hn, hkk]; rfl
  rw [hj]
  clear hj
  refine bcase_mk (fun h1 => ?_) (fun h1 => bcase_mk (fun h2 => ?_) (fun h2 => ?_))
  · have h1 : k < n := by have := of_decide_eq_true h1; omega
    rw [if_pos h1]
    exact ⟨(A, false), rfl, rfl, hO3⟩
  · have h1 : ¬ k < n := by have := of_decide_eq_false h1; omega
    have h2 : n < k := by have := of_decide_eq_true h2; omega
    rw [if_neg h1, if_pos h2]
    have hk2 : k ≤ 2 := by rw [hkk]; exact pl_le2 _ _
    have hn1 : plN (txC (ceG g.cs (g.last - 1))) g.wd = 1 := by omega
    have hw0 : 0 < g.w := (hk.lay hi).2.1
    have hmod : ((g.last : Int) - 1 + 1) % (g.w : Int) = ((g.last % g.w : Nat) : Int) := by rw [Int.natCast_emod, show (g.last : Int) - 1 + 1 = g.last by omega]
    refine ⟨inr_i64 (by omega) (by omega), g.w, (cell_of_heap hG3.box 0).trans rfl, by omega, by omega, bcase_mk (fun h3 => ?_) (fun h3 => ?_)⟩
    · have h3 : g.last % g.w = 0 := by have := beq_iff_eq.1 h3; rw [hmod] at this; omega
      refine ⟨rfl, hG3.old (k := 8) (by decide), hG3.free 8, fun w4 hs => ⟨(A, true), rfl, ?_⟩⟩
      rw [if_pos h3]
      exact ⟨rfl, hO3.trans (gl_put hG3 hs rfl rfl rfl)⟩
    · have h3 : g.last % g.w ≠ 0 := by have := beq_eq_false_iff_ne.1 h3; rw [hmod] at this; omega
      rw [if_neg h3]
      obtain ⟨hll, hxw⟩ := hk.last_lt hl hn1 h3
      have hlay := hk.lay hll
      have hst := (st_ce hk.st (g.last - 1)).1
      refine ⟨inr_i64 (by omega) (by omega), _, _, _, (cell_of_heap hG3.box 3).trans rfl, g.last - 1, by omega, hi, hG3.row.cells.ce hi fun b4 o4 hc4 => ⟨_, hc4.2.2.2.2.2, ⟨A, g, g.last, hlfC (ceG g.cs (g.last - 1)).st⟩, by dsimp only; rw [show (g.last : Int) - 1 + 1 = g.last by omega]; rfl, ⟨hG3, hF, hlay⟩, ?_⟩⟩
      intro A4 w4 hO4
      dsimp only at hO4
      have hG4 := hO4.is
      have hp4 : A4.p = A.p := hO4.p
      refine ⟨g.x, by rw [← hp4]; exact (cell_of_heap hG4.box 4).trans rfl, inr_i64 (by omega) (by omega), rfl, by rw [← hp4]; exact hG4.old (k := 4) (by decide), by rw [← hp4]; exact hG4.free 4, fun w5 hs5 => ?_⟩
      rw [← hp4] at hs5
      have hO5 := gl_put (g' := { layS g g.last (hlfC (ceG g.cs (g.last - 1)).st) with x := g.x + 1 }) hG4 hs5 rfl rfl rfl
      have hG5 := hO5.is
      have hl5 : (layL g.cs g.w g.last (hlfC (ceG g.cs (g.last - 1)).st)).length = g.cs.length := lay_len _ _ _ _
      refine ⟨_, _, _, by rw [← hp4]; exact (cell_of_heap hG5.box 3).trans rfl, by have : (Utf8.encode r).size ≤ 4 := hez; omega, g.last - 1, by omega, by dsimp only; show g.last - 1 < (layL _ _ _ _).length; rw [hl5]; exact hi, ?_⟩
      refine gl_wr1 (k := 0) (j := g.last - 1) (v := .string (txC (ceG g.cs (g.last - 1)) ++ Utf8.encode r)) (x := { ceG (layL g.cs g.w g.last (hlfC (ceG g.cs (g.last - 1)).st)) (g.last - 1) with t := txC (ceG g.cs (g.last - 1)) ++ enc1 r }) hG5 (by dsimp only; show g.last - 1 < (layL _ _ _ _).length; rw [hl5]; exact hi) (by decide) rfl (fun b5 o5 h51 h52 h53 => ⟨rfl, h51, h52, fun w6 hs6 => ⟨(A4, true), rfl, rfl, ?_⟩⟩)
      exact hO3.trans (hO4.trans (hO5.trans (h53 w6 hs6)))
  · have h1 : ¬ k < n := by have := of_decide_eq_false h1; omega
    have h2 : ¬ n < k := by have := of_decide_eq_false h2; omega
    rw [if_neg h1, if_neg h2]
    refine ⟨_, _, _, (cell_of_heap hG3.box 3).trans rfl, by have : (Utf8.encode r).size ≤ 4 := hez; omega, g.last - 1, by omega, hi, ?_⟩
    exact gl_wr1 (k := 0) (j := g.last - 1) (v := .string (txC (ceG g.cs (g.last - 1)) ++ Utf8.encode r)) (x := { ceG g.cs (g.last - 1) with t := txC (ceG g.cs (g.last - 1)) ++ enc1 r }) hG3 hi (by decide) rfl (fun b5 o5 h51 h52 h53 => ⟨rfl, h51, h52, fun w6 hs6 => ⟨(A, true), rfl, rfl, hO3.trans (h53 w6 hs6)⟩⟩)
end Go.Proofs.YtjdohhididpomaaDoor
end

section
namespace Go.Proofs.YtjdohhididpomaaDoor
open Go Go.RowKit Vc Ut Tb Cl
theorem text_size (s : ByteArray) (col : Int) (l : Lk) : (textC s col l).1.size ≤ s.size + 16 := by
  unfold textC
  split
  · exact Nat.zero_le _
  · have h1 := (one_w (pcP s 0).2 col l).2
    have h2 : (pcP s 0).2.size ≤ s.size := by
      show (s.extract _ _).size ≤ s.size
      rw [ByteArray.size_extract]
      omega
    omega
theorem ok_layS {g : Gs} {m i : Nat} {c : Ce} (h : okG g m) (h0 : g.last = 0) (hi : i < g.cs.length) (hc : oneAt c g.wd) (hk : okCe c) : okG (layS g i c) m :=
  ⟨h.w, h.h, by show (layL _ _ _ _).length = _; rw [lay_len]; exact h.len, okL_lay h.ok hi hc, h.x, h.y, h.sty, st_lay h.st hk, h.num, h.numl, h.stt, fun _ => h0, fun e => absurd h0 e⟩
theorem lay_one (g : Gs) (s : ByteArray) : layG g s 1 = { g with cs := layL g.cs g.w (g.y * g.w + g.x) ⟨s, 0, 0, 0, false, g.sty⟩, x := g.x + 1, last := g.y * g.w + g.x + 1 } := rfl
theorem lay_two (g : Gs) (s : ByteArray) : layG g s 2 = { g with
    cs := (layL (layL g.cs g.w (g.y * g.w + g.x + 1) (blkC g.sty)) g.w (g.y * g.w + g.x) ⟨s, 0, 0, 0, false, g.sty⟩).set (g.y * g.w + g.x + 1) { ceG (layL (layL g.cs g.w (g.y * g.w + g.x + 1) (blkC g.sty)) g.w (g.y * g.w + g.x) ⟨s, 0, 0, 0, false, g.sty⟩) (g.y * g.w + g.x + 1) with p := 1 }, x := g.x + 2, last := g.y * g.w + g.x + 1 } := rfl
theorem fit_layS {g : Gs} {i : Nat} {c : Ce} (h : fitG g) (hc : c.st < 65536) : fitG (layS g i c) := by
  have hl : (layL g.cs g.w i c).length = g.cs.length := lay_len _ _ _ _
  refine ⟨h.w, h.h, hl.trans h.len, h.x, h.y, h.sty, ?_, h.num, h.numl, by show g.last ≤ (layL _ _ _ _).length; rw [hl]; exact h.last⟩
  have hb : ∀ j, (blkC (ceG g.cs j).st).st < 65536 := fun j => by
    show (ceG g.cs j).st < 65536
    by_cases hj : j < g.cs.length
    · exact h.st _ (ceG_mem hj)
    · rw [ceG_out (by omega)]; decide
  have hs : ∀ {l : List Ce} {j : Nat} {d : Ce}, (∀ c ∈ l, c.st < 65536) → d.st < 65536 → ∀ c ∈ l.set j d, c.st < 65536 := fun h1 h2 c hc => (List.mem_or_eq_of_mem_set hc).elim (h1 c) (fun e => by rw [e]; exact h2)
  show ∀ d ∈ layL g.cs g.w i c, d.st < 65536
  unfold layL
  split
  · exact hs (hs h.st (hb _)) hc
  split
  · exact hs (hs h.st (hb _)) hc
  · exact hs h.st hc
set_option maxRecDepth 2000 in
theorem putG_ok : sPutG.Ok Tryd.prog 39 := by
  refine putG_vc ⟨joinG_ok, textp_ok, plainW_ok, downG_ok, layG_ok, trivial⟩ ?_
  rintro ⟨A, g, r, m⟩ w ⟨⟨hG, hk, hm⟩, hst⟩
  dsimp only at hG hk hm hst ⊢
  have hF := hk.fit hm
  have hw := hF.w; have hh := hF.h; have hlen := hF.len
  have hez : (Utf8.encode r).size ≤ 4 := enc1_len r
  refine ⟨⟨A, g, r, m⟩, rfl, ⟨hG, hk, hm⟩, ?_⟩
  rintro ⟨A1, b⟩ w1 ⟨hb, hO1⟩
  dsimp only at hb hO1 ⊢
  refine bcase_mk (fun h => ⟨A1, rfl, ?_⟩) (fun h => ?_)
  · obtain ⟨g', hj⟩ := Option.isSome_iff_exists.1 (hb.symm.trans h)
    have e : putG g r = g' := by unfold putG; rw [hj]
    rw [e]; rw [hj] at hO1; exact hO1
  have hj : joinG g r = none := by
    cases hj : joinG g r with
    | none => rfl
    | some g' => rw [hj, h] at hb; cases hb
  rw [hj] at hO1
  replace hO1 : GlOut w w1 A A1 g := hO1
  have hp1 : A1.p = A.p := hO1.p
  have hG1 := hO1.is
  have hput : putG g r = if plN (txG g r) g.wd = 0 ∨ g.w < plN (txG g r) g.wd ∨ g.h = 0 then { g with last := 0 } else layG (wrapG g (plN (txG g r) g.wd)) (txG g r) (plN (txG g r) g.wd) := by
    unfold putG; rw [hj]; rfl
  refine ⟨rfl, by rw [← hp1]; exact hG1.old (k := 8) (by decide), by rw [← hp1]; exact hG1.free 8, fun w2 hs2 => ?_⟩
  rw [← hp1] at hs2
  have hO2 := hO1.trans (gl_put (g' := { g with last := 0 }) hG1 hs2 rfl rfl rfl)
  have hG2 := hO2.is
  refine ⟨g.wd, by rw [← hp1]; exact (cell_of_heap hG2.box 2).trans rfl, ⟨Utf8.encode r, 0, lkW g.wd⟩, rfl, ⟨hG2.ud.1, hG2.ud.2, by dsimp only; omega⟩, ?_⟩
  rintro ⟨s, k⟩ w3 ⟨hsk, hx3⟩
  have hs : s = txG g r := congrArg Prod.fst hsk
  clear hsk
  subst hs
  have hsz : (txG g r).size ≤ 20 := by
    have := text_size (enc1 r) 0 (lkW g.wd)
    have h4 := enc1_len r
    show (textC (enc1 r) 0 (lkW g.wd)).1.size ≤ 20
    omega
  have hG3 := hG2.ext hx3
  refine ⟨g.wd, by rw [← hp1]; exact (cell_of_heap hG3.box 2).trans rfl, (txG g r, g.wd), rfl, ⟨hG3.ud, Nat.le_trans hsz (by decide)⟩, ?_⟩
  rintro n w4 ⟨hn, hx4⟩
  dsimp only at hn
  rw [← hn] at hput
  have hx24 := Ext.trans hx3 hx4
  have hG4 := hG2.ext hx24
  have hO4 := hO2.trans (GlOut.ext hG2 hx24)
  have hn2 : n ≤ 2 := by rw [hn]; exact pl_le2 _ _
  refine bcase_mk (fun h1 => ⟨A1, rfl, ?_⟩) (fun h1 => ⟨g.w, by rw [← hp1]; exact (cell_of_heap hG4.box 0).trans rfl, bcase_mk (fun h2 => ⟨A1, rfl, ?_⟩) (fun h2 => ⟨g.h, by rw [← hp1]; exact (cell_of_heap hG4.box 1).trans rfl, bcase_mk (fun h3 => ⟨A1, rfl, ?_⟩) (fun h3 => ?_)⟩)⟩)
  · have h1 : n = 0 := by have := beq_iff_eq.1 h1; omega
    rw [hput, if_pos (.inl h1)]; exact hO4
  · have h2 : g.w < n := by have := of_decide_eq_true h2; omega
    rw [hput, if_pos (.inr (.inl h2))]; exact hO4
  · have h3 : g.h = 0 := by have := beq_iff_eq.1 h3; omega
    rw [hput, if_pos (.inr (.inr h3))]; exact hO4
  have h1 : n ≠ 0 := by have := beq_eq_false_iff_ne.1 h1; omega
  have h2 : ¬ g.w < n := by have := of_decide_eq_false h2; omega
  have h3 : g.h ≠ 0 := by have := beq_eq_false_iff_ne.1 h3; omega
  have hhas : ¬ (n = 0 ∨ g.w < n ∨ g.h = 0) := by omega
  rw [if_neg hhas] at hput
  have hx := hk.x
  refine ⟨fun w5 hd => ⟨g.x, by rw [← hp1]; exact (cell_of_heap hG4.box 4).trans rfl, inr_i64 (by omega) (by omega), g.w, by rw [← hp1]; exact (cell_of_heap hG4.box 0).trans rfl, bcase_mk (fun h4 => ?_) (fun h4 => ?_)⟩, ?_⟩
  · have h4 : g.w < g.x + n := by have := of_decide_eq_true h4; omega
    have hG5 := hG4.ext hd.ext
    have hO5 := hO4.trans (GlOut.ext hG4 hd.ext)
    refine ⟨rfl, by rw [← hp1]; exact hG5.old (k := 4) (by decide), by rw [← hp1]; exact hG5.free 4, fun w6 hs6 => ?_⟩
    rw [← hp1] at hs6
    have hO6 := hO5.trans (gl_put (g' := { g with last := 0, x := 0 }) hG5 hs6 rfl rfl rfl)
    refine ⟨⟨A1, { g with last := 0, x := 0 }⟩, by rw [← hp1], ⟨hO6.is, (ok_x0 hk).fit hm⟩, fun A7 w7 hO7 => ⟨A7, ⟨?_, rfl, by rw [hn], by rw [← hn]; exact hput, by rw [← hn]; exact hhas⟩⟩⟩
    dsimp only at hO7
    rw [← hn]
    have e : wrapG g n = downG { g with last := 0, x := 0 } := by unfold wrapG; rw [if_pos h4]
    rw [e]
    exact hO6.trans hO7
  · have h4 : ¬ g.w < g.x + n := by have := of_decide_eq_false h4; omega
    refine ⟨A1, ⟨?_, rfl, by rw [hn], by rw [← hn]; exact hput, by rw [← hn]; exact hhas⟩⟩
    rw [← hn]
    have e : wrapG g n = { g with last := 0 } := by unfold wrapG; rw [if_neg h4]
    rw [e]
    exact hO4.trans (GlOut.ext hG4 hd.ext)
  rintro _ A5 w5 ⟨hO5, -, -, -, -⟩ w6 hd6
  dsimp only at hO5
  rw [← hn] at hO5
  rw [hput]
  have hwf := wrap_f g n
  have hkW : okG (wrapG g n) m := ok_wrap hk
  have hlW : (wrapG g n).last = 0 := by unfold wrapG; split; exact down_last _; rfl
  generalize wrapG g n = gW at hO5 hwf hkW hlW ⊢
  obtain ⟨e1, e2, e3, e4, e5⟩ := hwf
  have hFW := hkW.fit hm
  have hG5 := hO5.is
  have hp5 : A5.p = A.p := hO5.p
  have hG6 := hG5.ext hd6.ext
  have hO6 := hO5.trans (GlOut.ext hG5 hd6.ext)
  have hy : gW.y < gW.h := by rcases hkW.y with e | e <;> omega
  have hxn := e5 (by omega)
  have hW1 := hkW.w; have hW2 := hkW.h
  have hyw : gW.y * gW.w + gW.w ≤ gW.cs.length := by
    rw [hkW.len]
    have : (gW.y + 1) * gW.w ≤ gW.h * gW.w := Nat.mul_le_mul_right _ hy
    rw [Nat.add_mul, Nat.one_mul, Nat.mul_comm gW.h] at this
    exact this
  have hlen5 : gW.cs.length ≤ 1048576 := by rw [hkW.len]; exact Nat.le_trans (Nat.mul_le_mul hW1 hW2) (by decide)
  have hcast : (gW.y : Int) * (gW.w : Int) = ((gW.y * gW.w : Nat) : Int) := by rw [Int.natCast_mul]
  rw [hp5.symm]
  refine ⟨gW.y, (cell_of_heap hG5.box 5).trans rfl, gW.w, (cell_of_heap hG5.box 0).trans rfl, by rw [hcast]; exact inr_i64 (by omega) (by omega), gW.x, (cell_of_heap hG5.box 4).trans rfl, by rw [hcast]; exact inr_i64 (by omega) (by omega), ?_⟩
  rw [hcast]
  have hpls : plN (txG g r) gW.wd = n := by rw [e3]; exact hn.symm
  have htx : txC ⟨txG g r, 0, 0, 0, false, gW.sty⟩ = txG g r := tx_pl (wd := gW.wd) rfl (by show plN (txG g r) gW.wd ≠ 0; omega)
  rcases (show n = 1 ∨ n = 2 by omega) with e | e
  · subst e
    refine bcase_mk (fun h => by cases h) (fun _ => ?_)
    have hi : gW.y * gW.w + gW.x < gW.cs.length := by omega
    refine ⟨gW.sty, (cell_of_heap hG6.box 7).trans rfl, ⟨A5, gW, gW.y * gW.w + gW.x, ⟨txG g r, 0, 0, 0, false, gW.sty⟩⟩, by simp, ⟨hG6, hFW, hkW.lay hi⟩, ?_⟩
    intro A7 w7 hO7
    dsimp only at hO7
    have hp7 : A7.p = A5.p := hO7.p
    have hG7 := hO7.is
    refine bcase_mk (fun h => by cases h) (fun _ => ?_)
    rw [hp7.symm]
    refine ⟨gW.x, (cell_of_heap hG7.box 4).trans rfl, inr_i64 (by omega) (by omega), rfl, hG7.old (k := 4) (by decide), hG7.free 4, fun w8 hs8 => ?_⟩
    have hO8 := gl_put (g' := { layS gW (gW.y * gW.w + gW.x) ⟨txG g r, 0, 0, 0, false, gW.sty⟩ with x := gW.x + 1 }) hG7 hs8 rfl rfl rfl
    have hG8 := hO8.is
    refine ⟨inr_i64 (by omega) (by omega), rfl, hG8.old (k := 8) (by decide), hG8.free 8, fun w9 hs9 => ⟨A7, rfl, ?_⟩⟩
    rw [lay_one]
    exact hO6.trans (hO7.trans (hO8.trans (gl_put hG8 hs9 rfl rfl rfl)))
  · subst e
    refine bcase_mk (fun _ => ?_) (fun h => by cases h)
    have hi1 : gW.y * gW.w + gW.x + 1 < gW.cs.length := by omega
    refine ⟨inr_i64 (by omega) (by omega), gW.sty, (cell_of_heap hG6.box 7).trans rfl, ⟨A5, gW, gW.y * gW.w + gW.x + 1, blkC gW.sty⟩, by simp [blkC], ⟨hG6, hFW, hkW.lay hi1⟩, ?_⟩
    intro A7 w7 hO7
    dsimp only at hO7
    have hp7 : A7.p = A5.p := hO7.p
    have hG7 := hO7.is
    rw [hp7.symm]
    have hk7 := ok_layS (c := blkC gW.sty) hkW hlW hi1 (one_blk _ _) (okCe_blk hkW.sty)
    have hi7 : gW.y * gW.w + gW.x < (layS gW (gW.y * gW.w + gW.x + 1) (blkC gW.sty)).cs.length := by
      show _ < (layL _ _ _ _).length; rw [lay_len]; omega
    refine ⟨gW.sty, (cell_of_heap hG7.box 7).trans rfl, ⟨A7, layS gW (gW.y * gW.w + gW.x + 1) (blkC gW.sty), gW.y * gW.w + gW.x, ⟨txG g r, 0, 0, 0, false, gW.sty⟩⟩, by simp, ⟨hG7, hk7.fit hm, hk7.lay hi7⟩, ?_⟩
    intro A8 w8 hO8
    dsimp only at hO8
    have hp8 : A8.p = A7.p := hO8.p
    have hG8 := hO8.is
    rw [hp8.symm]
    refine bcase_mk (fun _ => ?_) (fun h => by cases h)
    have hi8 : gW.y * gW.w + gW.x + 1 < (layS (layS gW (gW.y * gW.w + gW.x + 1) (blkC gW.sty)) (gW.y * gW.w + gW.x) ⟨txG g r, 0, 0, 0, false, gW.sty⟩).cs.length := by
      show _ < (layL (layL _ _ _ _) _ _ _).length; rw [lay_len, lay_len]; omega
    refine ⟨_, _, _, (cell_of_heap hG8.box 3).trans rfl, inr_i64 (by omega) (by omega), gW.y * gW.w + gW.x + 1, by simp, hi8, ?_⟩
    refine gl_wr1 (k := 1) (v := .int .i8 1) (x := { ceG (layL (layL gW.cs gW.w (gW.y * gW.w + gW.x + 1) (blkC gW.sty)) gW.w (gW.y * gW.w + gW.x) ⟨txG g r, 0, 0, 0, false, gW.sty⟩) (gW.y * gW.w + gW.x + 1) with p := 1 }) hG8 hi8 (by decide) rfl (fun b9 o9 h91 h92 h93 => ⟨rfl, h91, h92, fun w9 hs9 => ?_⟩)
    have hO9 := h93 w9 hs9
    have hG9 := hO9.is
    refine ⟨gW.x, (cell_of_heap hG9.box 4).trans rfl, inr_i64 (by omega) (by omega), rfl, hG9.old (k := 4) (by decide), hG9.free 4, fun w10 hs10 => ?_⟩
    have hO10 := gl_put (g' := { layS (layS gW (gW.y * gW.w + gW.x + 1) (blkC gW.sty)) (gW.y * gW.w + gW.x) ⟨txG g r, 0, 0, 0, false, gW.sty⟩ with
      cs := (layL (layL gW.cs gW.w (gW.y * gW.w + gW.x + 1) (blkC gW.sty)) gW.w (gW.y * gW.w + gW.x) ⟨txG g r, 0, 0, 0, false, gW.sty⟩).set (gW.y * gW.w + gW.x + 1) { ceG (layL (layL gW.cs gW.w (gW.y * gW.w + gW.x + 1) (blkC gW.sty)) gW.w (gW.y * gW.w + gW.x) ⟨txG g r, 0, 0, 0, false, gW.sty⟩) (gW.y * gW.w + gW.x + 1) with p := 1 }, x := gW.x + 2 }) hG9 hs10 rfl rfl rfl
    have hG10 := hO10.is
    refine ⟨inr_i64 (by omega) (by omega), rfl, hG10.old (k := 8) (by decide), hG10.free 8, fun w11 hs11 => ⟨A8, rfl, ?_⟩⟩
    rw [lay_two]
    exact hO6.trans (hO7.trans (hO8.trans (hO9.trans (hO10.trans (gl_put hG10 hs11 rfl rfl rfl)))))
end Go.Proofs.YtjdohhididpomaaDoor
end

section
namespace Go.Proofs.YtjdohhididpomaaDoor
open Go Go.RowKit Vc Ut Tb Cl
theorem free_tail {w w' : World} {A A1 : GlP} {g1 T : Gs} {r : Int} {m : Nat} (hO : GlOut w w' A A1 g1) (hk : okG g1 m) (hm : m ≤ 549755813888) (hs : g1.stt = 0) (hT : T = freeG g1 r) :
    ∃ g1 : Int, #[Value.int .i32 r] = #[Value.int .i32 g1] ∧ True ∧ ∀ (x : Int) (w'1 : World), x = kindR g1 ∧ Ext w' w'1 →
      bcase (x != 0)
        (∃ g2 : GTak, #[Value.pointer (some ⟨A.p, 0, none⟩), Value.int .i32 r] = #[Value.pointer (some ⟨g2.A.p, 0, none⟩), Value.int .i32 g2.r] ∧ (tkIn w'1 g2.A g2.g g2.m ∧ g2.g.stt = 0) ∧
          ∀ (x1 : GlP) (w'2 : World), GlOut w'1 w'2 g2.A x1 (putG g2.g g2.r) → ∃ x2 : GlP, Value.tuple #[] = Value.tuple #[] ∧ GlOut w w'2 A x2 T)
        (true = true ∧ (∃ old, w'1.cell? ⟨A.p, 8, none⟩ = some old) ∧ w'1.frozen? ⟨A.p, 8, none⟩ = false ∧ ∀ w1, Stored w'1 ⟨A.p, 8, none⟩ (.int .i64 0) w1 →
          bcase (r == 27)
            (true = true ∧ (∃ old, w1.cell? ⟨A.p, 10, none⟩ = some old) ∧ w1.frozen? ⟨A.p, 10, none⟩ = false ∧ ∀ w11, Stored w1 ⟨A.p, 10, none⟩ (.int .i64 1) w11 → ∃ x1 : GlP, Value.tuple #[] = Value.tuple #[] ∧ GlOut w w11 A x1 T)
            (bcase (r == 13)
              (true = true ∧ (∃ old, w1.cell? ⟨A.p, 4, none⟩ = some old) ∧ w1.frozen? ⟨A.p, 4, none⟩ = false ∧ ∀ w11, Stored w1 ⟨A.p, 4, none⟩ (.int .i64 0) w11 → ∃ x1 : GlP, Value.tuple #[] = Value.tuple #[] ∧ GlOut w w11 A x1 T)
              (bcase (r == 10)
                (∃ g2 : GGl, #[Value.pointer (some ⟨A.p, 0, none⟩)] = #[Value.pointer (some ⟨g2.A.p, 0, none⟩)] ∧ (GlIn w1 g2.A g2.g ∧ fitG g2.g) ∧ ∀ (x1 : GlP) (w'2 : World), GlOut w1 w'2 g2.A x1 (backG g2.g) →
                  ∃ g3 : GGl, #[Value.pointer (some ⟨A.p, 0, none⟩)] = #[Value.pointer (some ⟨g3.A.p, 0, none⟩)] ∧ (GlIn w'2 g3.A g3.g ∧ fitG g3.g) ∧ ∀ (x2 : GlP) (w'3 : World), GlOut w'2 w'3 g3.A x2 (downG g3.g) → ∃ x3 : GlP, Value.tuple #[] = Value.tuple #[] ∧ GlOut w w'3 A x3 T)
                (∃ x1 : GlP, Value.tuple #[] = Value.tuple #[] ∧ GlOut w w1 A x1 T)))) := by
  subst hT
  refine ⟨r, rfl, trivial, ?_⟩
  rintro _ w2 ⟨rfl, hx⟩
  have hG := hO.is
  have hG2 := hG.ext hx
  have hO2 := hO.trans (GlOut.ext hG hx)
  have hp : A1.p = A.p := hO.p
  rw [hp.symm]
  unfold freeG
  refine bcase_mk (fun h => ?_) (fun h => ?_)
  · have h := bne_iff_ne.1 h
    rw [if_pos h]
    exact ⟨⟨A1, g1, r, m⟩, rfl, ⟨⟨hG2, hk, hm⟩, hs⟩, fun A3 w3 hO3 => ⟨A3, rfl, hO2.trans hO3⟩⟩
  have h := bne_eq_false_iff_eq.1 h
  rw [if_neg (fun hh => hh h)]
  refine ⟨rfl, hG2.old (k := 8) (by decide), hG2.free 8, fun w3 hs3 => ?_⟩
  have hO3 := hO2.trans (gl_put (g' := { g1 with last := 0 }) hG2 hs3 rfl rfl rfl)
  have hG3 := hO3.is
  have hk3 := ok_last0 hk
  refine bcase_mk (fun h1 => ⟨rfl, hG3.old (k := 10) (by decide), hG3.free 10, fun w4 hs4 => ⟨A1, rfl, ?_⟩⟩) (fun h1 => bcase_mk (fun h2 => ⟨rfl, hG3.old (k := 4) (by decide), hG3.free 4, fun w4 hs4 => ⟨A1, rfl, ?_⟩⟩) (fun h2 => bcase_mk (fun h3 => ?_) (fun h3 => ⟨A1, rfl, ?_⟩)))
  · rw [if_pos (beq_iff_eq.1 h1)]
    exact hO3.trans (gl_put hG3 hs4 rfl rfl rfl)
  · rw [if_neg (beq_eq_false_iff_ne.1 h1), if_pos (beq_iff_eq.1 h2)]
    exact hO3.trans (gl_put hG3 hs4 rfl rfl rfl)
  · rw [if_neg (beq_eq_false_iff_ne.1 h1), if_neg (beq_eq_false_iff_ne.1 h2), if_pos (beq_iff_eq.1 h3)]
    refine ⟨⟨A1, { g1 with last := 0 }⟩, rfl, ⟨hG3, hk3.fit hm⟩, fun A4 w4 hO4 => ?_⟩
    have hk4 := ok_back hk3 rfl
    have hp4 : A4.p = A1.p := hO4.p
    exact ⟨⟨A4, backG { g1 with last := 0 }⟩, by rw [hp4], ⟨hO4.is, hk4.fit hm⟩, fun A5 w5 hO5 => ⟨A5, rfl, hO3.trans (hO4.trans hO5)⟩⟩
  · rw [if_neg (beq_eq_false_iff_ne.1 h1), if_neg (beq_eq_false_iff_ne.1 h2), if_neg (beq_eq_false_iff_ne.1 h3)]
    exact hO3
theorem row_nil {w : World} {A : GlP} {g : Gs} (h : GlIn w A g) : A.na.isNone = decide (g.num = []) := by
  by_cases hn : g.num = []
  · rw [h.nil hn, decide_eq_true hn]; rfl
  · rw [decide_eq_false hn]
    cases ha : A.na with
    | some a => rfl
    | none =>
      exfalso
      have := h.num.le.2
      rcases h.num.2 with ⟨h1, h2⟩ | ⟨q, cur, h1, -⟩
      · exact hn (List.eq_nil_of_length_eq_zero (by omega))
      · rw [ha] at h1; cases h1
theorem gl_nil {w w3 : World} {A : GlP} {g : Gs} (h : GlIn w A g) (hs : Stored w ⟨A.p, 11, none⟩ (.slice none 0 0) w3) : GlOut w w3 A { A with na := none, nc := 0 } { g with num := [] } := by
  have hz3 := hs.size
  have hfo : Fr (own A) w w3 := (Fr.stored hs).mono (fun x _ hx => .inl hx)
  have hown : ∀ q, own { A with na := none, nc := 0 } q → own A q := by
    rintro q (hq | hq | hq)
    · exact .inl hq
    · exact .inr (.inl hq)
    · cases hq
  refine ⟨⟨hs.heap h.box, ?_, Row.nil _ _ _, fun _ => rfl, fun q hq => h.bq q (hown q hq), by dsimp only; have := h.bw; omega, h.u.on (h.below hfo)⟩, rfl, rfl, rfl, hfo, fun q hq => ⟨?_, .inl (hown q hq)⟩⟩
  · exact h.row.keep fun q hq => hs.other (by show q ≠ A.p; rintro rfl; exact h.cp hq)
  · rw [hz3]; exact h.lt q (hown q hq)
set_option maxRecDepth 2000 in
theorem takeG_ok : sTakeG.Ok Tryd.prog 28 := by
  refine takeG_vc ⟨holdG_ok, doesG_ok, ckind_ok, putG_ok, backG_ok, downG_ok, trivial⟩ ?_
  rintro ⟨A, g, r, m⟩ w ⟨hG, hk, hm⟩
  dsimp only at hG hk hm ⊢
  have hF := hk.fit hm
  have hst := hk.stt
  refine ⟨⟨g.stt, (cell_of_heap hG.box 10).trans rfl, bcase_mk (fun h1 => ?_) (fun h1 => bcase_mk (fun h2 => ?_) (fun h2 => ?_))⟩, fun _ A1 W ⟨hO, hT, hk1⟩ => ?_, trivial⟩
  · have h1 : g.stt = 1 := by have := beq_iff_eq.1 h1; omega
    have e : takeG g r = if r = 91 then { g with stt := 2, num := [], asked := false, void := false } else { g with stt := 0 } := by unfold takeG; rw [if_pos h1]
    rw [e]
    refine ⟨rfl, hG.old (k := 10) (by decide), hG.free 10, fun w1 hs1 => ?_⟩
    have hO1 := gl_put (g' := { g with stt := 0 }) hG hs1 rfl rfl rfl
    have hG1 := hO1.is
    refine bcase_mk (fun h2 => ?_) (fun h2 => ⟨A, rfl, ?_⟩)
    · rw [if_pos (beq_iff_eq.1 h2)]
      refine ⟨rfl, hG1.old (k := 10) (by decide), hG1.free 10, fun w2 hs2 => ?_⟩
      have hO2 := hO1.trans (gl_put (g' := { g with stt := 2 }) hG1 hs2 rfl rfl rfl)
      have hG2 := hO2.is
      refine ⟨rfl, hG2.old (k := 11) (by decide), hG2.free 11, fun w3 hs3 => ?_⟩
      have hO3 := hO2.trans (gl_nil hG2 hs3)
      have hG3 := hO3.is
      refine ⟨rfl, hG3.old (k := 12) (by decide), hG3.free 12, fun w4 hs4 => ?_⟩
      have hO4 := hO3.trans (gl_put (g' := { g with stt := 2, num := [], asked := false }) hG3 hs4 rfl rfl rfl)
      have hG4 := hO4.is
      refine ⟨rfl, hG4.old (k := 13) (by decide), hG4.free 13, fun w5 hs5 => ⟨_, rfl, hO4.trans (gl_put hG4 hs5 rfl rfl rfl)⟩⟩
    · rw [if_neg (beq_eq_false_iff_ne.1 h2)]
      exact hO1
  · have h2 : g.stt = 2 := by have := beq_iff_eq.1 h2; omega
    have hl := hk.sl (by omega)
    have e : takeG g r = if 32 ≤ r ∧ r ≤ 63 then holdG (heldG g) r (decide (g.num = [])) else if 64 ≤ r ∧ r ≤ 126 then doesG { heldG g with stt := 0 } r else freeG { heldG g with stt := 0 } r := by
      unfold takeG; rw [if_neg (by omega), if_pos h2]; rfl
    rw [e]
    have hkh := ok_heldG hk
    have hhf := held_f g
    have hk0 : okG (sttG (heldG g) 0) m := ok_stt hkh (hhf.2.1.trans hl) (by decide)
    have tail : ∀ {W : World} {A1 : GlP}, GlOut w W A A1 (heldG g) → 
        bcase (decide (r ≥ 32) && decide (r ≤ 63))
          (∃ g1 : GHo, #[Value.pointer (some ⟨A.p, 11, none⟩), Value.int .i32 r, Value.bool A.na.isNone] = #[Value.pointer (some ⟨g1.A.p, 11, none⟩), Value.int .i32 g1.r, Value.bool g1.f] ∧ (GlIn W g1.A g1.g ∧ fitG g1.g ∧ g1.g.num ≠ []) ∧
            ∀ (x : GlP) (w' : World), GlOut W w' g1.A x (holdG g1.g g1.r g1.f) → ∃ x1 : GlP, Value.tuple #[] = Value.tuple #[] ∧ GlOut w w' A x1 (if 32 ≤ r ∧ r ≤ 63 then holdG (heldG g) r (decide (g.num = [])) else if 64 ≤ r ∧ r ≤ 126 then doesG { heldG g with stt := 0 } r else freeG { heldG g with stt := 0 } r))
          (bcase (decide (r ≥ 64) && decide (r ≤ 126))
            (true = true ∧ (∃ old, W.cell? ⟨A.p, 10, none⟩ = some old) ∧ W.frozen? ⟨A.p, 10, none⟩ = false ∧ ∀ w12, Stored W ⟨A.p, 10, none⟩ (.int .i64 0) w12 →
              ∃ g1 : GDs, #[Value.pointer (some ⟨A.p, 0, none⟩), Value.int .i32 r] = #[Value.pointer (some ⟨g1.A.p, 0, none⟩), Value.int .i32 g1.r] ∧ (GlIn w12 g1.A g1.g ∧ fitG g1.g) ∧
                ∀ (x : GlP) (w' : World), GlOut w12 w' g1.A x (doesG g1.g g1.r) → ∃ x1 : GlP, Value.tuple #[] = Value.tuple #[] ∧ GlOut w w' A x1 (if 32 ≤ r ∧ r ≤ 63 then holdG (heldG g) r (decide (g.num = [])) else if 64 ≤ r ∧ r ≤ 126 then doesG { heldG g with stt := 0 } r else freeG { heldG g with stt := 0 } r))
            (true = true ∧ (∃ old, W.cell? ⟨A.p, 10, none⟩ = some old) ∧ W.frozen? ⟨A.p, 10, none⟩ = false ∧ ∀ w12, Stored W ⟨A.p, 10, none⟩ (.int .i64 0) w12 →
              ∃ y : GlP, GlOut w w12 A y (sttG (heldG g) 0) ∧ (if 32 ≤ r ∧ r ≤ 63 then holdG (heldG g) r (decide (g.num = [])) else if 64 ≤ r ∧ r ≤ 126 then doesG { heldG g with stt := 0 } r else freeG { heldG g with stt := 0 } r) = freeG (sttG (heldG g) 0) r ∧ okG (sttG (heldG g) 0) m)) := by
      intro W A1 hO1
      have hp1 : A1.p = A.p := hO1.p
      have hG1 := hO1.is
      rw [row_nil hG, hp1.symm]
      refine bcase_mk (fun h3 => ?_) (fun h3 => bcase_mk (fun h4 => ?_) (fun h4 => ?_))
      · have h3 : 32 ≤ r ∧ r ≤ 63 := by rw [Bool.and_eq_true] at h3; exact ⟨of_decide_eq_true h3.1, of_decide_eq_true h3.2⟩
        exact ⟨⟨A1, heldG g, r, decide (g.num = [])⟩, rfl, ⟨hG1, hkh.fit hm, hhf.2.2.1⟩, fun A2 w2 hO2 => ⟨A2, rfl, by rw [if_pos h3]; exact hO1.trans hO2⟩⟩
      · have h3 : ¬ (32 ≤ r ∧ r ≤ 63) := fun hh => by rw [decide_eq_true (show r ≥ 32 from hh.1), decide_eq_true hh.2] at h3; cases h3
        have h4 : 64 ≤ r ∧ r ≤ 126 := by rw [Bool.and_eq_true] at h4; exact ⟨of_decide_eq_true h4.1, of_decide_eq_true h4.2⟩
        refine ⟨rfl, hG1.old (k := 10) (by decide), hG1.free 10, fun w2 hs2 => ?_⟩
        have hO2 := gl_put (g' := sttG (heldG g) 0) hG1 hs2 rfl rfl rfl
        exact ⟨⟨A1, sttG (heldG g) 0, r⟩, rfl, ⟨hO2.is, hk0.fit hm⟩, fun A3 w3 hO3 => ⟨A3, rfl, by rw [if_neg h3, if_pos h4]; exact hO1.trans (hO2.trans hO3)⟩⟩
      · have h3 : ¬ (32 ≤ r ∧ r ≤ 63) := fun hh => by rw [decide_eq_true (show r ≥ 32 from hh.1), decide_eq_true hh.2] at h3; cases h3
        have h4 : ¬ (64 ≤ r ∧ r ≤ 126) := fun hh => by rw [decide_eq_true (show r ≥ 64 from hh.1), decide_eq_true hh.2] at h4; cases h4
        refine ⟨rfl, hG1.old (k := 10) (by decide), hG1.free 10, fun w2 hs2 => ?_⟩
        have hO2 := gl_put (g' := sttG (heldG g) 0) hG1 hs2 rfl rfl rfl
        exact ⟨A1, hO1.trans hO2, by rw [if_neg h3, if_neg h4]; rfl, hk0⟩
    refine ⟨A.na, g.num.length, A.nc, (cell_of_heap hG.box 11).trans rfl, bcase_mk (fun h3 => ?_) (fun h3 => ?_)⟩
    · have hn : g.num = [] := by rw [row_nil hG] at h3; exact of_decide_eq_true h3
      intro b w1 hn1
      have hG1 := hG.ext hn1.ext
      have z1 := hn1.size
      refine ⟨rfl, hG1.old (k := 11) (by decide), hG1.free 11, fun w2 hs2 => ?_⟩
      have hr : Row w1 3 1 (some ⟨b, 0, none⟩) 1 (([-1] : List Int).map (Value.int .i64)) 1 := ⟨rfl, .inr ⟨b, _, rfl, hn1.heap, Nat.le_refl _, by decide, rfl, rfl⟩⟩
      have hO2 := gl_more (l := [-1]) hG rfl (by simp) hr (Fr.of_ext hn1.ext) (fun q hq => by have : b = q := Option.some.inj hq; exact .inr (by omega)) hs2
      have eh : heldG g = { g with num := [-1] } := by unfold heldG; rw [if_pos hn]
      rw [eh.symm] at hO2
      exact tail hO2
    · have hn : g.num ≠ [] := by rw [row_nil hG] at h3; exact of_decide_eq_false h3
      have eh : heldG g = g := by unfold heldG; rw [if_neg hn]
      exact tail (by rw [eh]; exact GlOut.refl hG)
  · have h1 : g.stt ≠ 1 := by have := beq_eq_false_iff_ne.1 h1; omega
    have h2 : g.stt ≠ 2 := by have := beq_eq_false_iff_ne.1 h2; omega
    have e : takeG g r = freeG g r := by unfold takeG; rw [if_neg h1, if_neg h2]
    exact free_tail (GlOut.refl hG) hk hm (by omega) e
  · have hp1 : A1.p = A.p := hO.p
    have hG1 := hO.is
    refine ⟨0, by rw [hp1.symm]; exact (cell_of_heap hG1.box 10).trans rfl, bcase_mk (fun h => by cases h) (fun _ => bcase_mk (fun h => by cases h) (fun _ => ?_))⟩
    exact free_tail hO hk1 hm rfl hT
end Go.Proofs.YtjdohhididpomaaDoor
end

section
namespace Go.Proofs.YtjdohhididpomaaDoor
open Go Go.RowKit Vc Ut Tb Cl
structure GlRd (w : World) (A : GlP) (ha : Option Addr) (hc : Nat) (h : ByteArray) : Prop where
  rd : RdIn w A.rb ha hc h
  sm : h.size ≤ 3
  far : ∀ q, q = A.rb ∨ (blk ha = some q ∧ h.size ≠ 0) → A.B ≤ q ∧ q < w.heap.size ∧ ¬ own A q
def ownR (A : GlP) (ha : Option Addr) (h : ByteArray) (q : Nat) : Prop := own A q ∨ q = A.rb ∨ (blk ha = some q ∧ h.size ≠ 0)
structure NwX where
  p : Option Addr
  e : Int
  A : GlP
def sNewG : CallSpec where
  G := Int × Int × Bool
  args := fun g => #[.int .i64 g.1, .int .i64 g.2.1, .bool g.2.2]
  pre := fun _ w => UDB w.heap.size w
  X := NwX
  res := fun x => .tuple #[.pointer x.p, .int .i64 x.e]
  post := fun g w x w' => Ext w w' ∧ (sizeB g.1 g.2.1 = false → x.p = none ∧ x.e = 5) ∧
    (sizeB g.1 g.2.1 = true → x.p = some ⟨x.A.p, 0, none⟩ ∧ x.e = 0 ∧ x.A.B = w.heap.size ∧ GlIn w' x.A (newG g.1.toNat g.2.1.toNat g.2.2) ∧ GlRd w' x.A none 0 ⟨#[]⟩)
def spNewG : List (Nat × CallSpec) := [(17, sSizeW), (26, sNew)]
structure GFd where
  A : GlP
  g : Gs
  m : Nat
  ha : Option Addr
  hc : Nat
  h : ByteArray
  ad : Option Addr
  c : Nat
  b : ByteArray
structure FdOut (w w' : World) (A : GlP) (ha : Option Addr) (h : ByteArray) (A' : GlP) (ha' : Option Addr) (hc' : Nat) (g' : Gs) (h' : ByteArray) : Prop where
  is : GlIn w' A' g'
  rd : GlRd w' A' ha' hc' h'
  p : A'.p = A.p
  b : A'.B = A.B
  rb : A'.rb = A.rb
  st : Step (ownR A ha h) w w' (ownR A' ha' h')
def sFeedG : CallSpec where
  G := GFd
  args := fun g => #[.pointer (some ⟨g.A.p, 0, none⟩), .slice g.ad g.b.size g.c]
  pre := fun g w => GlIn w g.A g.g ∧ okG g.g g.m ∧ GlRd w g.A g.ha g.hc g.h ∧ CellsAt w g.ad (bytesV g.b) ∧ g.b.size ≤ 67108864 ∧ g.m + 3 + g.b.size ≤ 549755813888
  X := GlP × Option Addr × Nat
  res := fun _ => .tuple #[]
  post := fun g w x w' => FdOut w w' g.A g.ha g.h x.1 x.2.1 x.2.2 (feedG g.g (fdR (g.h ++ g.b))) (fdH (g.h ++ g.b))
def sFeedN : CallSpec where
  G := Option Addr × Nat × Nat
  args := fun g => #[.pointer none, .slice g.1 g.2.1 g.2.2]
  pre := fun _ _ => True
  X := Unit
  res := fun _ => .tuple #[]
  post := fun _ w _ w' => Ext w w'
def spFeedG : List (Nat × CallSpec) := [(27, sFeed), (28, sTakeG)]
def annFeedG (g : GFd) (_ : World) : Ann where
  sp := spFeedG
  loops := [(2, {
    X := GlP × Nat
    sh := fun _ x => [(15, .int .i64 x.2)]
    inv := fun _ w0 x w => x.2 ≤ (fdR (g.h ++ g.b)).length ∧ GlOut w0 w g.A x.1 (feedG g.g ((fdR (g.h ++ g.b)).take x.2))
    mu := fun _ _ x _ => (fdR (g.h ++ g.b)).length - x.2 })]
structure GdX where
  b : Nat
  a : Option Addr
  c : Nat
  x : Int
  y : Int
structure gdOut (g : Gs) (w w' : World) (x : (Option Addr × Nat) × Gr) : Prop where
  eq : x.2 = gridG g
  made : Made w w' 46 6 x.1.1 g.cs.length (flat g.cs) x.1.2
structure gdI (g : Gs) (w00 : World) (x : GdX) (w : World) (v : Value) : Prop where
  v : v = .pointer (some ⟨w00.heap.size, 0, none⟩)
  res : w.heap[w00.heap.size]? = some (.cells #[.int .i64 0, .int .i64 0, .slice none 0 0, .int .i64 0, .int .i64 0] 27)
  out : w.heap[x.b]? = some (.cells #[.int .i64 g.w, .int .i64 g.h, .slice x.a g.cs.length x.c, .int .i64 x.x, .int .i64 x.y] 27)
  ne : w00.heap.size < x.b
  made : Made w00 w 46 6 x.a g.cs.length (flat g.cs) x.c
def sGridG : CallSpec where
  G := GGl
  args := fun g => #[.pointer (some ⟨g.A.p, 0, none⟩)]
  pre := fun g w => GlIn w g.A g.g ∧ fitG g.g
  X := (Option Addr × Nat) × Gr
  res := fun x => grA x.1.1 x.1.2 x.2
  post := fun g w x w' => gdOut g.g w w' x
def ptN (v : Value) (q : Nat) : Prop := match v with | .pointer (some a) => q = a.block | _ => False
def annGridG (g : GGl) (w00 : World) : Ann where
  sp := []
  frees := [(5, fun e => ptN (gv e 3))]
  cuts := [(3, 3, { X := GdX, sh := fun _ x => [(3, .pointer (some ⟨x.b, 0, none⟩))], inv := fun e _ x w => gdI g.g w00 x w (gv e 2) ∧ x.x = -1 ∧ x.y = -1 }),
    (4, 5, { X := GdX, sh := fun _ _ => [], inv := fun e _ x w => gv e 3 = .pointer (some ⟨x.b, 0, none⟩) ∧ gdI g.g w00 x w (gv e 2) ∧ x.x = (gridG g.g).x ∧ x.y = (gridG g.g).y })]
def sGridN : CallSpec where
  G := Unit
  args := fun _ => #[.pointer none]
  pre := fun _ _ => True
  X := Unit
  res := fun _ => grA none 0 ⟨0, 0, [], 0, 0⟩
  post := fun _ w _ w' => Ext w w'
end Go.Proofs.YtjdohhididpomaaDoor
end

section
set_option linter.unusedVariables false
namespace Go.Proofs.YtjdohhididpomaaDoor
open Go Go.RowKit Vc Ut Tb Cl
set_option maxRecDepth 1000000 in
theorem newG_vc (hsp : SpecsOk Tryd.prog spNewG) (h : ∀ (g : Int × Int × Bool) (w : World), UDB w.heap.size w → ∃ (g1 : Int × Int), #[Value.int .i64 g.fst, Value.int .i64 g.snd.fst] = #[Value.int .i64 g1.fst, Value.int .i64 g1.snd] ∧ True ∧ ∀ (x : Bool) (w' : World), x = sizeB g1.fst g1.snd ∧ Ext w w' → bcase (!x) (∃ (x1 : NwX), Value.tuple #[Value.pointer none, Value.int .i64 5] = Value.tuple #[Value.pointer x1.p, Value.int .i64 x1.e] ∧ Ext w w' ∧ (sizeB g.fst g.snd.fst = false → x1.p = none ∧ x1.e = (5 : Int)) ∧ (sizeB g.fst g.snd.fst = true → x1.p = some ⟨x1.A.p, 0, none⟩ ∧ x1.e = (0 : Int) ∧ x1.A.B = w.heap.size ∧ GlIn w' x1.A (newG g.fst.toNat g.snd.fst.toNat g.snd.snd) ∧ GlRd w' x1.A none (0 : Nat) (ByteArray.mk #[]))) (∀ (w1 : World), Drew w' w1 → InR .i64 (g.fst * g.snd.fst) ∧ (∃ (n : Nat) (m : Nat), g.fst * g.snd.fst = (↑n : Int) ∧ g.fst * g.snd.fst = (↑m : Int) ∧ n ≤ m ∧ (48 : Nat) * m ≤ 281474976710656 ∧ m ≤ 9223372036854775807 ∧ ∀ (b : Nat) (w11 : World), New w1 (Obj.cells (mkRow (Value.agg #[Value.string (ByteArray.mk #[]), Value.int .i8 0, Value.int .i64 0, Value.int .i64 0, Value.bool false, Value.int .u16 0]).cells m) (46 : Nat)) b w11 → Below w1.heap.size w1 w11 ∧ ∃ (g2 : Unit), (#[] : Array Value) = #[] ∧ True ∧ ∀ (x1 : Nat) (w'1 : World), x1 = w11.heap.size ∧ RdIn w'1 x1 none (0 : Nat) (ByteArray.mk #[]) ∧ Ext w11 w'1 → Below w11.heap.size w11 w'1 ∧ ∀ (b1 : Nat) (w12 : World), New w'1 (Obj.cells #[Value.int .i64 g.fst, Value.int .i64 g.snd.fst, Value.bool g.snd.snd, Value.slice (some ⟨b, 0, none⟩) n m, Value.int .i64 0, Value.int .i64 0, Value.bool false, Value.int .u16 0, Value.int .i64 0, Value.pointer (some ⟨x1, 0, none⟩), Value.int .i64 0, Value.slice none (0 : Nat) (0 : Nat), Value.bool false, Value.bool false] (66 : Nat)) b1 w12 → ∃ (x2 : NwX), Value.tuple #[Value.pointer (some ⟨b1, 0, none⟩), Value.int .i64 0] = Value.tuple #[Value.pointer x2.p, Value.int .i64 x2.e] ∧ Ext w w12 ∧ (sizeB g.fst g.snd.fst = false → x2.p = none ∧ x2.e = (5 : Int)) ∧ (sizeB g.fst g.snd.fst = true → x2.p = some ⟨x2.A.p, 0, none⟩ ∧ x2.e = (0 : Int) ∧ x2.A.B = w.heap.size ∧ GlIn w12 x2.A (newG g.fst.toNat g.snd.fst.toNat g.snd.snd) ∧ GlRd w12 x2.A none (0 : Nat) (ByteArray.mk #[]))) ∧ ∃ (g2 : Unit), (#[] : Array Value) = #[] ∧ True ∧ ∀ (x1 : Nat) (w'1 : World), x1 = w1.heap.size ∧ RdIn w'1 x1 none (0 : Nat) (ByteArray.mk #[]) ∧ Ext w1 w'1 → Below w1.heap.size w1 w'1 ∧ ∃ (n : Nat) (m : Nat), g.fst * g.snd.fst = (↑n : Int) ∧ g.fst * g.snd.fst = (↑m : Int) ∧ n ≤ m ∧ (48 : Nat) * m ≤ 281474976710656 ∧ m ≤ 9223372036854775807 ∧ ∀ (b : Nat) (w11 : World), New w'1 (Obj.cells (mkRow (Value.agg #[Value.string (ByteArray.mk #[]), Value.int .i8 0, Value.int .i64 0, Value.int .i64 0, Value.bool false, Value.int .u16 0]).cells m) (46 : Nat)) b w11 → Below w'1.heap.size w'1 w11 ∧ ∀ (b1 : Nat) (w12 : World), New w11 (Obj.cells #[Value.int .i64 g.fst, Value.int .i64 g.snd.fst, Value.bool g.snd.snd, Value.slice (some ⟨b, 0, none⟩) n m, Value.int .i64 0,
 Value.int .i64 0, Value.bool false, Value.int .u16 0, Value.int .i64 0, Value.pointer (some ⟨x1, 0, none⟩), Value.int .i64 0, Value.slice none (0 : Nat) (0 : Nat), Value.bool false, Value.bool false] (66 : Nat)) b1 w12 → ∃ (x2 : NwX), Value.tuple #[Value.pointer (some ⟨b1, 0, none⟩), Value.int .i64 0] = Value.tuple #[Value.pointer x2.p, Value.int .i64 x2.e] ∧ Ext w w12 ∧ (sizeB g.fst g.snd.fst = false → x2.p = none ∧ x2.e = (5 : Int)) ∧ (sizeB g.fst g.snd.fst = true → x2.p = some ⟨x2.A.p, 0, none⟩ ∧ x2.e = (0 : Int) ∧ x2.A.B = w.heap.size ∧ GlIn w12 x2.A (newG g.fst.toNat g.snd.fst.toNat g.snd.snd) ∧ GlRd w12 x2.A none (0 : Nat) (ByteArray.mk #[])))) :
    (sNewG).Ok Tryd.prog 11 :=
  ok_of_vc sNewG (annOf spNewG) spNewG (fun _ _ => rfl) (fun _ _ => rfl) hsp Tryd.func11 rfl (n := 3) (fun _ => rfl) (by kernel_rfl) (vcast (by kernel_rfl) h)
set_option maxRecDepth 1000000 in
theorem feedG_vc (hsp : SpecsOk Tryd.prog spFeedG) (h : ∀ (g : GFd) (w : World), GlIn w g.A g.g ∧ okG g.g g.m ∧ GlRd w g.A g.ha g.hc g.h ∧ CellsAt w g.ad (bytesV g.b) ∧ g.b.size ≤ 67108864 ∧ g.m + 3 + g.b.size ≤ 549755813888 → ∃ (a1 : Option Addr), w.cell? ⟨g.A.p, 9, none⟩ = some (Value.pointer a1) ∧ ∃ (g1 : GRd), #[Value.pointer a1, Value.slice g.ad g.b.size g.c] = #[Value.pointer (some ⟨g1.rb, 0, none⟩), Value.slice g1.ad g1.b.size g1.c] ∧ (U8 w ∧ RdIn w g1.rb g1.ha g1.hc g1.h ∧ CellsAt w g1.ad (bytesV g1.b) ∧ g1.h.size ≤ 67108864 ∧ g1.b.size ≤ 67108864) ∧ ∀ (x : (Option Addr × Nat × Nat) × Option Addr × Nat) (w' : World), x.fst.snd.fst = (fdR (g1.h ++ g1.b)).length ∧ NewRow w w' (21 : TypeId) x.fst.fst x.fst.snd.fst (List.map (Value.int IntKind.i32) (fdR (g1.h ++ g1.b))) x.fst.snd.snd ∧ RdIn w' g1.rb x.snd.fst x.snd.snd (fdH (g1.h ++ g1.b)) ∧ (∀ (q : Nat), blk x.snd.fst = some q → w.heap.size ≤ q) ∧ (∀ (q : Nat), blk x.fst.fst = some q → blk x.snd.fst ≠ some q) ∧ Fr (fun (q : Nat) => q = g1.rb) w w' → (∃ (x1 : GlP × Nat), Value.int .i64 0 = Value.int .i64 (↑x1.snd : Int) ∧ x1.snd ≤ (fdR (g.h ++ g.b)).length ∧ GlOut w' w' g.A x1.fst (feedG g.g (List.take x1.snd (fdR (g.h ++ g.b))))) ∧ ∀ (u : Nat → Value) (x1 : GlP × Nat) (w'1 : World), x1.snd ≤ (fdR (g.h ++ g.b)).length ∧ GlOut w' w'1 g.A x1.fst (feedG g.g (List.take x1.snd (fdR (g.h ++ g.b)))) → bcase (decide ((↑x1.snd : Int) < (↑x.fst.snd.fst : Int))) (∃ (k : Nat), (↑x1.snd : Int) = (↑k : Int) ∧ k < x.fst.snd.fst ∧ ptrE x.fst.fst fun (b o : Nat) => ∃ (n : Int), w'1.cell? ⟨b, o + k, none⟩ = some (Value.int .i32 n) ∧ ∃ (g2 : GTak), #[Value.pointer (some ⟨g.A.p, 0, none⟩), Value.int .i32 n] = #[Value.pointer (some ⟨g2.A.p, 0, none⟩), Value.int .i32 g2.r] ∧ tkIn w'1 g2.A g2.g g2.m ∧ ∀ (x2 : GlP) (w'2 : World), GlOut w'1 w'2 g2.A x2 (takeG g2.g g2.r) → InR .i64 ((↑x1.snd : Int) + (1 : Int)) ∧ ∃ (y : GlP × Nat), Value.int .i64 ((↑x1.snd : Int) + (1 : Int)) = Value.int .i64 (↑y.snd : Int) ∧ (y.snd ≤ (fdR (g.h ++ g.b)).length ∧ GlOut w' w'2 g.A y.fst (feedG g.g (List.take y.snd (fdR (g.h ++ g.b))))) ∧ (fdR (g.h ++ g.b)).length - y.snd < (fdR (g.h ++ g.b)).length - x1.snd) (∃ (x2 : GlP × Option Addr × Nat), Value.tuple #[] = Value.tuple #[] ∧ FdOut w w'1 g.A g.ha g.h x2.fst x2.snd.fst x2.snd.snd (feedG g.g (fdR (g.h ++ g.b))) (fdH (g.h ++ g.b)))) :
    (sFeedG).Ok Tryd.prog 12 :=
  ok_of_vc sFeedG annFeedG spFeedG (fun _ _ => rfl) (fun _ _ => rfl) hsp Tryd.func12 rfl (n := 2) (fun _ => rfl) (by kernel_rfl) (vcast (by kernel_rfl) h)
set_option maxRecDepth 1000000 in
theorem feedN_vc (hsp : SpecsOk Tryd.prog spFeedG) (h : ∀ (g : Option Addr × Nat × Nat) (w : World), True → ∃ (x : Unit), Value.tuple #[] = Value.tuple #[] ∧ Ext w w) :
    (sFeedN).Ok Tryd.prog 12 :=
  ok_of_vc sFeedN (annOf spFeedG) spFeedG (fun _ _ => rfl) (fun _ _ => rfl) hsp Tryd.func12 rfl (n := 2) (fun _ => rfl) (by kernel_rfl) (vcast (by kernel_rfl) h)
set_option maxRecDepth 1000000 in
theorem gridG_vc (hsp : SpecsOk Tryd.prog []) (h : ∀ (g : GGl) (w : World), GlIn w g.A g.g ∧ fitG g.g → ∀ (b : Nat) (w1 : World), New w (Obj.cells #[Value.int .i64 0, Value.int .i64 0, Value.slice none (0 : Nat) (0 : Nat), Value.int .i64 0, Value.int .i64 0] (27 : Nat)) b w1 → (∀ (w11 : World), Drew w1 w11 → ∃ (n : Int), w1.cell? ⟨g.A.p, 0, none⟩ = some (Value.int .i64 n) ∧ ∃ (n1 : Int), w1.cell? ⟨g.A.p, 1, none⟩ = some (Value.int .i64 n1) ∧ ∃ (a3 : Option Addr) (n2 : Nat) (c : Nat), w1.cell? ⟨g.A.p, 3, none⟩ = some (Value.slice a3 n2 c) ∧ (∃ (a' : Option Addr) (c' : Nat) (w' : World), AppRun Tryd.prog #[(25 : Nat), (25 : Nat)] (25 : Nat) (Value.slice none (0 : Nat) (0 : Nat)) (Value.slice a3 n2 c) w11 a' ((0 : Nat) + n2) c' w' ∧ KO w11 w' ∧ Below w11.heap.size w11 w' ∧ ∀ (b1 : Nat) (w12 : World), New w' (Obj.cells #[Value.int .i64 0, Value.int .i64 0, Value.slice none (0 : Nat) (0 : Nat), Value.int .i64 0, Value.int .i64 0] (27 : Nat)) b1 w12 → Below w'.heap.size w' w12 ∧ true = true ∧ (∃ (old : Value), w12.cell? ⟨b1, 0, none⟩ = some old) ∧ w12.frozen? ⟨b1, 0, none⟩ = false ∧ ∀ (w13 : World), Stored w12 ⟨b1, 0, none⟩ (Value.int .i64 n) w13 → true = true ∧ (∃ (old : Value), w13.cell? ⟨b1, 1, none⟩ = some old) ∧ w13.frozen? ⟨b1, 1, none⟩ = false ∧ ∀ (w14 : World), Stored w13 ⟨b1, 1, none⟩ (Value.int .i64 n1) w14 → true = true ∧ (∃ (old : Value), w14.cell? ⟨b1, 2, none⟩ = some old) ∧ w14.frozen? ⟨b1, 2, none⟩ = false ∧ ∀ (w15 : World), Stored w14 ⟨b1, 2, none⟩ (Value.slice a' ((0 : Nat) + n2) c') w15 → true = true ∧ (∃ (old : Value), w15.cell? ⟨b1, 3, none⟩ = some old) ∧ w15.frozen? ⟨b1, 3, none⟩ = false ∧ ∀ (w16 : World), Stored w15 ⟨b1, 3, none⟩ (Value.int .i64 (-1 : Int)) w16 → true = true ∧ (∃ (old : Value), w16.cell? ⟨b1, 4, none⟩ = some old) ∧ w16.frozen? ⟨b1, 4, none⟩ = false ∧ ∀ (w17 : World), Stored w16 ⟨b1, 4, none⟩ (Value.int .i64 (-1 : Int)) w17 → ∃ (c1 : GdX), Value.pointer (some ⟨b1, 0, none⟩) = Value.pointer (some ⟨c1.b, 0, none⟩) ∧ gdI g.g w c1 w17 (Value.pointer (some ⟨b, 0, none⟩)) ∧ c1.x = (-1 : Int) ∧ c1.y = (-1 : Int)) ∧ ∀ (b1 : Nat) (w12 : World), New w11 (Obj.cells #[Value.int .i64 0, Value.int .i64 0, Value.slice none (0 : Nat) (0 : Nat), Value.int .i64 0, Value.int .i64 0] (27 : Nat)) b1 w12 → Below w11.heap.size w11 w12 ∧ ∃ (a' : Option Addr) (c' : Nat) (w' : World), AppRun Tryd.prog #[(25 : Nat), (25 : Nat)] (25 : Nat) (Value.slice none (0 : Nat) (0 : Nat)) (Value.slice a3 n2 c) w12 a' ((0 : Nat) + n2) c' w' ∧ KO w12 w' ∧ Below w12.heap.size w12 w' ∧ true = true ∧ (∃ (old : Value), w'.cell? ⟨b1, 0, none⟩ = some old) ∧ w'.frozen? ⟨b1, 0, none⟩ = false ∧ ∀ (w13 : World), Stored w' ⟨b1, 0, none⟩ (Value.int .i64 n) w13 → true = true ∧ (∃ (old : Value), w13.cell? ⟨b1, 1, none⟩ = some old) ∧ w13.frozen? ⟨b1, 1, none⟩ = false ∧ ∀ (w14 : World), Stored w13 ⟨b1, 1, none⟩ (Value.int .i64 n1) w14 → true = true ∧ (∃ (old : Value), w14.cell? ⟨b1, 2, none⟩ = some old) ∧ w14.frozen? ⟨b1, 2, none⟩ = false ∧ ∀ (w15 : World),
 Stored w14 ⟨b1, 2, none⟩ (Value.slice a' ((0 : Nat) + n2) c') w15 → true = true ∧ (∃ (old : Value), w15.cell? ⟨b1, 3, none⟩ = some old) ∧ w15.frozen? ⟨b1, 3, none⟩ = false ∧ ∀ (w16 : World), Stored w15 ⟨b1, 3, none⟩ (Value.int .i64 (-1 : Int)) w16 → true = true ∧ (∃ (old : Value), w16.cell? ⟨b1, 4, none⟩ = some old) ∧ w16.frozen? ⟨b1, 4, none⟩ = false ∧ ∀ (w17 : World), Stored w16 ⟨b1, 4, none⟩ (Value.int .i64 (-1 : Int)) w17 → ∃ (c1 : GdX), Value.pointer (some ⟨b1, 0, none⟩) = Value.pointer (some ⟨c1.b, 0, none⟩) ∧ gdI g.g w c1 w17 (Value.pointer (some ⟨b, 0, none⟩)) ∧ c1.x = (-1 : Int) ∧ c1.y = (-1 : Int)) ∧ ∀ (u : Nat → Value) (c : GdX) (w' : World), gdI g.g w c w' (Value.pointer (some ⟨b, 0, none⟩)) ∧ c.x = (-1 : Int) ∧ c.y = (-1 : Int) → (∃ (b1 : Bool), w'.cell? ⟨g.A.p, 6, none⟩ = some (Value.bool b1) ∧ bcase (!b1) (∃ (a3 : Option Addr) (n : Nat) (c1 : Nat), w'.cell? ⟨g.A.p, 3, none⟩ = some (Value.slice a3 n c1) ∧ bcase (decide ((↑n : Int) > (0 : Int))) (∀ (w11 : World), Drew w' w11 → ¬ptN (Value.pointer (some ⟨c.b, 0, none⟩)) g.A.p ∧ ∃ (n1 : Int), w'.cell? ⟨g.A.p, 4, none⟩ = some (Value.int .i64 n1) ∧ ¬ptN (Value.pointer (some ⟨c.b, 0, none⟩)) g.A.p ∧ ∃ (n2 : Int), w'.cell? ⟨g.A.p, 0, none⟩ = some (Value.int .i64 n2) ∧ InR .i64 (n2 - (1 : Int)) ∧ ¬ptN (Value.pointer (some ⟨c.b, 0, none⟩)) g.A.p ∧ ∃ (n3 : Int), w'.cell? ⟨g.A.p, 5, none⟩ = some (Value.int .i64 n3) ∧ true = true ∧ (∃ (old : Value), w11.cell? ⟨c.b, 3, none⟩ = some old) ∧ w11.frozen? ⟨c.b, 3, none⟩ = false ∧ ∀ (w12 : World), Stored w11 ⟨c.b, 3, none⟩ (Value.int .i64 (if n2 - (1 : Int) < n1 then n2 - (1 : Int) else n1)) w12 → Fr (ptN (Value.pointer (some ⟨c.b, 0, none⟩))) w11 w12 ∧ true = true ∧ (∃ (old : Value), w12.cell? ⟨c.b, 4, none⟩ = some old) ∧ w12.frozen? ⟨c.b, 4, none⟩ = false ∧ ∀ (w13 : World), Stored w12 ⟨c.b, 4, none⟩ (Value.int .i64 n3) w13 → ∃ (c2 : GdX), Value.pointer (some ⟨c.b, 0, none⟩) = Value.pointer (some ⟨c2.b, 0, none⟩) ∧ gdI g.g w c2 w13 (Value.pointer (some ⟨b, 0, none⟩)) ∧ (c2.x = if g.g.hid = false ∧ g.g.cs ≠ [] then min (↑g.g.x : Int) ((↑g.g.w : Int) - (1 : Int)) else (-1 : Int)) ∧ c2.y = if g.g.hid = false ∧ g.g.cs ≠ [] then (↑g.g.y : Int) else (-1 : Int)) (∃ (c2 : GdX), Value.pointer (some ⟨c.b, 0, none⟩) = Value.pointer (some ⟨c2.b, 0, none⟩) ∧ gdI g.g w c2 w' (Value.pointer (some ⟨b, 0, none⟩)) ∧ (c2.x = if g.g.hid = false ∧ g.g.cs ≠ [] then min (↑g.g.x : Int) ((↑g.g.w : Int) - (1 : Int)) else (-1 : Int)) ∧ c2.y = if g.g.hid = false ∧ g.g.cs ≠ [] then (↑g.g.y : Int) else (-1 : Int))) (∃ (c1 : GdX), Value.pointer (some ⟨c.b, 0, none⟩) = Value.pointer (some ⟨c1.b, 0, none⟩) ∧ gdI g.g w c1 w' (Value.pointer (some ⟨b, 0, none⟩)) ∧ (c1.x = if g.g.hid = false ∧ g.g.cs ≠ [] then min (↑g.g.x : Int) ((↑g.g.w : Int) - (1 : Int)) else (-1 : Int)) ∧ c1.y = if g.g.hid = false ∧ g.g.cs ≠ [] then (↑g.g.y : Int) else (-1 : Int))) ∧ ∀ (u1 : Nat → Value) (c1 : GdX) (w'1 : World), (Value.pointer (some ⟨c.b, 0, none⟩) = Value.pointer (some ⟨c1.b, 0, none⟩) ∧
 gdI g.g w c1 w'1 (Value.pointer (some ⟨b, 0, none⟩)) ∧ (c1.x = if g.g.hid = false ∧ g.g.cs ≠ [] then min (↑g.g.x : Int) ((↑g.g.w : Int) - (1 : Int)) else (-1 : Int)) ∧ c1.y = if g.g.hid = false ∧ g.g.cs ≠ [] then (↑g.g.y : Int) else (-1 : Int)) → ∃ (n : Int), w'1.cell? ⟨c.b, 0, none⟩ = some (Value.int .i64 n) ∧ ∃ (n1 : Int), w'1.cell? ⟨c.b, 1, none⟩ = some (Value.int .i64 n1) ∧ ∃ (a4 : Option Addr) (n2 : Nat) (c2 : Nat), w'1.cell? ⟨c.b, 2, none⟩ = some (Value.slice a4 n2 c2) ∧ ∃ (n3 : Int), w'1.cell? ⟨c.b, 3, none⟩ = some (Value.int .i64 n3) ∧ ∃ (n4 : Int), w'1.cell? ⟨c.b, 4, none⟩ = some (Value.int .i64 n4) ∧ true = true ∧ (∃ (old : Value), w'1.cell? ⟨b, 0, none⟩ = some old) ∧ w'1.frozen? ⟨b, 0, none⟩ = false ∧ ∀ (w11 : World), Stored w'1 ⟨b, 0, none⟩ (Value.int .i64 n) w11 → true = true ∧ (∃ (old : Value), w11.cell? ⟨b, 1, none⟩ = some old) ∧ w11.frozen? ⟨b, 1, none⟩ = false ∧ ∀ (w12 : World), Stored w11 ⟨b, 1, none⟩ (Value.int .i64 n1) w12 → true = true ∧ (∃ (old : Value), w12.cell? ⟨b, 2, none⟩ = some old) ∧ w12.frozen? ⟨b, 2, none⟩ = false ∧ ∀ (w13 : World), Stored w12 ⟨b, 2, none⟩ (Value.slice a4 n2 c2) w13 → true = true ∧ (∃ (old : Value), w13.cell? ⟨b, 3, none⟩ = some old) ∧ w13.frozen? ⟨b, 3, none⟩ = false ∧ ∀ (w14 : World), Stored w13 ⟨b, 3, none⟩ (Value.int .i64 n3) w14 → true = true ∧ (∃ (old : Value), w14.cell? ⟨b, 4, none⟩ = some old) ∧ w14.frozen? ⟨b, 4, none⟩ = false ∧ ∀ (w15 : World), Stored w14 ⟨b, 4, none⟩ (Value.int .i64 n4) w15 → ∃ (n5 : Int), w15.cell? ⟨b, 0, none⟩ = some (Value.int .i64 n5) ∧ ∃ (n6 : Int), w15.cell? ⟨b, 1, none⟩ = some (Value.int .i64 n6) ∧ ∃ (a10 : Option Addr) (n7 : Nat) (c3 : Nat), w15.cell? ⟨b, 2, none⟩ = some (Value.slice a10 n7 c3) ∧ ∃ (n8 : Int), w15.cell? ⟨b, 3, none⟩ = some (Value.int .i64 n8) ∧ ∃ (n9 : Int), w15.cell? ⟨b, 4, none⟩ = some (Value.int .i64 n9) ∧ ∃ (x : (Option Addr × Nat) × Gr), Value.agg #[Value.int .i64 n5, Value.int .i64 n6, Value.slice a10 n7 c3, Value.int .i64 n8, Value.int .i64 n9] = Value.agg #[Value.int .i64 x.snd.w, Value.int .i64 x.snd.h, Value.slice x.fst.fst x.snd.cs.length x.fst.snd, Value.int .i64 x.snd.x, Value.int .i64 x.snd.y] ∧ gdOut g.g w w15 x) :
    (sGridG).Ok Tryd.prog 13 :=
  ok_of_vc sGridG annGridG [] (fun _ _ => rfl) (fun _ _ => rfl) hsp Tryd.func13 rfl (n := 1) (fun _ => rfl) (by kernel_rfl) (vcast (by kernel_rfl) h)
set_option maxRecDepth 1000000 in
theorem gridN_vc (hsp : SpecsOk Tryd.prog []) (h : ∀ (g : Unit) (w : World), True → ∀ (b : Nat) (w1 : World), New w (Obj.cells #[Value.int .i64 0, Value.int .i64 0, Value.slice none (0 : Nat) (0 : Nat), Value.int .i64 0, Value.int .i64 0] (27 : Nat)) b w1 → true = true ∧ (∃ (old : Value), w1.cell? ⟨b, 0, none⟩ = some old) ∧ w1.frozen? ⟨b, 0, none⟩ = false ∧ ∀ (w11 : World), Stored w1 ⟨b, 0, none⟩ (Value.int .i64 0) w11 → true = true ∧ (∃ (old : Value), w11.cell? ⟨b, 1, none⟩ = some old) ∧ w11.frozen? ⟨b, 1, none⟩ = false ∧ ∀ (w12 : World), Stored w11 ⟨b, 1, none⟩ (Value.int .i64 0) w12 → true = true ∧ (∃ (old : Value), w12.cell? ⟨b, 2, none⟩ = some old) ∧ w12.frozen? ⟨b, 2, none⟩ = false ∧ ∀ (w13 : World), Stored w12 ⟨b, 2, none⟩ (Value.slice none (0 : Nat) (0 : Nat)) w13 → true = true ∧ (∃ (old : Value), w13.cell? ⟨b, 3, none⟩ = some old) ∧ w13.frozen? ⟨b, 3, none⟩ = false ∧ ∀ (w14 : World), Stored w13 ⟨b, 3, none⟩ (Value.int .i64 0) w14 → true = true ∧ (∃ (old : Value), w14.cell? ⟨b, 4, none⟩ = some old) ∧ w14.frozen? ⟨b, 4, none⟩ = false ∧ ∀ (w15 : World), Stored w14 ⟨b, 4, none⟩ (Value.int .i64 0) w15 → ∃ (n : Int), w15.cell? ⟨b, 0, none⟩ = some (Value.int .i64 n) ∧ ∃ (n1 : Int), w15.cell? ⟨b, 1, none⟩ = some (Value.int .i64 n1) ∧ ∃ (a7 : Option Addr) (n2 : Nat) (c : Nat), w15.cell? ⟨b, 2, none⟩ = some (Value.slice a7 n2 c) ∧ ∃ (n3 : Int), w15.cell? ⟨b, 3, none⟩ = some (Value.int .i64 n3) ∧ ∃ (n4 : Int), w15.cell? ⟨b, 4, none⟩ = some (Value.int .i64 n4) ∧ ∃ (x : Unit), Value.agg #[Value.int .i64 n, Value.int .i64 n1, Value.slice a7 n2 c, Value.int .i64 n3, Value.int .i64 n4] = Value.agg #[Value.int .i64 0, Value.int .i64 0, Value.slice none (0 : Nat) (0 : Nat), Value.int .i64 0, Value.int .i64 0] ∧ Ext w w15) :
    (sGridN).Ok Tryd.prog 13 :=
  ok_of_vc sGridN (annOf []) [] (fun _ _ => rfl) (fun _ _ => rfl) hsp Tryd.func13 rfl (n := 1) (fun _ => rfl) (by kernel_rfl) (vcast (by kernel_rfl) h)
end Go.Proofs.YtjdohhididpomaaDoor
end

section
namespace Go.Proofs.YtjdohhididpomaaDoor
open Go Vc Ut Tb Cl Orb
theorem valid_app {a b : ByteArray} (ha : validB a = true) (hb : validB b = true) : validB (a ++ b) = true ∧ runes (a ++ b) = runes a ++ runes b := by
  have ea := valid_text ha
  have eb := valid_text hb
  have h : a ++ b = runesBytes (runes a ++ runes b) := by rw [runesBytes_app, ea, eb]
  have ca : (runes a).map (fun r => (encC r : Int)) = runes a := by rw [← text_runes, ea]
  have cb : (runes b).map (fun r => (encC r : Int)) = runes b := by rw [← text_runes, eb]
  rw [h]
  exact ⟨text_valid _, by rw [text_runes, List.map_append, ca, cb]⟩
theorem asc_flat : ∀ l : List UInt8, (∀ b ∈ l, b.toNat < 128) → ((l.map fun b => (b.toNat : Int)).flatMap fun r => encN (encC r)).map UInt8.ofNat = l
  | [], _ => rfl
  | b :: l, h => by
    have hb := h b (by simp)
    have e1 : encC (b.toNat : Int) = b.toNat := by
      unfold encC; rw [if_pos (by omega), Int.toNat_natCast]
    have e2 : encN b.toNat = [b.toNat] := by unfold encN; rw [if_pos hb]
    rw [List.map_cons, List.flatMap_cons, e1, e2, List.map_append, asc_flat l (fun c hc => h c (by simp [hc]))]
    simp
theorem asc_runes {l : List UInt8} (h : ∀ b ∈ l, b.toNat < 128) : validB ⟨l.toArray⟩ = true ∧ runes ⟨l.toArray⟩ = l.map fun b => (b.toNat : Int) := by
  have e : (⟨l.toArray⟩ : ByteArray) = runesBytes (l.map fun b => (b.toNat : Int)) := by
    apply ByteArray.ext
    apply Array.ext'
    rw [runesBytes_list, asc_flat l h]
  rw [e]
  refine ⟨text_valid _, ?_⟩
  rw [text_runes, List.map_map]
  refine List.map_congr_left fun b hb => ?_
  have := h b hb
  show (encC (b.toNat : Int) : Int) = b.toNat
  unfold encC
  rw [if_pos (by omega), Int.toNat_natCast]
theorem tw_spec {α : Type} (p : α → Bool) : ∀ (l : List α), (l.takeWhile p).length ≤ l.length ∧ (∀ j x, j < (l.takeWhile p).length → l[j]? = some x → p x = true) ∧ (∀ x, l[(l.takeWhile p).length]? = some x → p x = false)
  | [] => by simp
  | y :: l => by
    obtain ⟨h1, h2, h3⟩ := tw_spec p l
    cases hy : p y
    · simp [hy]
    · rw [List.takeWhile_cons, if_pos hy]
      refine ⟨by simpa using h1, fun j x hj hx => ?_, fun x hx => h3 x (by simpa using hx)⟩
      cases j with
      | zero => simp at hx; subst hx; exact hy
      | succ j => exact h2 j x (by simpa using hj) (by simpa using hx)
theorem fdN_spec (t : ByteArray) : fdN t ≤ cnt t ∧ (∀ j, j < fdN t → wholeB (t.extract (pos t j) t.size) = true) ∧ (fdN t = cnt t ∨ wholeB (t.extract (pos t (fdN t)) t.size) = false) := by
  obtain ⟨h1, h2, h3⟩ := tw_spec (fun n => wholeB (t.extract (pos t n) t.size)) (List.range (cnt t))
  rw [List.length_range] at h1
  refine ⟨h1, fun j hj => h2 j j hj (by unfold fdN at hj; rw [List.getElem?_eq_getElem (by rw [List.length_range]; omega), List.getElem_range]), ?_⟩
  by_cases h : fdN t = cnt t
  · exact .inl h
  · exact .inr (h3 _ (by unfold fdN at h; rw [List.getElem?_eq_getElem (by rw [List.length_range]; omega), List.getElem_range]; rfl))
theorem fdN_valid {t : ByteArray} (h : validB t = true) : fdN t = cnt t := by
  obtain ⟨h1, -, h3⟩ := fdN_spec t
  rcases h3 with h3 | h3
  · exact h3
  by_cases hlt : fdN t = cnt t
  · exact hlt
  exfalso
  have hlt : fdN t < cnt t := by omega
  generalize fdN t = n at hlt h3
  obtain ⟨e1, e2⟩ := runes_held h3
  have hp := cnt_lt.1 hlt
  have hz : (t.extract (pos t n) t.size).size = t.size - pos t n := size_ext (Nat.le_refl _)
  have hd := dc_drop (s := t) (k := n) 0
  rw [Nat.add_zero] at hd
  generalize t.extract (pos t n) t.size = u at e1 e2 hz hd
  have hc : cnt u = u.size := by rw [← runes_len, e2, List.length_replicate]
  have hu0 : 0 < u.size := by omega
  have hr := runes_at (s := u) (n := 0) (by omega)
  rw [e2, List.getD_eq_getElem?_getD, List.getElem?_replicate, if_pos hu0] at hr
  have hp1 := pos_succ (s := u) (n := 0) (show 0 < u.size from hu0)
  have hpl := pos_le u 1
  have hcd := cnt_drop (s := u) (k := 1) (by omega)
  have hcl := cnt_le (u.extract (pos u 1) u.size)
  rw [size_ext (Nat.le_refl _)] at hcl
  have hdp := dcN_pos u (pos u 0)
  have e0 : pos u 0 = 0 := rfl
  rw [Nat.zero_add] at hp1
  have hN : dcN u (pos u 0) = 1 := by omega
  have hb : isBad t n = true := by
    unfold isBad
    have q1 : dcN t (pos t n) = 1 := by unfold dcN at hN ⊢; rw [← hd]; exact hN
    have q2 : dcR t (pos t n) = 65533 := by
      unfold dcR at hr ⊢; rw [← hd]; exact hr.symm
    rw [q1, q2]; rfl
  unfold validB at h
  rw [List.all_eq_true] at h
  have := h n (List.mem_range.2 hlt)
  rw [hb] at this
  cases this
theorem fd_valid {t : ByteArray} (h : validB t = true) : fdR t = runes t ∧ fdH t = ⟨#[]⟩ := by
  have hn := fdN_valid h
  refine ⟨?_, size_zero ?_⟩
  · unfold fdR; rw [hn, List.take_of_length_le (by rw [runes_len]; exact Nat.le_refl _)]
  · unfold fdH; rw [hn, pos_cnt, size_ext (Nat.le_refl _), Nat.sub_self]
theorem feed_app (g : Gs) (l m : List Int) : feedG g (l ++ m) = feedG (feedG g l) m := List.foldl_append
theorem feed_cons (g : Gs) (r : Int) (l : List Int) : feedG g (r :: l) = feedG (takeG g r) l := rfl
theorem held_ne {g : Gs} (h : g.num ≠ []) : heldG g = g := by unfold heldG; rw [if_neg h]
theorem take_dig {g : Gs} {pre : List Int} {v d : Int} (hs : g.stt = 2) (hn : (heldG g).num = pre ++ [v]) (h1 : 48 ≤ d) (h2 : d ≤ 57) :
    takeG g d = { g with num := pre ++ [min (max v 0 * 10 + (d - 48)) 9999] } := by
  unfold takeG
  rw [if_neg (by omega), if_pos hs]
  dsimp only
  rw [if_pos (by omega)]
  show holdG (heldG g) d (decide (g.num = [])) = _
  unfold holdG
  rw [if_neg (fun hh => by have := hh.1; omega), if_neg (by omega), if_pos ⟨h1, h2⟩, hn]
  have e1 : (pre ++ [v]).length - 1 = pre.length := by simp
  have e2 : nmL (pre ++ [v]) pre.length = v := by unfold nmL; simp
  rw [e1, e2, List.set_append_right _ _ (Nat.le_refl _), Nat.sub_self, List.set_cons_zero]
  unfold heldG; split <;> rfl
theorem dec_feed (u : Nat) : ∀ {g : Gs} {pre : List Int}, u ≤ 9999 → g.stt = 2 → (heldG g).num = pre ++ [-1] → feedG g ((Lib.decDigits u).map fun b => (b.toNat : Int)) = { g with num := pre ++ [(u : Int)] } := by
  induction u using Nat.strongRecOn with
  | _ u ih =>
    intro g pre hu hs hn
    rw [Lib.decDigits]
    by_cases h : u < 10
    · have e : ((UInt8.ofNat (48 + u)).toNat : Int) = 48 + u := by rw [UInt8.toNat_ofNat']; omega
      rw [dif_pos h, List.map_cons, List.map_nil, feed_cons, e, take_dig hs hn (by omega) (by omega)]
      show ({ g with num := _ } : Gs) = _
      rw [show min (max (-1) 0 * 10 + (48 + (u : Int) - 48)) 9999 = (u : Int) by omega]
    · have e : ((UInt8.ofNat (48 + u % 10)).toNat : Int) = 48 + (u % 10 : Nat) := by rw [UInt8.toNat_ofNat']; omega
      rw [dif_neg h, List.map_append, feed_app, ih (u / 10) (by omega) (by omega) hs hn, List.map_cons, List.map_nil, feed_cons, e]
      have hne : pre ++ [((u / 10 : Nat) : Int)] ≠ [] := by simp
      rw [take_dig (g := { g with num := pre ++ [((u / 10 : Nat) : Int)] }) (pre := pre) (v := ((u / 10 : Nat) : Int)) hs (by rw [held_ne hne]) (by omega) (by omega)]
      show ({ g with num := _ } : Gs) = _
      rw [show min (max ((u / 10 : Nat) : Int) 0 * 10 + (48 + ((u % 10 : Nat) : Int) - 48)) 9999 = (u : Int) by omega]
theorem dec_lt (u : Nat) : ∀ b ∈ Lib.decDigits u, b.toNat < 128 := by
  induction u using Nat.strongRecOn with
  | _ u ih =>
    rw [Lib.decDigits]
    by_cases h : u < 10
    · rw [dif_pos h]
      intro b hb
      rw [List.mem_singleton.1 hb, UInt8.toNat_ofNat']; omega
    · rw [dif_neg h]
      intro b hb
      rcases List.mem_append.1 hb with hb | hb
      · exact ih (u / 10) (by omega) b hb
      · rw [List.mem_singleton.1 hb, UInt8.toNat_ofNat']; omega
def digsN (l : List Int) : Prop := ∀ n ∈ l, 0 ≤ n ∧ n ≤ 9999
theorem digsN.tail {n : Int} {l : List Int} (h : digsN (n :: l)) : digsN l := fun k hk => h k (List.mem_cons_of_mem _ hk)
theorem asc_itoa {n : Int} (h : 0 ≤ n) : validB (itoaB n) = true ∧ runes (itoaB n) = (Lib.decDigits n.toNat).map fun b => (b.toNat : Int) := by
  have e : itoaB n = ⟨(Lib.decDigits n.toNat).toArray⟩ := by
    unfold itoaB Lib.itoa; rw [if_neg (by omega)]
  rw [e]; exact asc_runes (dec_lt _)
theorem semi_asc : validB ⟨#[59]⟩ = true ∧ runes ⟨#[59]⟩ = [59] := asc_runes (l := [59]) (by decide)
theorem none_asc : validB ⟨#[]⟩ = true ∧ runes ⟨#[]⟩ = [] := asc_runes (l := []) (by decide)
theorem nums_asc : ∀ (l : List Int) (first : Bool), digsN l → validB (numsB first l) = true
  | [], _, _ => none_asc.1
  | n :: l, first, h => by
    unfold numsB
    refine (valid_app (valid_app ?_ (asc_itoa (h n (by simp)).1).1).1 (nums_asc l false h.tail)).1
    cases first
    · exact semi_asc.1
    · exact none_asc.1
theorem nums_runes (n : Int) (l : List Int) (first : Bool) (h : digsN (n :: l)) : runes (numsB first (n :: l)) = (if first then [] else [59]) ++ ((Lib.decDigits n.toNat).map fun b => (b.toNat : Int)) ++ runes (numsB false l) := by
  have hi := asc_itoa (h n (by simp)).1
  have hl := nums_asc l false h.tail
  have hf : validB (if first then ⟨#[]⟩ else ⟨#[59]⟩ : ByteArray) = true ∧ runes (if first then ⟨#[]⟩ else ⟨#[59]⟩ : ByteArray) = if first then [] else [59] := by
    cases first
    · exact semi_asc
    · exact none_asc
  have h2 := valid_app hf.1 hi.1
  rw [show numsB first (n :: l) = (if first then ⟨#[]⟩ else ⟨#[59]⟩) ++ itoaB n ++ numsB false l from rfl, (valid_app h2.1 hl).2, h2.2, hf.2, hi.2]
theorem num_feed {g : Gs} {pre : List Int} {n : Int} (h0 : 0 ≤ n) (h1 : n ≤ 9999) (hs : g.stt = 2) (hn : (heldG g).num = pre ++ [-1]) : feedG g ((Lib.decDigits n.toNat).map fun b => (b.toNat : Int)) = { g with num := pre ++ [n] } := by
  rw [dec_feed n.toNat (by omega) hs hn, Int.toNat_of_nonneg h0]
theorem take_semi {g : Gs} (hs : g.stt = 2) (hn : g.num ≠ []) : takeG g 59 = { g with num := g.num ++ [-1] } := by
  unfold takeG
  rw [if_neg (by omega), if_pos hs]
  dsimp only
  rw [if_pos (by decide)]
  show holdG (heldG g) 59 (decide (g.num = [])) = _
  rw [held_ne hn]
  unfold holdG
  rw [if_neg (fun hh => by cases hh.1), if_pos rfl]
theorem nums_feed : ∀ (l : List Int) {g : Gs}, digsN l → g.stt = 2 → g.num ≠ [] → feedG g (runes (numsB false l)) = { g with num := g.num ++ l }
  | [], g, _, _, _ => by
    show feedG g (runes ⟨#[]⟩) = _
    rw [none_asc.2, List.append_nil]; rfl
  | n :: l, g, h, hs, hn => by
    have hb := h n (by simp)
    rw [nums_runes n l false h, feed_app, feed_app, if_neg (by decide), feed_cons, take_semi hs hn]
    show feedG (feedG { g with num := g.num ++ [-1] } _) _ = _
    rw [num_feed (g := { g with num := g.num ++ [-1] }) (pre := g.num) hb.1 hb.2 hs (by rw [held_ne (by simp)])]
    rw [nums_feed l (g := { g with num := g.num ++ [n] }) h.tail hs (by simp)]
    show ({ g with num := _ } : Gs) = _
    rw [List.append_assoc]; rfl
theorem nums_feed1 {l : List Int} {g : Gs} (h0 : l ≠ []) (h : digsN l) (hs : g.stt = 2) (hn : g.num = []) : feedG g (runes (numsB true l)) = { g with num := l } := by
  cases l with
  | nil => exact absurd rfl h0
  | cons n l =>
    have hb := h n (by simp)
    rw [nums_runes n l true h, feed_app, feed_app, if_pos rfl]
    show feedG (feedG g _) _ = _
    rw [num_feed (pre := []) hb.1 hb.2 hs (by unfold heldG; rw [if_pos hn]; rfl)]
    rw [nums_feed l (g := { g with num := [] ++ [n] }) h.tail hs (by simp)]
    rfl
theorem esc_asc : validB ⟨#[27, 91]⟩ = true ∧ runes ⟨#[27, 91]⟩ = [27, 91] := asc_runes (l := [27, 91]) (by decide)
theorem one_asc {c : UInt8} (h : c.toNat < 128) : validB ⟨#[c]⟩ = true ∧ runes ⟨#[c]⟩ = [(c.toNat : Int)] := asc_runes (l := [c]) (by simpa using h)
theorem say_asc {c : UInt8} {l : List Int} (hc : c.toNat < 128) (hl : digsN l) : validB (sayB c l) = true ∧ runes (sayB c l) = [27, 91] ++ runes (numsB true l) ++ [(c.toNat : Int)] := by
  have h1 := valid_app esc_asc.1 (nums_asc l true hl)
  have h2 := valid_app h1.1 (one_asc hc).1
  unfold sayB
  exact ⟨h2.1, by rw [h2.2, h1.2, esc_asc.2, (one_asc hc).2]⟩
theorem kind_27 : kindR 27 = 0 := by decide +kernel
theorem take_esc {g : Gs} (hs : g.stt = 0) : takeG g 27 = { g with last := 0, stt := 1 } := by
  unfold takeG
  rw [if_neg (by omega), if_neg (by omega)]
  unfold freeG
  rw [if_neg (by rw [kind_27]; decide), if_pos rfl]
theorem take_brk {g : Gs} (hs : g.stt = 1) : takeG g 91 = { g with stt := 2, num := [], asked := false, void := false } := by
  unfold takeG
  rw [if_pos hs, if_pos rfl]
theorem esc_feed {g : Gs} (hs : g.stt = 0) (l : List Int) : feedG g ([27, 91] ++ l) = feedG { g with last := 0, stt := 2, num := [], asked := false, void := false } l := by
  rw [feed_app, feed_cons, feed_cons, take_esc hs, take_brk (g := { g with last := 0, stt := 1 }) rfl]
  rfl
theorem take_does {g : Gs} {c : Int} (hs : g.stt = 2) (hn : g.num ≠ []) (h1 : 64 ≤ c) (h2 : c ≤ 126) : takeG g c = doesG { g with stt := 0 } c := by
  unfold takeG
  rw [if_neg (by omega), if_pos hs]
  dsimp only
  rw [if_neg (by omega), if_pos ⟨h1, h2⟩, if_neg hn]
def seqG (g : Gs) (l : List Int) : Gs := { g with last := 0, stt := 0, num := l, asked := false, void := false }
theorem say_feed {g : Gs} {c : UInt8} {l : List Int} (hs : g.stt = 0) (h0 : l ≠ []) (hl : digsN l) (h1 : 64 ≤ c.toNat) (h2 : c.toNat ≤ 126) : feedG g (runes (sayB c l)) = doesG (seqG g l) (c.toNat : Int) := by
  rw [(say_asc (by omega) hl).2, List.append_assoc, esc_feed hs, feed_app, nums_feed1 h0 hl rfl rfl, feed_cons]
  rw [take_does (g := { g with last := 0, stt := 2, num := l, asked := false, void := false }) rfl h0 (by omega) (by omega)]
  rfl
end Go.Proofs.YtjdohhididpomaaDoor
end
