/-
  Texts joined by program: WkSe, U9.
-/
import Derived.Test.YthpjkgoahneldaaDoorSb02
import Derived.Test.YthpjkgoahneldaaDoorSb05
import Derived.Test.YthpjkgoahneldaaDoorJb13
import Derived.Test.YthpjkgoahneldaaDoorSb03
set_option linter.unusedVariables false
set_option linter.unusedSimpArgs false

section
/-
  Chapter 6: what every program must do; the laws that ask the document.
-/
namespace Go.Proofs.YthpjkgoahneldaaDoor
open Go Go.RowKit Vc Ut Tb Cl

theorem UD.ext {w w' : World} (h : UD w) (e : Ext w w') : UD w' := ⟨h.1.ext e, h.2.ext e⟩
theorem bcase_is {b : Bool} {P F : Prop} (h : b = true) (p : P) : bcase b P F := bcase_mk (fun _ => p) (fun h' => by rw [h] at h'; cases h')
/-- Steps of a closed chain. -/
theorem sh_step {w0 w : World} (hU : UD w0) (e : Ext w0 w) {s want : ByteArray} {col wide : Int} (l : Lk) (hsz : s.size ≤ 67108864) (hv : showsB s col l want wide = true) {K : Bool → World → Prop} (hK : ∀ w', Ext w0 w' → K true w') :
    ∃ g : GSh, (#[.string s, .int .i64 col, lkV l, .string want, .int .i64 wide] : Array Value) = sShows.args g ∧ sShows.pre g w ∧ ∀ (x : Bool) (w' : World), sShows.post g w x w' → K x w' := by
  refine ⟨⟨s, col, l, want, wide⟩, rfl, ⟨hU.1.ext e, hU.2.ext e, hsz⟩, ?_⟩
  rintro x w' ⟨hx, e'⟩
  have hx : x = showsB s col l want wide := hx
  rw [hv] at hx
  subst hx
  exact hK w' (Ext.trans e e')
theorem tx_step {f : ByteArray → Int → Lk → Nat} {w0 w : World} (hU : UD w0) (e : Ext w0 w) {s : ByteArray} {col : Int} (l : Lk) (hsz : s.size ≤ 67108864) {K : Nat → World → Prop} (hK : ∀ w', Ext w0 w' → K (f s col l) w') :
    ∃ g : GT6, (#[.string s, .int .i64 col, lkV l] : Array Value) = (sTxN f).args g ∧ (sTxN f).pre g w ∧ ∀ (x : Nat) (w' : World), (sTxN f).post g w x w' → K x w' := by
  refine ⟨⟨s, col, l⟩, rfl, ⟨hU.1.ext e, hU.2.ext e, hsz⟩, ?_⟩
  rintro x w' ⟨hx, e'⟩
  have hx : x = f s col l := hx
  subst hx
  exact hK w' (Ext.trans e e')
theorem te_step {w0 w : World} (hU : UD w0) (e : Ext w0 w) {s : ByteArray} {col : Int} (l : Lk) (hsz : s.size ≤ 67108864) {K : ByteArray × Nat → World → Prop} (hK : ∀ w', Ext w0 w' → K (textC s col l) w') :
    ∃ g : GT6, (#[.string s, .int .i64 col, lkV l] : Array Value) = sTextC.args g ∧ sTextC.pre g w ∧ ∀ (x : ByteArray × Nat) (w' : World), sTextC.post g w x w' → K x w' := by
  refine ⟨⟨s, col, l⟩, rfl, ⟨hU.1.ext e, hU.2.ext e, hsz⟩, ?_⟩
  rintro x w' ⟨hx, e'⟩
  have hx : x = textC s col l := hx
  subst hx
  exact hK w' (Ext.trans e e')
theorem pl_step {w0 w : World} (hU : UD w0) (e : Ext w0 w) {s : ByteArray} (hsz : s.size ≤ 67108864) {K : ByteArray → World → Prop} (hK : ∀ w', Ext w0 w' → K (plainS s) w') :
    ∃ g : ByteArray, (#[.string s] : Array Value) = sPlainC.args g ∧ sPlainC.pre g w ∧ ∀ (x : ByteArray) (w' : World), sPlainC.post g w x w' → K x w' := by
  refine ⟨s, rfl, ⟨hU.1.ext e, hU.2.ext e, hsz⟩, ?_⟩
  rintro x w' ⟨hx, e'⟩
  have hx : x = plainS s := hx
  subst hx
  exact hK w' (Ext.trans e e')
theorem shows_ok : sShows.Ok Tryd.prog 54 := by
  refine shows_vc ⟨textp_ok, trivial⟩ ?_
  rintro ⟨s, col, l, want, wide⟩ w ⟨hU, hD, hsz⟩ b w1 hn
  dsimp only at hU hD hsz ⊢
  obtain ⟨c0, c1, c2, c3, c4⟩ := look_at (l := l) hn.heap
  have e1 : Ext w w1 := hn.ext
  refine ⟨l.tab, c0, l.wide, c1, l.want, c2, l.join, c3, l.raw, c4, te_step (w0 := w) ⟨hU, hD⟩ e1 l hsz fun w2 e2 => ⟨_, rfl, ?_, e2⟩⟩
  unfold showsB
  rw [str_eq]; rfl
def lkZ : Lk := ⟨0, false, 0, false, false⟩
def lkR : Lk := ⟨0, false, 0, false, true⟩

set_option maxRecDepth 100000 in
theorem live_ok : (sYes UD).Ok Tryd.prog 47 := by
  refine live_vc ⟨shows_ok, widc_ok, cutc_ok, plainc_ok, trivial⟩ ?_
  rintro _ w hUD b w1 hn
  obtain ⟨c0, c1, c2, c3, c4⟩ := look_at (l := lkR) hn.heap
  have e1 : Ext w w1 := hn.ext
  have hU : UD w1 := hUD.ext e1
  refine ⟨?_, ?_⟩
  · refine sh_step hU (Ext.refl _) lkZ (by decide) (by decide +kernel) fun w2 e2 => bcase_is rfl ?_
    refine sh_step hU e2 lkZ (by decide) (by decide +kernel) fun w3 e3 => bcase_is rfl ?_
    refine ⟨_, e3.cell c0, _, e3.cell c1, _, e3.cell c2, _, e3.cell c3, _, e3.cell c4, sh_step hU e3 lkR (by decide) (by decide +kernel) fun w4 e4 => bcase_is rfl ?_⟩
    refine ⟨_, e4.cell c0, _, e4.cell c1, _, e4.cell c2, _, e4.cell c3, _, e4.cell c4, sh_step hU e4 lkR (by decide) (by decide +kernel) fun w5 e5 => bcase_is rfl ?_⟩
    exact ⟨_, e5.cell c0, _, e5.cell c1, _, e5.cell c2, _, e5.cell c3, _, e5.cell c4, sh_step hU e5 lkR (by decide) (by decide +kernel) fun w6 e6 => ⟨(), rfl, e6⟩⟩
  rintro _ _ w2 e2
  refine tx_step hU e2 lkZ (by decide) fun w3 e3 => bcase_is (by decide +kernel) ?_
  refine tx_step hU e3 lkZ (by decide) fun w4 e4 => bcase_is (by decide +kernel) ?_
  refine pl_step hU e4 (by decide) fun w5 e5 => bcase_is (by rw [str_eq]; decide +kernel) ?_
  exact ⟨_, e5.cell c0, _, e5.cell c1, _, e5.cell c2, _, e5.cell c3, _, e5.cell c4, sh_step hU e5 lkR (by decide) (by decide +kernel) fun w6 e6 => ⟨(), rfl, Ext.trans e1 e6⟩⟩

/-! ### The laws -/
theorem lawW_ok : sLawT.Ok Tryd.prog 13 := by
  refine lawW_vc ⟨widc_ok, widr_ok, live_ok, trivial⟩ ?_
  rintro ⟨s, col, l⟩ w ⟨hU, hD, hsz⟩ b w1 hn w2 hd
  dsimp only at hU hD hsz ⊢
  obtain ⟨c0, c1, c2, c3, c4⟩ := look_at (l := l) hn.heap
  have e2 : Ext w w2 := Ext.trans hn.ext hd.ext
  have hU2 : UD w := ⟨hU, hD⟩
  refine ⟨l.tab, c0, l.wide, c1, l.want, c2, l.join, c3, l.raw, c4, l.tab, c0, l.wide, c1, l.want, c2, l.join, c3, l.raw, c4, ⟨s, col, l⟩, rfl, ⟨hU.ext e2, hD.ext e2, by dsimp only; omega⟩, ?_⟩
  rintro x w3 ⟨hx, e3⟩
  refine ⟨e3, ⟨s, col, l⟩, rfl, ⟨hU.ext (Ext.trans e2 e3), hD.ext (Ext.trans e2 e3), by dsimp only; omega⟩, ?_⟩
  rintro y w4 ⟨hy, e4⟩
  have e04 := Ext.trans e2 (Ext.trans e3 e4)
  rw [hx, hy]
  exact bcase_is (by simp) ⟨(), rfl, hU2.ext e04, fun _ w5 e5 => ⟨(), rfl, Ext.trans e04 e5⟩⟩
theorem lawC_ok : sLawT.Ok Tryd.prog 14 := by
  refine lawC_vc ⟨cutc_ok, cutr_ok, live_ok, trivial⟩ ?_
  rintro ⟨s, col, l⟩ w ⟨hU, hD, hsz⟩ b w1 hn w2 hd
  dsimp only at hU hD hsz ⊢
  obtain ⟨c0, c1, c2, c3, c4⟩ := look_at (l := l) hn.heap
  have e2 : Ext w w2 := Ext.trans hn.ext hd.ext
  have hU2 : UD w := ⟨hU, hD⟩
  refine ⟨l.tab, c0, l.wide, c1, l.want, c2, l.join, c3, l.raw, c4, l.tab, c0, l.wide, c1, l.want, c2, l.join, c3, l.raw, c4, ⟨s, col, l⟩, rfl, ⟨hU.ext e2, hD.ext e2, by dsimp only; omega⟩, ?_⟩
  rintro x w3 ⟨hx, e3⟩
  refine ⟨e3, ⟨s, col, l⟩, rfl, ⟨hU.ext (Ext.trans e2 e3), hD.ext (Ext.trans e2 e3), by dsimp only; omega⟩, ?_⟩
  rintro y w4 ⟨hy, e4⟩
  have e04 := Ext.trans e2 (Ext.trans e3 e4)
  rw [hx, hy]
  exact bcase_is (by simp) ⟨(), rfl, hU2.ext e04, fun _ w5 e5 => ⟨(), rfl, Ext.trans e04 e5⟩⟩
theorem lawP_ok : sLawP.Ok Tryd.prog 15 := by
  refine lawP_vc ⟨plainc_ok, plainr_ok, live_ok, trivial⟩ ?_
  rintro (s : ByteArray) w ⟨hU, hD, hsz⟩
  have hU2 : UD w := ⟨hU, hD⟩
  refine pl_step hU2 (Ext.refl _) (by omega) fun w2 e2 => pl_step hU2 e2 (by omega) fun w3 e3 => ?_
  rw [str_eq]
  exact bcase_is (decide_eq_true rfl) ⟨(), rfl, hU2.ext e3, fun _ w5 e5 => ⟨(), rfl, Ext.trans e3 e5⟩⟩
theorem lawT_ok : sLawT.Ok Tryd.prog 12 := by
  refine lawT_vc ⟨textp_ok, textr_ok, live_ok, trivial⟩ ?_
  rintro ⟨s, col, l⟩ w ⟨hU, hD, hsz⟩ b w1 hn
  dsimp only at hU hD hsz ⊢
  have z1 := hn.size
  have hU2 : UD w := ⟨hU, hD⟩
  have hb : w.heap.size ≤ b := by omega
  dsimp only [ptrB]
  refine ⟨⟨0, rfl, by decide, ⟨_, _, hn.heap⟩, hb, hn.ext⟩, ?_⟩
  rintro _ i w2 ⟨hi, ⟨x, y, hh⟩, _, e2⟩
  refine bcase_mk (fun h => ?_) (fun h => ⟨(), rfl, hU2.ext e2, fun _ w5 e5 => ⟨(), rfl, Ext.trans e2 e5⟩⟩)
  have hlt : i < 4 := by have := of_decide_eq_true h; omega
  refine ⟨Int.natCast_nonneg _, by decide, rfl, ⟨_, by rw [cell_of_heap hh]; rfl⟩, frozen_of_heap hh _, fun w3 hs3 => ?_⟩
  have hh3 := hs3.heap hh
  have e3 : Ext w w3 := Ext.stored e2 hs3 hb
  refine ⟨rfl, ⟨_, by rw [cell_of_heap hh3]; rfl⟩, frozen_of_heap hh3 _, fun w4 hs4 => ?_⟩
  have hh4 := hs4.heap hh3
  have e4 : Ext w w4 := Ext.stored e3 hs4 hb
  have hk4 : w4.heap[b]? = some (.cells #[.int .i64 l.tab, .bool ((i : Int) % 2 == 1), .int .i8 l.want, .bool l.join, .bool (decide ((i : Int) > 1))] 57) := hh4
  obtain ⟨d0, d1, d2, d3, d4⟩ := look_at (l := ⟨l.tab, ((i : Int) % 2 == 1), l.want, l.join, decide ((i : Int) > 1)⟩) hk4
  refine ⟨_, d0, _, d1, _, d2, _, d3, _, d4, ⟨s, col, ⟨l.tab, ((i : Int) % 2 == 1), l.want, l.join, decide ((i : Int) > 1)⟩⟩, rfl, ⟨hU.ext e4, hD.ext e4, by dsimp only; omega⟩, ?_⟩
  rintro p w5 ⟨hp, e5⟩
  refine ⟨_, e5.cell d0, _, e5.cell d1, _, e5.cell d2, _, e5.cell d3, _, e5.cell d4, ⟨s, col, ⟨l.tab, ((i : Int) % 2 == 1), l.want, l.join, decide ((i : Int) > 1)⟩⟩, rfl, ⟨hU.ext (Ext.trans e4 e5), hD.ext (Ext.trans e4 e5), by dsimp only; omega⟩, ?_⟩
  rintro q w6 ⟨hq, e6⟩
  dsimp only at hp hq
  rw [← hp] at hq
  subst hq
  refine bcase_mk (fun h => ?_) (fun h => ⟨inr_i64 (by omega) (by omega), i + 1, by simp, ⟨by omega, ⟨_, _, (Ext.trans e5 e6).heap hk4⟩, hb, Ext.trans e4 (Ext.trans e5 e6)⟩, by omega⟩)
  exfalso
  rw [str_eq] at h
  simp at h

end Go.Proofs.YthpjkgoahneldaaDoor
end

section
/-
  Five laid variables: the decoding tables and a table of the bit functions; a world in which they lie; a look that came in.
-/
namespace Go.Proofs.YthpjkgoahneldaaDoor
open Go Go.Shelf Go.RowKit Go.Lib

def shlaid : List (String × DataW Unit) := [("math/bits.deBruijn32tab", Rows.laid_math_bits_deBruijn32tab), ("math/bits.deBruijn64tab", Rows.laid_math_bits_deBruijn64tab), ("internal/strconv.uint64pow10", Rows.laid_internal_strconv_uint64pow10), ("unicode/utf8.acceptRanges", Rows.laid_unicode_utf8_acceptRanges), ("unicode/utf8.first", Rows.laid_unicode_utf8_first)]
set_option maxRecDepth 100000 in
theorem db_of {W : World} (h : VarReads Tryd.prog W "math/bits.deBruijn64tab" Rows.laid_math_bits_deBruijn64tab) : DB W := by
  obtain ⟨g, t, cs, fuel, p, hg, hty, hvar, hd⟩ := h
  obtain rfl := Option.some.inj ((show Tryd.prog.globalNamed "math/bits.deBruijn64tab" = some 5 by kernel_rfl).symm.trans hg)
  obtain rfl := Option.some.inj ((show (Tryd.prog.globals[5]?).map (·.type) = some 162 by kernel_rfl).symm.trans hty)
  obtain ⟨fuel', d, q, hdi, he⟩ := array_elem (n := 64) (e := 5) (by kernel_rfl) hd 15 (by decide)
  obtain ⟨z, hz, hx, _⟩ := DataW.trod_int (k := .u8) (by kernel_rfl) he
  have hd4 : d = .lit (.int .u8 4) := by
    have : (some d : Option (DataW Unit)) = some (.lit (.int .u8 4)) := hdi.symm.trans (by kernel_rfl)
    exact Option.some.inj this
  have hz4 : z = 4 := by
    have := congrArg (fun x => x.1) hx
    rw [hd4] at this
    injection this with h1
    injection h1 with _ h2
    exact h2.symm
  subst hz4
  show W.cell? _ = _
  rw [World.var?_cell hg hvar 15, ← Array.getElem?_toList]
  have := congrArg (·[0]?) hz
  rw [show Tryd.prog.cellsOf 5 = 1 from by kernel_rfl] at this
  simpa [List.getElem?_take, List.getElem?_drop] using this
theorem ud_of {W : World} (hL : laidMet Tryd.prog shlaid W) : U8 W ∧ DB W := by
  have h3 := Lib.laidMet.reads hL (n := "unicode/utf8.first") (d := Lib.firstData) (by rw [← first_is]; exact .tail _ (.tail _ (.tail _ (.tail _ (.head _)))))
  have h4 := Lib.laidMet.reads hL (n := "unicode/utf8.acceptRanges") (d := Lib.acceptData) (by rw [← accept_is]; exact .tail _ (.tail _ (.tail _ (.head _))))
  have h5 := Lib.laidMet.reads hL (n := "math/bits.deBruijn64tab") (d := Rows.laid_math_bits_deBruijn64tab) (.tail _ (.head _))
  exact ⟨utf8Tabs_of_reads Tryd.lays260 ⟨by kernel_rfl, by kernel_rfl, by kernel_rfl, by kernel_rfl, by kernel_rfl, by kernel_rfl, by kernel_rfl⟩ h3 h4, db_of h5⟩

/-- The cells of a flat array. -/
def flatV : DataW Unit → List Value
  | .agg l => l.filterMap fun
    | .lit (.int k n) => some (.int k n)
    | _ => none
  | _ => []
noncomputable def shWorld (os : Os) : World :=
  let w0 := laidWorld os
  let put (h : Array Obj) (g : Nat) (cs : Array Value) : Array Obj := h.modify g fun
    | .cells _ t frozen => .cells cs t frozen
    | o => o
  let h1 := put w0.heap 4 (flatV Rows.laid_math_bits_deBruijn32tab).toArray
  let h2 := put h1 5 (flatV Rows.laid_math_bits_deBruijn64tab).toArray
  let h3 := put h2 3 (flatV Rows.laid_internal_strconv_uint64pow10).toArray
  { w0 with heap := h3 }
theorem sh_met (os : Os) (args : Array Value) : laidMet Tryd.prog shlaid ((shWorld os).forCall (fun _ _ => 0) ⟨#[], args, []⟩).memory :=
  (LaidIn.of_run (l := shlaid) [4, 5, 3, 1, 0] 8 (by kernel_rfl) (by kernel_rfl) (by kernel_rfl) (by kernel_rfl)).met

/-- A look that came in. -/
def isStruct : Option TypeDesc → Bool
  | some (.struct _) => true
  | _ => false
theorem look_in {P : Program} {W : World} {r : Reach} {base : Nat} {t ti tb t8 : TypeId} {v : Value} (ht : isStruct (P.underlying t) = true) (hc : P.cellTypes P.depth t = some [ti, tb, t8, tb, tb]) (hn : P.cellsOf t = 5)
    (hi : P.underlying ti = some (.int .i64)) (hb : P.underlying tb = some .bool) (h8 : P.underlying t8 = some (.int .i8)) (hv : Value.okWide P W r base t v) : ∃ l : Lk, v = lkV l := by
  obtain ⟨fs, ht⟩ : ∃ fs, P.underlying t = some (.struct fs) := by
    unfold isStruct at ht
    split at ht
    · rename_i fs h; exact ⟨fs, h⟩
    · cases ht
  unfold Value.okWide at hv
  rw [ht] at hv
  obtain ⟨cs, rfl, hsz, ts, hts, _, hall⟩ := hv
  rw [hc] at hts
  cases hts
  rw [hn] at hsz
  have ok_i : ∀ {k : IntKind} {u : TypeId} {x : Value}, P.underlying u = some (.int k) → Cell.okWide P W r base u x → ∃ n, x = .int k n := by
    intro k u x hu h
    unfold Cell.okWide at h
    rw [hu] at h
    simp only [Cell.ok, hu] at h
    cases x <;> simp_all
  have ok_b : ∀ {u : TypeId} {x : Value}, P.underlying u = some .bool → Cell.okWide P W r base u x → ∃ n, x = .bool n := by
    intro u x hu h
    unfold Cell.okWide at h
    rw [hu] at h
    simp only [Cell.ok, hu] at h
    cases x <;> simp_all
  have at' : ∀ (j : Nat) (hj : j < cs.size) (u : TypeId), [ti, tb, t8, tb, tb][j % 5]? = some u → Cell.okWide P W r base u cs[j] := by
    intro j hj u hu
    obtain ⟨u', h1, h2⟩ := hall j cs[j] (Array.getElem?_eq_getElem hj)
    have h1 : [ti, tb, t8, tb, tb][j % 5]? = some u' := h1
    rw [hu] at h1
    cases h1
    exact h2
  obtain ⟨a, ha⟩ := ok_i hi (at' 0 (by omega) ti rfl)
  obtain ⟨b, hb1⟩ := ok_b hb (at' 1 (by omega) tb rfl)
  obtain ⟨c, hc2⟩ := ok_i h8 (at' 2 (by omega) t8 rfl)
  obtain ⟨d, hd3⟩ := ok_b hb (at' 3 (by omega) tb rfl)
  obtain ⟨e, he4⟩ := ok_b hb (at' 4 (by omega) tb rfl)
  refine ⟨⟨a, b, c, d, e⟩, ?_⟩
  unfold lkV
  congr 1
  apply Array.ext
  · rw [hsz]; rfl
  · intro i h1 h2
    have : i = 0 ∨ i = 1 ∨ i = 2 ∨ i = 3 ∨ i = 4 := by omega
    rcases this with rfl | rfl | rfl | rfl | rfl
    · exact ha
    · exact hb1
    · exact hc2
    · exact hd3
    · exact he4

end Go.Proofs.YthpjkgoahneldaaDoor
end
