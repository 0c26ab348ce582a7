/-
  Texts joined by program: U9, Ua.
-/
import Derived.Test.YtjdohhididpomaaDoorWt23
import Derived.Test.YtjdohhididpomaaDoorWt10
import Derived.Test.YtjdohhididpomaaDoorWt22
import Derived.Lib.LaidTab
set_option linter.unusedVariables false
set_option linter.unusedSimpArgs false

section
namespace Go.Proofs.YtjdohhididpomaaDoor
open Go Go.Shelf Go.RowKit Go.Lib
def shlaid : List (String × DataW Unit) := [("math/bits.deBruijn32tab", Rows.laid_math_bits_deBruijn32tab), ("math/bits.deBruijn64tab", Rows.laid_math_bits_deBruijn64tab), ("internal/strconv.uint64pow10", Rows.laid_internal_strconv_uint64pow10), ("unicode/utf8.acceptRanges", Rows.laid_unicode_utf8_acceptRanges), ("unicode/utf8.first", Rows.laid_unicode_utf8_first)]
set_option maxRecDepth 100000 in
theorem db_of {W : World} (h : VarReads Tryd.prog W "math/bits.deBruijn64tab" Rows.laid_math_bits_deBruijn64tab) : DB W := by
  obtain ⟨g, t, cs, fuel, p, hg, hty, hvar, hd⟩ := h
  obtain rfl := Option.some.inj ((show Tryd.prog.globalNamed "math/bits.deBruijn64tab" = some 5 by kernel_rfl).symm.trans hg)
  obtain rfl := Option.some.inj ((show (Tryd.prog.globals[5]?).map (·.type) = some 153 by kernel_rfl).symm.trans hty)
  obtain ⟨fuel', d, q, hdi, he⟩ := array_elem (n := 64) (e := 5) (by kernel_rfl) hd 15 (by decide)
  obtain ⟨z, hz, hx, _⟩ := DataW.trod_int (k := .u8) (by kernel_rfl) he
  have hd4 : d = .lit (.int .u8 4) := by
    have : (some d : Option (DataW Unit)) = some (.lit (.int .u8 4)) := hdi.symm.trans (by kernel_rfl)
    exact Option.some.inj this
  have hz4 : z = 4 := by
    have := congrArg (fun x => x.1) hx
    rw [hd4] at this
    injection this with h1
    injection h1 with _ h2
    exact h2.symm
  subst hz4
  show W.cell? _ = _
  rw [World.var?_cell hg hvar 15, ← Array.getElem?_toList]
  have := congrArg (·[0]?) hz
  rw [show Tryd.prog.cellsOf 5 = 1 from by kernel_rfl] at this
  simpa [List.getElem?_take, List.getElem?_drop] using this
theorem ud_of {W : World} (hL : laidMet Tryd.prog shlaid W) : U8 W ∧ DB W := by
  have h3 := Lib.laidMet.reads hL (n := "unicode/utf8.first") (d := Lib.firstData) (by rw [← first_is]; exact .tail _ (.tail _ (.tail _ (.tail _ (.head _)))))
  have h4 := Lib.laidMet.reads hL (n := "unicode/utf8.acceptRanges") (d := Lib.acceptData) (by rw [← accept_is]; exact .tail _ (.tail _ (.tail _ (.head _))))
  have h5 := Lib.laidMet.reads hL (n := "math/bits.deBruijn64tab") (d := Rows.laid_math_bits_deBruijn64tab) (.tail _ (.head _))
  exact ⟨utf8Tabs_of_reads Tryd.lays260 ⟨by kernel_rfl, by kernel_rfl, by kernel_rfl, by kernel_rfl, by kernel_rfl, by kernel_rfl, by kernel_rfl⟩ h3 h4, db_of h5⟩
def flatV : DataW Unit → List Value
  | .agg l => l.filterMap fun
    | .lit (.int k n) => some (.int k n)
    | _ => none
  | _ => []
noncomputable def shWorld (os : Os) : World :=
  let w0 := laidWorld os
  let put (h : Array Obj) (g : Nat) (cs : Array Value) : Array Obj := h.modify g fun
    | .cells _ t frozen => .cells cs t frozen
    | o => o
  let h1 := put w0.heap 4 (flatV Rows.laid_math_bits_deBruijn32tab).toArray
  let h2 := put h1 5 (flatV Rows.laid_math_bits_deBruijn64tab).toArray
  let h3 := put h2 2 (flatV Rows.laid_internal_strconv_uint64pow10).toArray
  { w0 with heap := h3 }
theorem sh_met (os : Os) (args : Array Value) : laidMet Tryd.prog shlaid ((shWorld os).forCall (fun _ _ => 0) ⟨#[], args, []⟩).memory :=
  (LaidIn.of_run (l := shlaid) [4, 5, 2, 1, 0] 8 (by kernel_rfl) (by kernel_rfl) (by kernel_rfl) (by kernel_rfl)).met
def isStruct : Option TypeDesc → Bool
  | some (.struct _) => true
  | _ => false
theorem look_in {P : Program} {W : World} {r : Reach} {base : Nat} {t ti tb t8 : TypeId} {v : Value} (ht : isStruct (P.underlying t) = true) (hc : P.cellTypes P.depth t = some [ti, tb, t8, tb, tb]) (hn : P.cellsOf t = 5)
    (hi : P.underlying ti = some (.int .i64)) (hb : P.underlying tb = some .bool) (h8 : P.underlying t8 = some (.int .i8)) (hv : Value.okWide P W r base t v) : ∃ l : Lk, v = lkV l := by
  obtain ⟨fs, ht⟩ : ∃ fs, P.underlying t = some (.struct fs) := by
    unfold isStruct at ht
    split at ht
    · rename_i fs h; exact ⟨fs, h⟩
    · cases ht
  unfold Value.okWide at hv
  rw [ht] at hv
  obtain ⟨cs, rfl, hsz, ts, hts, _, hall⟩ := hv
  rw [hc] at hts
  cases hts
  rw [hn] at hsz
  have ok_i : ∀ {k : IntKind} {u : TypeId} {x : Value}, P.underlying u = some (.int k) → Cell.okWide P W r base u x → ∃ n, x = .int k n := by
    intro k u x hu h
    unfold Cell.okWide at h
    rw [hu] at h
    simp only [Cell.ok, hu] at h
    cases x <;> simp_all
  have ok_b : ∀ {u : TypeId} {x : Value}, P.underlying u = some .bool → Cell.okWide P W r base u x → ∃ n, x = .bool n := by
    intro u x hu h
    unfold Cell.okWide at h
    rw [hu] at h
    simp only [Cell.ok, hu] at h
    cases x <;> simp_all
  have at' : ∀ (j : Nat) (hj : j < cs.size) (u : TypeId), [ti, tb, t8, tb, tb][j % 5]? = some u → Cell.okWide P W r base u cs[j] := by
    intro j hj u hu
    obtain ⟨u', h1, h2⟩ := hall j cs[j] (Array.getElem?_eq_getElem hj)
    have h1 : [ti, tb, t8, tb, tb][j % 5]? = some u' := h1
    rw [hu] at h1
    cases h1
    exact h2
  obtain ⟨a, ha⟩ := ok_i hi (at' 0 (by omega) ti rfl)
  obtain ⟨b, hb1⟩ := ok_b hb (at' 1 (by omega) tb rfl)
  obtain ⟨c, hc2⟩ := ok_i h8 (at' 2 (by omega) t8 rfl)
  obtain ⟨d, hd3⟩ := ok_b hb (at' 3 (by omega) tb rfl)
  obtain ⟨e, he4⟩ := ok_b hb (at' 4 (by omega) tb rfl)
  refine ⟨⟨a, b, c, d, e⟩, ?_⟩
  unfold lkV
  congr 1
  apply Array.ext
  · rw [hsz]; rfl
  · intro i h1 h2
    have : i = 0 ∨ i = 1 ∨ i = 2 ∨ i = 3 ∨ i = 4 := by omega
    rcases this with rfl | rfl | rfl | rfl | rfl
    · exact ha
    · exact hb1
    · exact hc2
    · exact hd3
    · exact he4
end Go.Proofs.YtjdohhididpomaaDoor
end

section
namespace Go.Proofs.YtjdohhididpomaaDoor
open Go Go.Shelf Go.RowKit Go.Lib
theorem pow_is : (Rows.laid_internal_strconv_uint64pow10 : DataW Unit) = Lib.tabData .u64 Lib.pow10Tab := by kernel_rfl
set_option maxRecDepth 100000 in
theorem tab_of {W : World} (h : VarReads Tryd.prog W "internal/strconv.uint64pow10" Rows.laid_internal_strconv_uint64pow10) : Lib.TabIs Tryd.prog W "internal/strconv.uint64pow10" .u64 Lib.pow10Tab := by
  obtain ⟨g, t, cs, fuel, p, hg, hty, hvar, hd⟩ := h
  obtain rfl := Option.some.inj ((show Tryd.prog.globalNamed "internal/strconv.uint64pow10" = some 2 by kernel_rfl).symm.trans hg)
  obtain rfl := Option.some.inj ((show (Tryd.prog.globals[2]?).map (·.type) = some 144 by kernel_rfl).symm.trans hty)
  rw [pow_is] at hd
  have := Lib.cells_of_tab (n := 20) (e := 108) (k := .u64) (zs := Lib.pow10Tab) (by kernel_rfl) (by kernel_rfl) (by kernel_rfl) (by kernel_rfl) hd
  unfold Lib.TabIs
  rw [hvar, ← this]
theorem up_of {W : World} (hL : laidMet Tryd.prog shlaid W) : UP W := by
  have hud : UD W := ud_of hL
  have h6 := Lib.laidMet.reads hL (n := "internal/strconv.uint64pow10") (d := Rows.laid_internal_strconv_uint64pow10) (.tail _ (.tail _ (.head _)))
  exact ⟨fun w' h' => UD.ext hud h', Lib.tabBelow_of_tabIs (tab_of h6)⟩
end Go.Proofs.YtjdohhididpomaaDoor
end
