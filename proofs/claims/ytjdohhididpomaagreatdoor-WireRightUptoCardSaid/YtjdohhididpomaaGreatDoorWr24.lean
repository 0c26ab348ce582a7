/-
  Texts joined by program: Lg, U8, U9, Ua.
-/
import Derived.Test.YtjdohhididpomaaGreatDoorWr23
import Derived.Test.YtjdohhididpomaaGreatDoorWr22
import Derived.Test.YtjdohhididpomaaGreatDoorWr09
import Derived.Deep.Slices
import Derived.ChangeSame
import Derived.Test.YtjdohhididpomaaGreatDoorRows
import Derived.Lib.LaidIn
import Derived.Lib.LaidU8
import Derived.Test.YtjdohhididpomaaGreatDoorWr10
import Derived.Lib.LaidTab
set_option linter.unusedVariables false
set_option linter.unusedSimpArgs false

namespace Go.Proofs.YtjdohhididpomaaGreatDoor
section
namespace Lg
open Go Go.RowKit Go.ChangeShapes Go.WideShapes Go.ChangeAt Vc Lw
theorem list_choose {α : Type} {R : Nat → α → Prop} : ∀ (n : Nat), (∀ i, i < n → ∃ q, R i q) → ∃ l : List α, l.length = n ∧ ∀ i q, l[i]? = some q → R i q
  | 0, _ => ⟨[], rfl, by simp⟩
  | n + 1, h => by
    obtain ⟨l, h1, h2⟩ := list_choose n (fun i hi => h i (by omega))
    obtain ⟨q, hq⟩ := h n (by omega)
    refine ⟨l ++ [q], by simp [h1], fun i x hx => ?_⟩
    by_cases hi : i < n
    · rw [List.getElem?_append_left (by omega)] at hx; exact h2 i x hx
    · rw [List.getElem?_append_right (by omega), h1] at hx
      have hz : i - n = 0 := by
        cases hk : i - n with
        | zero => rfl
        | succ k => rw [hk] at hx; simp at hx
      rw [hz] at hx
      simp only [List.getElem?_cons_zero, Option.some.injEq] at hx
      subst hx
      rw [show i = n from by omega]; exact hq
def kindIs (P : Program) (t : TypeId) (k : Nat) : Bool := match P.underlying t, k with
  | some .string, 0 => true
  | some (.int .i8), 1 => true
  | some (.int .i64), 2 => true
  | some .bool, 3 => true
  | some (.int .u16), 4 => true
  | _, _ => false
def partsAre (kd : TypeId → Nat → Bool) (P : Program) (e : TypeId) (ks : List Nat) : Bool := match P.underlying e with
  | some (.struct fs) => fs.size == ks.length && (List.range ks.length).all fun i => match fs[i]?, ks[i]? with
    | some f, some k => f.offset == i && (P.cellsOf f.type == 1 && kd f.type k)
    | _, _ => false
  | _ => false
def isCells (P : Program) (t : TypeId) : Bool := match P.underlying t with
  | some (.slice e) => P.cellsOf e == 6 && partsAre (kindIs P) P e [0, 1, 2, 2, 3, 4]
  | _ => false
def kindAt (P : Program) (t : TypeId) (k : Nat) : Bool := if k = 5 then isCells P t else kindIs P t k
def isGrid (P : Program) (e : TypeId) : Bool := P.cellsOf e == 5 && partsAre (kindAt P) P e [2, 2, 5, 2, 2]
theorem parts_of {kd : TypeId → Nat → Bool} {P : Program} {e : TypeId} {ks : List Nat} (h : partsAre kd P e ks = true) : ∃ fs, P.underlying e = some (.struct fs) ∧ fs.size = ks.length ∧ ∀ (i : Nat) (k : Nat), ks[i]? = some k → ∃ f, fs[i]? = some f ∧ f.offset = i ∧ P.cellsOf f.type = 1 ∧ kd f.type k = true := by
  unfold partsAre at h
  split at h
  case h_2 => cases h
  rename_i fs hu
  simp only [Bool.and_eq_true, beq_iff_eq] at h
  refine ⟨fs, hu, h.1, fun i k hk => ?_⟩
  have hi : i < ks.length := (List.getElem?_eq_some_iff.1 hk).1
  have := List.all_eq_true.1 h.2 i (List.mem_range.2 hi)
  rw [hk] at this
  split at this
  · rename_i f k' h1 h2
    cases h2
    simp only [Bool.and_eq_true, beq_iff_eq] at this
    exact ⟨f, h1, this.1, this.2.1, this.2.2⟩
  · cases this
section
variable {H : Type} {enc : TypeId × Value → H} {P : Program} {W : World} {base : Nat}
theorem spot_none {W : World} {b o : Nat} {sp : Option Nat} {v : Value} (h : W.cell? ⟨b, o, sp⟩ = some v) : sp = none := by
  cases sp with
  | none => rfl
  | some q =>
    simp only [World.cell?] at h
    split at h <;> simp at h
theorem bulk_list {α : Type} (f : Nat → DataW H) (g : α → Nat) : ∀ (l : List α), (∀ i (x : α), l[i]? = some x → g x ≤ Rows.uptoBulk (f i)) → (l.map g).sum ≤ Rows.uptoBulkAll ((List.range l.length).map f) := by
  intro l
  induction l generalizing f with
  | nil => intro _; exact Nat.zero_le _
  | cons x l ih =>
    intro h
    have h1 := ih (fun i => f (i + 1)) (fun i y hy => h (i + 1) y (by simpa using hy))
    have h0 := h 0 x rfl
    rw [List.length_cons, List.range_succ_eq_map, List.map_cons, List.map_cons, List.map_map, List.sum_cons]
    show g x + _ ≤ Rows.uptoBulk (f 0) + Rows.uptoBulkAll ((List.range l.length).map (f ∘ Nat.succ))
    exact Nat.add_le_add h0 h1
theorem rows_in {α : Type} {f : α → List Value} {s : Nat} {Good : α → Prop} {g : α → Nat} {fuel : Nat} {t e : TypeId} {vs : List Value} {x : DataW H × List MemPlace} (ht : P.underlying t = some (.slice e)) (ce : P.cellsOf e = s) (hs : 0 < s) (hf : ∀ q, (f q).length = s)
    (elem : ∀ n cs y, DataW.trod enc P W base (fun _ => true) true n e cs = some y → ∃ q, cs = f q ∧ Good q ∧ g q ≤ Rows.uptoBulk y.1)
    (h : DataW.trod enc P W base (fun _ => true) true fuel t vs = some x) : ∃ (ad : Option Addr) (c : Nat) (l : List α), vs = [.slice ad l.length c] ∧ CellsAt W ad (l.flatMap f) ∧ (∀ q ∈ l, Good q) ∧ (l.map g).sum ≤ Rows.uptoBulk x.1 := by
  rcases Go.Deep.open_slice ht h with ⟨h1, h2⟩ | ⟨a, len, cap, m, n, D, Pl, h1, h2, h3, h4, h5, h6, h7⟩
  · exact ⟨none, 0, [], h1, CellsAt.nil _ _, fun q hq => (by cases hq), Nat.zero_le _⟩
  · simp only [if_true] at h5
    obtain ⟨l, hl, hR⟩ := list_choose (R := fun i (q : α) => (∀ j, j < s → W.cell? (a.add (i * s + j)) = (f q)[j]?) ∧ Good q ∧ g q ≤ Rows.uptoBulk (D i)) len (fun i hi => by
      obtain ⟨cs', k1, k2⟩ := h7 i (by omega)
      rw [ce] at k1
      obtain ⟨_, _, hcell⟩ := World.cells?_some k1
      obtain ⟨q, e1, e2, e3⟩ := elem _ _ _ k2
      subst e1
      exact ⟨q, fun j hj => by rw [← Go.Deep.add_add]; exact hcell j hj, e2, e3⟩)
    refine ⟨some a, cap, l, by rw [h1, hl], ?_, fun x hx => ?_, ?_⟩
    · by_cases hz : len = 0
      · left
        have : l = [] := List.eq_nil_of_length_eq_zero (by omega)
        rw [this]; rfl
      · have hq0 : l[0]? = some (l[0]'(by omega)) := List.getElem?_eq_getElem (by omega)
        have h0 := (hR 0 _ hq0).1 0 hs
        obtain ⟨b, o, sp⟩ := a
        have hsome : ∃ v, (f (l[0]'(by omega)))[0]? = some v := ⟨_, List.getElem?_eq_getElem (by rw [hf]; exact hs)⟩
        obtain ⟨v, hv⟩ := hsome
        rw [hv] at h0
        have hsp : sp = none := spot_none (b := b) (o := o + (0 * s + 0)) (by rw [← h0]; congr 1; unfold Addr.add; simp)
        subst hsp
        refine .inr ⟨b, o, rfl, fun j u hj => ?_⟩
        have hj1 := (List.getElem?_eq_some_iff.1 hj).1
        rw [flat_len' hf, hl] at hj1
        have hdm := Nat.div_add_mod j s
        have hlt : j / s < l.length := by rw [hl]; exact Nat.div_lt_of_lt_mul (by rw [Nat.mul_comm]; exact hj1)
        have hq : l[j / s]? = some (l[j / s]'hlt) := List.getElem?_eq_getElem hlt
        have hat := flat_at (j := j % s) hf hq (Nat.mod_lt _ hs)
        have he : j / s * s + j % s = j := by rw [Nat.mul_comm]; exact hdm
        rw [he, hj] at hat
        have := (hR _ _ hq).1 (j % s) (Nat.mod_lt _ hs)
        rw [he, ← hat, add_lit] at this
        exact this
    · obtain ⟨i, hi⟩ := List.mem_iff_getElem?.1 hx
      exact (hR i x hi).2.1
    · rw [h6]
      simp only [Rows.uptoBulk]
      have := bulk_list D g l (fun i x hx => (hR i x hx).2.2)
      rw [hl] at this
      omega
theorem parts_in {kd : TypeId → Nat → Bool} {e : TypeId} {ks : List Nat} {fuel : Nat} {cs : List Value} {y : DataW H × List MemPlace} (hp : partsAre kd P e ks = true) (hc : P.cellsOf e = ks.length) (h : DataW.trod enc P W base (fun _ => true) true fuel e cs = some y) :
    ∃ (xs : List (DataW H × List MemPlace)), y.1 = .agg (xs.map (·.1)) ∧ cs.length = ks.length ∧ xs.length = ks.length ∧
      ∀ (i : Nat) k v x, ks[i]? = some k → cs[i]? = some v → xs[i]? = some x → ∃ n f, kd f k = true ∧ DataW.trod enc P W base (fun _ => true) true n f [v] = some x := by
  obtain ⟨fs, hu, hn, hf⟩ := parts_of hp
  obtain ⟨xs, n, _, h1, h2, h3, h4⟩ := DataW.trod_struct hu h
  refine ⟨xs, by rw [h1], by omega, by omega, fun i k v x hk hv hx => ?_⟩
  obtain ⟨f, g1, g2, g3, g4⟩ := hf i k hk
  have := h4 i f g1
  rw [g2, g3, hx] at this
  have hil := (List.getElem?_eq_some_iff.1 hv).1
  rw [List.drop_eq_getElem_cons hil, show (cs[i] :: cs.drop (i + 1)).take 1 = [cs[i]] from rfl] at this
  rw [List.getElem?_eq_getElem hil] at hv
  cases hv
  exact ⟨n, f.type, g4, this⟩
theorem kd_str {t : TypeId} (h : kindIs P t 0 = true) : P.underlying t = some .string := by unfold kindIs at h; split at h <;> simp_all
theorem kd_i8 {t : TypeId} (h : kindIs P t 1 = true) : P.underlying t = some (.int .i8) := by unfold kindIs at h; split at h <;> simp_all
theorem kd_int {t : TypeId} (h : kindIs P t 2 = true) : P.underlying t = some (.int .i64) := by unfold kindIs at h; split at h <;> simp_all
theorem kd_bool {t : TypeId} (h : kindIs P t 3 = true) : P.underlying t = some .bool := by unfold kindIs at h; split at h <;> simp_all
theorem kd_u16 {t : TypeId} (h : kindIs P t 4 = true) : P.underlying t = some (.int .u16) := by unfold kindIs at h; split at h <;> simp_all
theorem cell_elem {e : TypeId} {fuel : Nat} {cs : List Value} {y : DataW H × List MemPlace} (hp : partsAre (kindIs P) P e [0, 1, 2, 2, 3, 4] = true) (hc : P.cellsOf e = 6) (h : DataW.trod enc P W base (fun _ => true) true fuel e cs = some y) :
    ∃ q : Ce, cs = ceV q ∧ q.st < 65536 ∧ 2 + q.t.size ≤ Rows.uptoBulk y.1 := by
  obtain ⟨xs, h1, h2, h3, h4⟩ := parts_in hp hc h
  match cs, h2, xs, h3 with
  | [v0, v1, v2, v3, v4, v5], _, [x0, x1, x2, x3, x4, x5], _ =>
    obtain ⟨n0, f0, k0, r0⟩ := h4 0 _ _ _ rfl rfl rfl
    obtain ⟨n1, f1, k1, r1⟩ := h4 1 _ _ _ rfl rfl rfl
    obtain ⟨n2, f2, k2, r2⟩ := h4 2 _ _ _ rfl rfl rfl
    obtain ⟨n3, f3, k3, r3⟩ := h4 3 _ _ _ rfl rfl rfl
    obtain ⟨n4, f4, k4, r4⟩ := h4 4 _ _ _ rfl rfl rfl
    obtain ⟨n5, f5, k5, r5⟩ := h4 5 _ _ _ rfl rfl rfl
    obtain ⟨s, e0, d0, -⟩ := DataW.trod_string (kd_str k0) r0
    obtain ⟨p, e1, -, -⟩ := DataW.trod_int (kd_i8 k1) r1
    obtain ⟨a, e2, -, -⟩ := DataW.trod_int (kd_int k2) r2
    obtain ⟨nn, e3, -, -⟩ := DataW.trod_int (kd_int k3) r3
    obtain ⟨r, e4, -⟩ := DataW.trod_bool (kd_bool k4) r4
    obtain ⟨st, e5, -, w5⟩ := DataW.trod_int (kd_u16 k5) r5
    injection e0 with e0 _; injection e1 with e1 _; injection e2 with e2 _; injection e3 with e3 _; injection e4 with e4 _; injection e5 with e5 _
    subst e0 e1 e2 e3 e4 e5
    have hw : 0 ≤ st ∧ st < 65536 := by
      simp only [Lit.wf, IntKind.min, IntKind.max, IntKind.signed, IntKind.bits, Bool.and_eq_true] at w5
      revert w5
      simp
      omega
    refine ⟨⟨s, p, a, nn, r, st.toNat⟩, ?_, by show st.toNat < 65536; omega, ?_⟩
    · show _ = [_, _, _, _, _, Value.int .u16 ((st.toNat : Nat) : Int)]
      rw [Int.toNat_of_nonneg hw.1]
    · have hs : s.data.toList.length = s.size := Array.length_toList
      rw [h1]
      simp only [List.map_cons, List.map_nil, Rows.uptoBulk, Rows.uptoBulkAll, d0]
      show 2 + s.size ≤ _
      omega
theorem bulk_len (l : List Ce) : (l.map fun c => 2 + c.t.size).sum = bulkC l + l.length := by
  induction l with
  | nil => rfl
  | cons c l ih =>
    unfold bulkC at ih ⊢
    simp only [List.map_cons, List.sum_cons, List.length_cons, ih]
    omega
theorem grid_elem {e : TypeId} {fuel : Nat} {cs : List Value} {y : DataW H × List MemPlace} (hg : isGrid P e = true) (h : DataW.trod enc P W base (fun _ => true) true fuel e cs = some y) :
    ∃ E : GrE, cs = grV E ∧ (CellsAt W E.ad (flat E.g.cs) ∧ ∀ c ∈ E.g.cs, c.st < 65536) ∧ bulkC E.g.cs + E.g.cs.length ≤ Rows.uptoBulk y.1 := by
  unfold isGrid at hg
  simp only [Bool.and_eq_true, beq_iff_eq] at hg
  obtain ⟨xs, h1, h2, h3, h4⟩ := parts_in hg.2 hg.1 h
  match cs, h2, xs, h3 with
  | [v0, v1, v2, v3, v4], _, [x0, x1, x2, x3, x4], _ =>
    obtain ⟨n0, f0, k0, r0⟩ := h4 0 _ _ _ rfl rfl rfl
    obtain ⟨n1, f1, k1, r1⟩ := h4 1 _ _ _ rfl rfl rfl
    obtain ⟨n2, f2, k2, r2⟩ := h4 2 _ _ _ rfl rfl rfl
    obtain ⟨n3, f3, k3, r3⟩ := h4 3 _ _ _ rfl rfl rfl
    obtain ⟨n4, f4, k4, r4⟩ := h4 4 _ _ _ rfl rfl rfl
    obtain ⟨a0, e0, -, -⟩ := DataW.trod_int (kd_int k0) r0
    obtain ⟨a1, e1, -, -⟩ := DataW.trod_int (kd_int k1) r1
    obtain ⟨a3, e3, -, -⟩ := DataW.trod_int (kd_int k3) r3
    obtain ⟨a4, e4, -, -⟩ := DataW.trod_int (kd_int k4) r4
    have k2 : isCells P f2 = true := k2
    unfold isCells at k2
    split at k2
    case h_2 => cases k2
    rename_i ec hu
    simp only [Bool.and_eq_true, beq_iff_eq] at k2
    obtain ⟨ad, c, l, e2, g1, g2, g3⟩ := rows_in (f := ceV) (s := 6) (Good := fun q : Ce => q.st < 65536) (g := fun q : Ce => 2 + q.t.size) hu k2.1 (by decide) (fun _ => rfl) (fun n cs y hy => cell_elem k2.2 k2.1 hy) r2
    rw [bulk_len] at g3
    injection e0 with e0 _; injection e1 with e1 _; injection e2 with e2 _; injection e3 with e3 _; injection e4 with e4 _
    subst e0 e1 e2 e3 e4
    refine ⟨⟨ad, c, ⟨a0, a1, l, a3, a4⟩⟩, rfl, ⟨g1, g2⟩, ?_⟩
    rw [h1]
    simp only [List.map_cons, List.map_nil, Rows.uptoBulk, Rows.uptoBulkAll]
    show bulkC l + l.length ≤ _
    omega
theorem grid_in {b0 : Nat} {t : TypeId} {v : Value} {d : DataW H} {p : List MemPlace} (hg : isGrid P t = true)
    (hval : Value.okWide P W .any b0 t v) (h : DataW.Trod enc P W base (fun _ => true) true t v d p) (hb : Rows.uptoBulk d ≤ 1048576) :
    ∃ (ad : Option Addr) (c : Nat) (g : Gr), v = grA ad c g ∧ CellsAt W ad (flat g.cs) ∧ bulkC g.cs ≤ 1048576 := by
  obtain ⟨fuel, hf⟩ := h
  obtain ⟨E, e1, ⟨e2, -⟩, e3⟩ := grid_elem hg hf
  have hs : ∃ fs, P.underlying t = some (.struct fs) := by
    unfold isGrid at hg
    simp only [Bool.and_eq_true, beq_iff_eq] at hg
    obtain ⟨fs, hu, _⟩ := parts_of hg.2
    exact ⟨fs, hu⟩
  obtain ⟨fs, ht⟩ := hs
  unfold Value.okWide at hval
  rw [ht] at hval
  obtain ⟨cs, rfl, _⟩ := hval
  refine ⟨E.ad, E.c, E.g, ?_, e2, by dsimp only at e3; omega⟩
  have e1 : cs.toList = grV E := e1
  show Value.agg cs = Value.agg (grV E).toArray
  rw [← e1]
end
end Lg
end

section
open Go Go.Shelf Go.RowKit Go.Lib
theorem first_is : Rows.laid_unicode_utf8_first = Lib.firstData := by kernel_rfl
theorem accept_is : (Rows.laid_unicode_utf8_acceptRanges : DataW Unit) = Lib.acceptData := by kernel_rfl
noncomputable def laidWorld (os : Os) : World :=
  let w0 := World.holding Tryz.prog os ⟨#[], #[], []⟩
  let put (h : Array Obj) (g : Nat) (cs : Array Value) : Array Obj := h.modify g fun
    | .cells _ t frozen => .cells cs t frozen
    | o => o
  let h1 := put w0.heap 0 (Lib.firstTab.map fun z => Value.int .u8 z).toArray
  let h2 := put h1 1 ((List.range 16).flatMap fun i => [Value.int .u8 (Lib.accLo i), Value.int .u8 (Lib.accHi i)]).toArray
  { w0 with heap := h2 }
end

section
open Go Go.Shelf Go.RowKit Go.Lib
def shlaid : List (String × DataW Unit) := [("math/bits.deBruijn32tab", Rows.laid_math_bits_deBruijn32tab), ("math/bits.deBruijn64tab", Rows.laid_math_bits_deBruijn64tab), ("internal/strconv.uint64pow10", Rows.laid_internal_strconv_uint64pow10), ("unicode/utf8.acceptRanges", Rows.laid_unicode_utf8_acceptRanges), ("unicode/utf8.first", Rows.laid_unicode_utf8_first)]
set_option maxRecDepth 100000 in
theorem db_of {W : World} (h : VarReads Tryz.prog W "math/bits.deBruijn64tab" Rows.laid_math_bits_deBruijn64tab) : DB W := by
  obtain ⟨g, t, cs, fuel, p, hg, hty, hvar, hd⟩ := h
  obtain rfl := Option.some.inj ((show Tryz.prog.globalNamed "math/bits.deBruijn64tab" = some 5 by kernel_rfl).symm.trans hg)
  obtain rfl := Option.some.inj ((show (Tryz.prog.globals[5]?).map (·.type) = some 192 by kernel_rfl).symm.trans hty)
  obtain ⟨fuel', d, q, hdi, he⟩ := array_elem (n := 64) (e := 5) (by kernel_rfl) hd 15 (by decide)
  obtain ⟨z, hz, hx, _⟩ := DataW.trod_int (k := .u8) (by kernel_rfl) he
  have hd4 : d = .lit (.int .u8 4) := by
    have : (some d : Option (DataW Unit)) = some (.lit (.int .u8 4)) := hdi.symm.trans (by kernel_rfl)
    exact Option.some.inj this
  have hz4 : z = 4 := by
    have := congrArg (fun x => x.1) hx
    rw [hd4] at this
    injection this with h1
    injection h1 with _ h2
    exact h2.symm
  subst hz4
  show W.cell? _ = _
  rw [World.var?_cell hg hvar 15, ← Array.getElem?_toList]
  have := congrArg (·[0]?) hz
  rw [show Tryz.prog.cellsOf 5 = 1 from by kernel_rfl] at this
  simpa [List.getElem?_take, List.getElem?_drop] using this
theorem ud_of {W : World} (hL : laidMet Tryz.prog shlaid W) : U8 W ∧ DB W := by
  have h3 := Lib.laidMet.reads hL (n := "unicode/utf8.first") (d := Lib.firstData) (by rw [← first_is]; exact .tail _ (.tail _ (.tail _ (.tail _ (.head _)))))
  have h4 := Lib.laidMet.reads hL (n := "unicode/utf8.acceptRanges") (d := Lib.acceptData) (by rw [← accept_is]; exact .tail _ (.tail _ (.tail _ (.head _))))
  have h5 := Lib.laidMet.reads hL (n := "math/bits.deBruijn64tab") (d := Rows.laid_math_bits_deBruijn64tab) (.tail _ (.head _))
  exact ⟨utf8Tabs_of_reads Tryz.lays260 ⟨by kernel_rfl, by kernel_rfl, by kernel_rfl, by kernel_rfl, by kernel_rfl, by kernel_rfl, by kernel_rfl⟩ h3 h4, db_of h5⟩
def flatV : DataW Unit → List Value
  | .agg l => l.filterMap fun
    | .lit (.int k n) => some (.int k n)
    | _ => none
  | _ => []
noncomputable def shWorld (os : Os) : World :=
  let w0 := laidWorld os
  let put (h : Array Obj) (g : Nat) (cs : Array Value) : Array Obj := h.modify g fun
    | .cells _ t frozen => .cells cs t frozen
    | o => o
  let h1 := put w0.heap 4 (flatV Rows.laid_math_bits_deBruijn32tab).toArray
  let h2 := put h1 5 (flatV Rows.laid_math_bits_deBruijn64tab).toArray
  let h3 := put h2 2 (flatV Rows.laid_internal_strconv_uint64pow10).toArray
  { w0 with heap := h3 }
theorem sh_met (os : Os) (args : Array Value) : laidMet Tryz.prog shlaid ((shWorld os).forCall (fun _ _ => 0) ⟨#[], args, []⟩).memory :=
  (LaidIn.of_run (l := shlaid) [4, 5, 2, 1, 0] 8 (by kernel_rfl) (by kernel_rfl) (by kernel_rfl) (by kernel_rfl)).met
end

section
open Go Go.Shelf Go.RowKit Go.Lib
theorem pow_is : (Rows.laid_internal_strconv_uint64pow10 : DataW Unit) = Lib.tabData .u64 Lib.pow10Tab := by kernel_rfl
set_option maxRecDepth 100000 in
theorem tab_of {W : World} (h : VarReads Tryz.prog W "internal/strconv.uint64pow10" Rows.laid_internal_strconv_uint64pow10) : Lib.TabIs Tryz.prog W "internal/strconv.uint64pow10" .u64 Lib.pow10Tab := by
  obtain ⟨g, t, cs, fuel, p, hg, hty, hvar, hd⟩ := h
  obtain rfl := Option.some.inj ((show Tryz.prog.globalNamed "internal/strconv.uint64pow10" = some 2 by kernel_rfl).symm.trans hg)
  obtain rfl := Option.some.inj ((show (Tryz.prog.globals[2]?).map (·.type) = some 183 by kernel_rfl).symm.trans hty)
  rw [pow_is] at hd
  have := Lib.cells_of_tab (n := 20) (e := 143) (k := .u64) (zs := Lib.pow10Tab) (by kernel_rfl) (by kernel_rfl) (by kernel_rfl) (by kernel_rfl) hd
  unfold Lib.TabIs
  rw [hvar, ← this]
theorem up_of {W : World} (hL : laidMet Tryz.prog shlaid W) : UP W := by
  have hud : UD W := ud_of hL
  have h6 := Lib.laidMet.reads hL (n := "internal/strconv.uint64pow10") (d := Rows.laid_internal_strconv_uint64pow10) (.tail _ (.tail _ (.head _)))
  exact ⟨fun w' h' => UD.ext hud h', Lib.tabBelow_of_tabIs (tab_of h6)⟩
end
end Go.Proofs.YtjdohhididpomaaGreatDoor
