/-
  Texts joined by program: Ua, Lz.
-/
import Derived.Test.YtjdohhididpomaaDoorWa23
import Derived.Test.YtjdohhididpomaaDoorWa22
import Derived.Lib.LaidTab
import Derived.Test.YtjdohhididpomaaDoorWa09
import Derived.Deep.Slices
set_option linter.unusedVariables false
set_option linter.unusedSimpArgs false

section
namespace Go.Proofs.YtjdohhididpomaaDoor
open Go Go.Shelf Go.RowKit Go.Lib
theorem pow_is : (Rows.laid_internal_strconv_uint64pow10 : DataW Unit) = Lib.tabData .u64 Lib.pow10Tab := by kernel_rfl
set_option maxRecDepth 100000 in
theorem tab_of {W : World} (h : VarReads Tryd.prog W "internal/strconv.uint64pow10" Rows.laid_internal_strconv_uint64pow10) : Lib.TabIs Tryd.prog W "internal/strconv.uint64pow10" .u64 Lib.pow10Tab := by
  obtain ⟨g, t, cs, fuel, p, hg, hty, hvar, hd⟩ := h
  obtain rfl := Option.some.inj ((show Tryd.prog.globalNamed "internal/strconv.uint64pow10" = some 2 by kernel_rfl).symm.trans hg)
  obtain rfl := Option.some.inj ((show (Tryd.prog.globals[2]?).map (·.type) = some 144 by kernel_rfl).symm.trans hty)
  rw [pow_is] at hd
  have := Lib.cells_of_tab (n := 20) (e := 108) (k := .u64) (zs := Lib.pow10Tab) (by kernel_rfl) (by kernel_rfl) (by kernel_rfl) (by kernel_rfl) hd
  unfold Lib.TabIs
  rw [hvar, ← this]
theorem up_of {W : World} (hL : laidMet Tryd.prog shlaid W) : UP W := by
  have hud : UD W := ud_of hL
  have h6 := Lib.laidMet.reads hL (n := "internal/strconv.uint64pow10") (d := Rows.laid_internal_strconv_uint64pow10) (.tail _ (.tail _ (.head _)))
  exact ⟨fun w' h' => UD.ext hud h', Lib.tabBelow_of_tabIs (tab_of h6)⟩
end Go.Proofs.YtjdohhididpomaaDoor
end

section
namespace Go.Proofs.YtjdohhididpomaaDoor.Lw
open Go Go.RowKit Go.ChangeShapes Go.WideShapes Go.ChangeAt Vc
theorem list_choose {α : Type} {R : Nat → α → Prop} : ∀ (n : Nat), (∀ i, i < n → ∃ q, R i q) → ∃ l : List α, l.length = n ∧ ∀ i q, l[i]? = some q → R i q
  | 0, _ => ⟨[], rfl, by simp⟩
  | n + 1, h => by
    obtain ⟨l, h1, h2⟩ := list_choose n (fun i hi => h i (by omega))
    obtain ⟨q, hq⟩ := h n (by omega)
    refine ⟨l ++ [q], by simp [h1], fun i x hx => ?_⟩
    by_cases hi : i < n
    · rw [List.getElem?_append_left (by omega)] at hx; exact h2 i x hx
    · rw [List.getElem?_append_right (by omega), h1] at hx
      have hz : i - n = 0 := by
        cases hk : i - n with
        | zero => rfl
        | succ k => rw [hk] at hx; simp at hx
      rw [hz] at hx
      simp only [List.getElem?_cons_zero, Option.some.injEq] at hx
      subst hx
      rw [show i = n from by omega]; exact hq
section
variable {H : Type} {enc : TypeId × Value → H} {P : Program}
theorem spot_none {W : World} {b o : Nat} {sp : Option Nat} {v : Value} (h : W.cell? ⟨b, o, sp⟩ = some v) : sp = none := by
  cases sp with
  | none => rfl
  | some q =>
    simp only [World.cell?] at h
    split at h <;> simp at h
theorem bytes_cell {W : World} {base : Nat} {t e : TypeId} {fuel : Nat} {v : Value} {x : DataW H × List MemPlace} (ht : P.underlying t = some (.slice e)) (he : P.underlying e = some (.int .u8)) (hc : P.cellsOf e = 1)
    (h : DataW.trod enc P W base (fun _ => true) true fuel t [v] = some x) : ∃ (ad : Option Addr) (c : Nat) (s : ByteArray), v = .slice ad s.size c ∧ CellsAt W ad (s.data.toList.map fun b => Value.int .u8 (b.toNat : Int)) ∧ 1 + s.size ≤ Rows.uptoBulk x.1 := by
  rcases open_ints ht he hc h with ⟨h1, h2⟩ | ⟨a, len, cap, zs, h1, h2, h3, h4, h5, h6, h7, h8⟩
  · refine ⟨none, 0, ⟨#[]⟩, ?_, CellsAt.nil _ _, ?_⟩
    · injection h1
    · rw [h2]; exact Nat.le_refl 1
  · injection h1 with h1 _
    subst h1
    simp only [if_true] at h5
    have hlen : (zs.take len).length = len := by rw [List.length_take]; omega
    have hs : (⟨((zs.take len).map fun x => UInt8.ofNat x.toNat).toArray⟩ : ByteArray).size = len := by
      show (((zs.take len).map fun x => UInt8.ofNat x.toNat).toArray).size = _
      simp; omega
    refine ⟨some a, cap, ⟨((zs.take len).map fun x => UInt8.ofNat x.toNat).toArray⟩, by rw [hs], ?_, ?_⟩
    · have e1 : ((⟨((zs.take len).map fun x => UInt8.ofNat x.toNat).toArray⟩ : ByteArray).data.toList.map fun b => Value.int .u8 (b.toNat : Int)) = (zs.take len).map (Value.int .u8) := by
        show (((zs.take len).map fun x => UInt8.ofNat x.toNat).toArray.toList.map fun b => Value.int .u8 (b.toNat : Int)) = _
        rw [List.toList_toArray, List.map_map]
        refine List.map_congr_left fun x hx => ?_
        have hw := h8 x (List.mem_of_mem_take hx)
        simp only [Lit.wf, IntKind.min, IntKind.max, IntKind.signed, IntKind.bits, Bool.and_eq_true, decide_eq_true_eq] at hw
        have h0 : 0 ≤ x ∧ x < 256 := by
          revert hw
          simp
          omega
        show Value.int .u8 ((UInt8.ofNat x.toNat).toNat : Int) = _
        rw [UInt8.toNat_ofNat_of_lt' (by show x.toNat < 256; omega), Int.toNat_of_nonneg h0.1]
      rw [e1]
      by_cases hz : zs.length = 0
      · left
        have : zs = [] := List.eq_nil_of_length_eq_zero hz
        simp [this]
      · have h0 := h7 0 (by omega)
        obtain ⟨b, o, sp⟩ := a
        have hsp : sp = none := spot_none (b := b) (o := o + 0) h0
        subst hsp
        refine .inr ⟨b, o, rfl, fun j u hj => ?_⟩
        rw [List.getElem?_map] at hj
        obtain ⟨x, hx, rfl⟩ := Option.map_eq_some_iff.1 hj
        rw [List.getElem?_take] at hx
        split at hx
        · have hj2 : j < zs.length := (List.getElem?_eq_some_iff.1 hx).1
          have := h7 j hj2
          rw [add_lit] at this
          rw [this, List.getD_eq_getElem?_getD, hx]
          rfl
        · cases hx
    · rw [hs, h6]
      simp only [Rows.uptoBulk]
      have := Bulk.length_le (lits (H := H) .u8 (zs.take len))
      rw [show (lits (H := H) .u8 (zs.take len)).length = len from by simp [lits]; omega] at this
      omega
theorem val_slice {W : World} {b0 : Nat} {t e : TypeId} {v : Value} (ht : P.underlying t = some (.slice e)) (hval : Value.okWide P W .any b0 t v) : ∀ (a : Option Addr) (n c : Nat), v.cells.toList = [.slice a n c] → v = .slice a n c := by
  intro a n c hu
  cases v <;> simp_all [Value.cells]
  rename_i cs
  simp only [Value.okWide, ht] at hval
  simp [Cell.okWide, Cell.ok, ht] at hval
theorem bulk_list {α : Type} (f : Nat → DataW H) (g : α → Nat) : ∀ (l : List α), (∀ i (x : α), l[i]? = some x → g x ≤ Rows.uptoBulk (f i)) → (l.map g).sum ≤ Rows.uptoBulkAll ((List.range l.length).map f) := by
  intro l
  induction l generalizing f with
  | nil => intro _; exact Nat.zero_le _
  | cons x l ih =>
    intro h
    have h1 := ih (fun i => f (i + 1)) (fun i y hy => h (i + 1) y (by simpa using hy))
    have h0 := h 0 x rfl
    rw [List.length_cons, List.range_succ_eq_map, List.map_cons, List.map_cons, List.map_map, List.sum_cons]
    show g x + _ ≤ Rows.uptoBulk (f 0) + Rows.uptoBulkAll ((List.range l.length).map (f ∘ Nat.succ))
    exact Nat.add_le_add h0 h1
theorem pieces_in {W : World} {base b0 : Nat} {t e eb : TypeId} {v : Value} {d : DataW H} {p : List MemPlace} (ht : P.underlying t = some (.slice e)) (he : P.underlying e = some (.slice eb)) (ce : P.cellsOf e = 1) (heb : P.underlying eb = some (.int .u8)) (ceb : P.cellsOf eb = 1)
    (hval : Value.okWide P W .any b0 t v) (h : DataW.Trod enc P W base (fun _ => true) true t v d p) :
    ∃ (ad : Option Addr) (c : Nat) (l : List PcE), v = .slice ad l.length c ∧ CellsAt W ad (l.map peV) ∧ (∀ x ∈ l, CellsAt W x.ad (bytesV x.b)) ∧ bulkP l ≤ Rows.uptoBulk d := by
  obtain ⟨fuel, hf⟩ := h
  rcases Go.Deep.open_slice1 ht ce hf with ⟨h1, h2⟩ | ⟨a, len, cap, m, n, V, D, Pl, h1, h2, h3, h4, h5, h6, h7⟩
  · exact ⟨none, 0, [], val_slice ht hval _ _ _ h1, CellsAt.nil _ _, fun x hx => (by cases hx), Nat.zero_le _⟩
  · have hvv := val_slice ht hval _ _ _ h1
    simp only [if_true] at h5
    have hd : d = .slice ((List.range len).map D) ((List.range (m - len)).map fun j => D (len + j)) := congrArg (fun x => x.1) h6
    obtain ⟨l, hl, hR⟩ := list_choose (R := fun i (q : PcE) => V i = peV q ∧ CellsAt W q.ad (bytesV q.b) ∧ 1 + q.b.size ≤ Rows.uptoBulk (D i)) len (fun i hi => by
      obtain ⟨k1, k2⟩ := h7 i (by omega)
      obtain ⟨ad, c, s, e1, e2, e3⟩ := bytes_cell he heb ceb k2
      exact ⟨⟨ad, c, s⟩, e1, e2, e3⟩)
    refine ⟨some a, cap, l, by rw [hvv, hl], ?_, fun x hx => ?_, ?_⟩
    · by_cases hz : len = 0
      · left
        have : l = [] := List.eq_nil_of_length_eq_zero (by omega)
        rw [this]; rfl
      · have h0 := (h7 0 (by omega)).1
        obtain ⟨b, o, sp⟩ := a
        have hsp : sp = none := spot_none (b := b) (o := o + 0) h0
        subst hsp
        refine .inr ⟨b, o, rfl, fun j u hj => ?_⟩
        rw [List.getElem?_map] at hj
        obtain ⟨q, hq, rfl⟩ := Option.map_eq_some_iff.1 hj
        have hjl := (List.getElem?_eq_some_iff.1 hq).1
        have := (h7 j (by omega)).1
        rw [add_lit] at this
        rw [this, (hR j q hq).1]
    · obtain ⟨i, hi⟩ := List.mem_iff_getElem?.1 hx
      exact (hR i x hi).2.1
    · rw [hd]
      simp only [Rows.uptoBulk]
      have := bulk_list D (fun e : PcE => 1 + e.b.size) l (fun i x hx => (hR i x hx).2.2)
      rw [hl] at this
      unfold bulkP
      omega
end
end Go.Proofs.YtjdohhididpomaaDoor.Lw
end
