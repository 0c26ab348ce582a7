/-
  What comes in: lists of calls, each a number and a list of bytes.
-/
import Derived.Test.YthkcphnkllnfcaaDoorLx
import Derived.Test.YthkcphnkllnfcaaDoorBulk
import Derived.Test.YthkcphnkllnfcaaDoorSpU
import Derived.Test.YthkcphnkllnfcaaDoorGn
import Derived.Deep.SlicePairs
set_option linter.unusedVariables false
set_option linter.unusedSimpArgs false
namespace Go.Proofs.YthkcphnkllnfcaaDoor.Lw
open Go Go.RowKit Go.ChangeShapes Go.WideShapes Go.ChangeAt Vc

theorem list_choose {α : Type} {R : Nat → α → Prop} : ∀ (n : Nat), (∀ i, i < n → ∃ q, R i q) → ∃ l : List α, l.length = n ∧ ∀ i q, l[i]? = some q → R i q
  | 0, _ => ⟨[], rfl, by simp⟩
  | n + 1, h => by
    obtain ⟨l, h1, h2⟩ := list_choose n (fun i hi => h i (by omega))
    obtain ⟨q, hq⟩ := h n (by omega)
    refine ⟨l ++ [q], by simp [h1], fun i x hx => ?_⟩
    by_cases hi : i < n
    · rw [List.getElem?_append_left (by omega)] at hx; exact h2 i x hx
    · rw [List.getElem?_append_right (by omega), h1] at hx
      have hz : i - n = 0 := by
        cases hk : i - n with
        | zero => rfl
        | succ k => rw [hk] at hx; simp at hx
      rw [hz] at hx
      simp only [List.getElem?_cons_zero, Option.some.injEq] at hx
      subst hx
      rw [show i = n from by omega]; exact hq

section
variable {H : Type} {enc : TypeId × Value → H} {P : Program}

/-- A cell that holds a list of bytes. -/
theorem bytes_cell {W : World} {base : Nat} {t e : TypeId} {fuel : Nat} {v : Value} {x : DataW H × List MemPlace} (ht : P.underlying t = some (.slice e)) (he : P.underlying e = some (.int .u8)) (hc : P.cellsOf e = 1)
    (h : DataW.trod enc P W base (fun _ => true) true fuel t [v] = some x) : ∃ (ad : Option Addr) (c : Nat) (s : ByteArray), v = .slice ad s.size c ∧ CellsAt W ad (s.data.toList.map fun b => Value.int .u8 (b.toNat : Int)) ∧ s.size ≤ Rows.uptoBulk x.1 := by
  rcases open_ints ht he hc h with ⟨h1, h2⟩ | ⟨a, len, cap, zs, h1, h2, h3, h4, h5, h6, h7, h8⟩
  · refine ⟨none, 0, ⟨#[]⟩, ?_, CellsAt.nil _ _, Nat.zero_le _⟩
    injection h1
  · injection h1 with h1 _
    subst h1
    simp only [if_true] at h5
    have hlen : (zs.take len).length = len := by rw [List.length_take]; omega
    have hs : (⟨((zs.take len).map fun x => UInt8.ofNat x.toNat).toArray⟩ : ByteArray).size = len := by
      show (((zs.take len).map fun x => UInt8.ofNat x.toNat).toArray).size = _
      simp; omega
    refine ⟨some a, cap, ⟨((zs.take len).map fun x => UInt8.ofNat x.toNat).toArray⟩, by rw [hs], ?_, ?_⟩
    · have e1 : ((⟨((zs.take len).map fun x => UInt8.ofNat x.toNat).toArray⟩ : ByteArray).data.toList.map fun b => Value.int .u8 (b.toNat : Int)) = (zs.take len).map (Value.int .u8) := by
        show (((zs.take len).map fun x => UInt8.ofNat x.toNat).toArray.toList.map fun b => Value.int .u8 (b.toNat : Int)) = _
        rw [List.toList_toArray, List.map_map]
        refine List.map_congr_left fun x hx => ?_
        have hw := h8 x (List.mem_of_mem_take hx)
        simp only [Lit.wf, IntKind.min, IntKind.max, IntKind.signed, IntKind.bits, Bool.and_eq_true, decide_eq_true_eq] at hw
        have h0 : 0 ≤ x ∧ x < 256 := by
          revert hw
          simp
          omega
        show Value.int .u8 ((UInt8.ofNat x.toNat).toNat : Int) = _
        rw [UInt8.toNat_ofNat_of_lt' (by show x.toNat < 256; omega), Int.toNat_of_nonneg h0.1]
      rw [e1]
      by_cases hz : zs.length = 0
      · left
        have : zs = [] := List.eq_nil_of_length_eq_zero hz
        simp [this]
      · have h0 := h7 0 (by omega)
        obtain ⟨b, o, sp⟩ := a
        have hsp : sp = none := by
          cases sp with
          | none => rfl
          | some q =>
            simp only [Addr.add, if_true, World.cell?] at h0
            split at h0 <;> simp at h0
        subst hsp
        refine .inr ⟨b, o, rfl, fun j u hj => ?_⟩
        rw [List.getElem?_map] at hj
        obtain ⟨x, hx, rfl⟩ := Option.map_eq_some_iff.1 hj
        rw [List.getElem?_take] at hx
        split at hx
        · have hj2 : j < zs.length := (List.getElem?_eq_some_iff.1 hx).1
          have := h7 j hj2
          rw [add_lit] at this
          rw [this, List.getD_eq_getElem?_getD, hx]
          rfl
        · cases hx
    · rw [hs, h6]
      simp only [Rows.uptoBulk]
      have := Bulk.length_le (lits (H := H) .u8 (zs.take len))
      rw [show (lits (H := H) .u8 (zs.take len)).length = len from by simp [lits]; omega] at this
      omega

/-- What a struct's fields are. -/
def fieldsOf (P : Program) (e : TypeId) : List (TypeId × Nat) := match P.underlying e with | some (.struct fs) => fs.toList.map (fun f => (f.type, f.offset)) | _ => []
theorem struct_two {e ti tb : TypeId} {o0 o1 : Nat} (h : fieldsOf P e = [(ti, o0), (tb, o1)]) : ∃ f0 f1, P.underlying e = some (.struct #[f0, f1]) ∧ f0.type = ti ∧ f0.offset = o0 ∧ f1.type = tb ∧ f1.offset = o1 := by
  unfold fieldsOf at h
  split at h
  case h_2 => cases h
  rename_i fs hu
  obtain ⟨l⟩ := fs
  match l, h with
  | [f0, f1], h =>
    simp only [List.map_cons, List.map_nil, List.cons.injEq, Prod.mk.injEq, and_true] at h
    exact ⟨f0, f1, hu, h.1.1, h.1.2, h.2.1, h.2.2⟩

/-- A slice of calls that came in. -/
theorem steps_in {W : World} {base b0 : Nat} {t e ti tb eb : TypeId} {v : Value} {d : DataW H} {p : List MemPlace} (ht : P.underlying t = some (.slice e)) (hfs : fieldsOf P e = [(ti, 0), (tb, 1)]) (ce : P.cellsOf e = 2)
    (hi : P.underlying ti = some (.int .i64)) (ci : P.cellsOf ti = 1) (hb : P.underlying tb = some (.slice eb)) (cb : P.cellsOf tb = 1) (heb : P.underlying eb = some (.int .u8)) (ceb : P.cellsOf eb = 1)
    (hval : Value.okWide P W .any b0 t v) (h : DataW.Trod enc P W base (fun _ => true) true t v d p) (hk : Rows.uptoBulk d ≤ 1048576) :
    ∃ (ad : Option Addr) (c : Nat) (l : List St), v = .slice ad l.length c ∧ StAt W ⟨ad, c, l⟩ ∧ l.length ≤ 1048576 := by
  obtain ⟨f0, f1, he, t0, o0, t1, o1⟩ := struct_two hfs
  subst t0 t1
  obtain ⟨fuel, hf⟩ := h
  have hv : ∀ (a : Option Addr) (n c : Nat), v.cells.toList = [.slice a n c] → v = .slice a n c := by
    intro a n c hu
    cases v <;> simp_all [Value.cells]
    rename_i cs
    simp only [Value.okWide, ht] at hval
    simp [Cell.okWide, Cell.ok, ht] at hval
  rcases Go.Deep.open_slice_pairs ht he ce o0 o1 ci cb hf with ⟨h1, h2⟩ | ⟨a, len, cap, m, n, V0, V1, D0, D1, P0, P1, h1, h2, h3, h4, h5, h6, h7⟩
  · exact ⟨none, 0, [], hv _ _ _ h1, ⟨CellsAt.nil _ _, fun x hx => by cases hx⟩, Nat.zero_le _⟩
  · have hvv := hv _ _ _ h1
    simp only [if_true] at h5
    have hd : d = .slice ((List.range len).map fun i => .agg [D0 i, D1 i]) ((List.range (m - len)).map fun j => .agg [D0 (len + j), D1 (len + j)]) := congrArg (fun x => x.1) h6
    have hb1 : ∀ i, i < len → Rows.uptoBulk (D1 i) ≤ 1048576 := by
      intro i hi
      rw [hd] at hk
      simp only [Rows.uptoBulk] at hk
      have h8 : (DataW.agg [D0 i, D1 i] : DataW H) ∈ (List.range len).map fun i => (DataW.agg [D0 i, D1 i] : DataW H) := List.mem_map.2 ⟨i, List.mem_range.2 hi, rfl⟩
      have h9 := Bulk.part_le h8
      simp only [Rows.uptoBulk, Rows.uptoBulkAll] at h9
      omega
    have hlen : len ≤ 1048576 := by
      rw [hd] at hk
      simp only [Rows.uptoBulk] at hk
      have := Bulk.length_le ((List.range len).map fun i => (DataW.agg [D0 i, D1 i] : DataW H))
      rw [List.length_map, List.length_range] at this
      omega
    obtain ⟨l, hl, hR⟩ := list_choose (R := fun i (q : St) => V0 i = .int .i64 q.d ∧ V1 i = .slice q.ad q.s.size q.c ∧ CellsAt W q.ad (bytesV q.s) ∧ q.s.size ≤ 1048576) len (fun i hi => by
      obtain ⟨k1, k2, k3, k4⟩ := h7 i (by omega)
      obtain ⟨ad, c, s, e1, e2, e3⟩ := bytes_cell hb heb ceb k4
      have e4 : ∃ z, V0 i = .int .i64 z := by
        cases n with
        | zero => simp [DataW.trod] at k3
        | succ n =>
          unfold DataW.trod at k3
          simp only [hi] at k3
          split at k3 <;> simp_all
      obtain ⟨z, hz⟩ := e4
      exact ⟨⟨z, ad, c, s⟩, hz, e1, e2, Nat.le_trans e3 (hb1 i hi)⟩)
    refine ⟨some a, cap, l, by rw [hvv, hl], ⟨?_, fun x hx => ?_⟩, by rw [hl]; exact hlen⟩
    · by_cases hz : len = 0
      · left
        have : l = [] := List.eq_nil_of_length_eq_zero (by omega)
        rw [this]; rfl
      · have h0 := (h7 0 (by omega)).1
        obtain ⟨b, o, sp⟩ := a
        have hsp : sp = none := by
          cases sp with
          | none => rfl
          | some q =>
            simp only [Addr.add, if_true, World.cell?, Nat.zero_mul] at h0
            split at h0 <;> simp at h0
        subst hsp
        refine .inr ⟨b, o, rfl, fun j u hj => ?_⟩
        have hj1 := (List.getElem?_eq_some_iff.1 hj).1
        dsimp only at hj hj1
        rw [flat_len' (f := stV) (s := 2) (fun _ => rfl), hl] at hj1
        have hq : l[j / 2]? = some (l[j / 2]'(by omega)) := List.getElem?_eq_getElem (by omega)
        have hat := flat_at (f := stV) (s := 2) (j := j % 2) (fun _ => rfl) hq (by omega)
        rw [show j / 2 * 2 + j % 2 = j from by omega, hj] at hat
        obtain ⟨r1, r2, _, _⟩ := hR _ _ hq
        obtain ⟨k1, k2, _, _⟩ := h7 (j / 2) (by omega)
        rw [add_lit] at k1 k2
        rcases Nat.mod_two_eq_zero_or_one j with hm | hm
        · rw [hm] at hat
          have : u = V0 (j / 2) := by rw [r1]; simpa [stV] using hat
          rw [this, ← k1]
          congr 2
          omega
        · rw [hm] at hat
          have : u = V1 (j / 2) := by rw [r2]; simpa [stV] using hat
          rw [this, ← k2]
          congr 2
          omega
    · obtain ⟨i, hi⟩ := List.mem_iff_getElem?.1 hx
      obtain ⟨_, _, r3, r4⟩ := hR i x hi
      exact ⟨r3, r4⟩
end

end Go.Proofs.YthkcphnkllnfcaaDoor.Lw
