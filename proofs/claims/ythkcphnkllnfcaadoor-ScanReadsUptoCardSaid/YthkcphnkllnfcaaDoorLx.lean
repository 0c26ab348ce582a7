/-
  What comes in: lists of bytes.
-/
import Derived.Test.YthkcphnkllnfcaaDoorLw
set_option linter.unusedVariables false
set_option linter.unusedSimpArgs false
namespace Go.Proofs.YthkcphnkllnfcaaDoor.Lw
open Go Go.RowKit Go.ChangeShapes Go.WideShapes Go.ChangeAt Vc

section
variable {H : Type} {enc : TypeId × Value → H} {P : Program}

/-- A slice of numbers that came in, and its room. -/
theorem ints_room {W : World} {base b0 : Nat} {t e : TypeId} {k : IntKind} {v : Value} {d : DataW H} {p : List MemPlace} (ht : P.underlying t = some (.slice e)) (he : P.underlying e = some (.int k)) (hc : P.cellsOf e = 1) (hval : Value.okWide P W .any b0 t v)
    (h : DataW.Trod enc P W base (fun _ => true) true t v d p) : ∃ (ad : Option Addr) (c : Nat) (xs : List Int), v = .slice ad xs.length c ∧ xs.length ≤ c ∧ CellsAt W ad (xs.map (Value.int k)) ∧ (∀ x ∈ xs, (Lit.int k x).wf = true) ∧
      ((d = .nil ∧ xs = []) ∨ ∃ elems spare, d = .slice elems spare ∧ elems.length = xs.length) := by
  obtain ⟨ad, c, xs, _, rfl, h1, h2, h3⟩ := ints_in ht he hc hval h
  refine ⟨ad, c, xs, rfl, ?_, h1, h2, h3⟩
  obtain ⟨fuel, hf⟩ := h
  rcases open_ints ht he hc hf with ⟨h4, _⟩ | ⟨a, len, cap, zs, h4, _, h5, _⟩
  · simp only [Value.cells] at h4
    injection h4 with h4 _
    injection h4 with _ h6 h7
    omega
  · simp only [Value.cells] at h4
    injection h4 with h4 _
    injection h4 with _ h6 h7
    omega

/-- .. of bytes. -/
theorem bytes_in {W : World} {base b0 : Nat} {t e : TypeId} {v : Value} {d : DataW H} {p : List MemPlace} (ht : P.underlying t = some (.slice e)) (he : P.underlying e = some (.int .u8)) (hc : P.cellsOf e = 1) (hval : Value.okWide P W .any b0 t v)
    (h : DataW.Trod enc P W base (fun _ => true) true t v d p) : ∃ (ad : Option Addr) (c : Nat) (s : ByteArray), v = .slice ad s.size c ∧ s.size ≤ c ∧ CellsAt W ad (s.data.toList.map fun b => Value.int .u8 (b.toNat : Int)) ∧
      ((d = .nil ∧ s.size = 0) ∨ ∃ elems spare, d = .slice elems spare ∧ elems.length = s.size) := by
  obtain ⟨ad, c, xs, rfl, h1, h2, h3, h4⟩ := ints_room ht he hc hval h
  have hs : (⟨(xs.map fun x => UInt8.ofNat x.toNat).toArray⟩ : ByteArray).size = xs.length := by
    show ((xs.map fun x => UInt8.ofNat x.toNat).toArray).size = _
    simp
  refine ⟨ad, c, ⟨(xs.map fun x => UInt8.ofNat x.toNat).toArray⟩, by rw [hs], by rw [hs]; exact h1, ?_, ?_⟩
  · have e : ((⟨(xs.map fun x => UInt8.ofNat x.toNat).toArray⟩ : ByteArray).data.toList.map fun b => Value.int .u8 (b.toNat : Int)) = xs.map (Value.int .u8) := by
      show ((xs.map fun x => UInt8.ofNat x.toNat).toArray.toList.map fun b => Value.int .u8 (b.toNat : Int)) = _
      rw [List.toList_toArray, List.map_map]
      refine List.map_congr_left fun x hx => ?_
      have hw := h3 x hx
      simp only [Lit.wf, IntKind.min, IntKind.max, IntKind.signed, IntKind.bits, Bool.and_eq_true, decide_eq_true_eq] at hw
      have h0 : 0 ≤ x ∧ x < 256 := by
        revert hw
        simp
        omega
      show Value.int .u8 ((UInt8.ofNat x.toNat).toNat : Int) = _
      rw [UInt8.toNat_ofNat_of_lt' (by show x.toNat < 256; omega), Int.toNat_of_nonneg h0.1]
    rw [e]; exact h2
  · rcases h4 with ⟨h5, rfl⟩ | ⟨el, sp, h5, h6⟩
    · exact .inl ⟨h5, rfl⟩
    · exact .inr ⟨el, sp, h5, by rw [hs]; exact h6⟩
end

end Go.Proofs.YthkcphnkllnfcaaDoor.Lw
