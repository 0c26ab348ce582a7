/-
  The bound of the second form, in use: how long a part of what came in can be.
-/
import Derived.Test.YthkcphnkllnfcaaDoorRows
set_option linter.unusedVariables false
set_option linter.unusedSimpArgs false
namespace Go.Proofs.YthkcphnkllnfcaaDoor.Bulk
open Go

theorem one_le {H : Type} (d : DataW H) : 1 ≤ Rows.uptoBulk d := by
  cases d with
  | lit l => cases l <;> simp [Rows.uptoBulk]
  | _ => simp only [Rows.uptoBulk]; omega

theorem part_le {H : Type} {d : DataW H} {l : List (DataW H)} (h : d ∈ l) : Rows.uptoBulk d ≤ Rows.uptoBulkAll l := by
  induction l with
  | nil => cases h
  | cons x r ih =>
    simp only [Rows.uptoBulkAll]
    rcases List.mem_cons.1 h with rfl | h
    · omega
    · have := ih h; omega

theorem length_le {H : Type} (l : List (DataW H)) : l.length ≤ Rows.uptoBulkAll l := by
  induction l with
  | nil => simp
  | cons x r ih => have := one_le x; simp only [Rows.uptoBulkAll, List.length_cons]; omega

theorem small {H : Type} {l : List (DataW H)} (hk : Rows.uptoSmall H l = true) : Rows.uptoBulkAll l ≤ 1048576 := of_decide_eq_true hk

theorem slice {H : Type} {l : List (DataW H)} {elems spare : List (DataW H)} (hk : Rows.uptoSmall H l = true) (h : DataW.slice elems spare ∈ l) : elems.length ≤ 1048576 := by
  have h1 := small hk
  have h2 := part_le h
  have h3 := length_le elems
  simp only [Rows.uptoBulk] at h2
  omega

theorem string {H : Type} {l : List (DataW H)} {bytes : List UInt8} (hk : Rows.uptoSmall H l = true) (h : DataW.lit (.string bytes) ∈ l) : bytes.length ≤ 1048576 := by
  have h1 := small hk
  have h2 := part_le h
  simp only [Rows.uptoBulk] at h2
  omega

end Go.Proofs.YthkcphnkllnfcaaDoor.Bulk
