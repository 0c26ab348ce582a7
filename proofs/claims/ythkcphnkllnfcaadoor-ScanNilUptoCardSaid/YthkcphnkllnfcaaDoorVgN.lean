/-
  Verification conditions, printed by a program out of the specifications beside this text: each theorem says that the condition suffices. (Lean's kernel compares the printed condition with what 'wpE' computes.)
-/
import Derived.Test.YthkcphnkllnfcaaDoorSpN
import Derived.Test.YthkcphnkllnfcaaDoorProg
import Derived.KernelRfl
set_option linter.unusedSimpArgs false
set_option linter.unusedVariables false
namespace Go.Proofs.YthkcphnkllnfcaaDoor
open Go Go.RowKit Vc Ut

set_option maxRecDepth 1000000 in
theorem nilFeed_vc (hsp : SpecsOk Tryd.prog []) (h : ∀ (g : GSl) (w : World), True → ∃ (x : Unit), Value.slice none (0 : Nat) (0 : Nat) = Value.slice none (0 : Nat) (0 : Nat) ∧ Ext w w) :
    (sNilFeed).Ok Tryd.prog 40 :=
  ok_of_vc sNilFeed (annOf []) [] (fun _ _ => rfl) (fun _ _ => rfl) hsp Tryd.func40 rfl (n := 2) (fun _ => rfl) (by kernel_rfl) (vcast (by kernel_rfl) h)

set_option maxRecDepth 1000000 in
theorem nilEnd_vc (hsp : SpecsOk Tryd.prog []) (h : ∀ (g : GSl) (w : World), True → ∃ (x : Unit), Value.slice none (0 : Nat) (0 : Nat) = Value.slice none (0 : Nat) (0 : Nat) ∧ Ext w w) :
    (sNilEnd).Ok Tryd.prog 41 :=
  ok_of_vc sNilEnd (annOf []) [] (fun _ _ => rfl) (fun _ _ => rfl) hsp Tryd.func41 rfl (n := 1) (fun _ => rfl) (by kernel_rfl) (vcast (by kernel_rfl) h)

set_option maxRecDepth 1000000 in
theorem nilHeld_vc (hsp : SpecsOk Tryd.prog []) (h : ∀ (g : GSl) (w : World), True → ∃ (x : Unit), Value.int IntKind.i64 (0 : Int) = Value.int IntKind.i64 (0 : Int) ∧ Ext w w) :
    (sNilHeld).Ok Tryd.prog 42 :=
  ok_of_vc sNilHeld (annOf []) [] (fun _ _ => rfl) (fun _ _ => rfl) hsp Tryd.func42 rfl (n := 1) (fun _ => rfl) (by kernel_rfl) (vcast (by kernel_rfl) h)

set_option maxRecDepth 1000000 in
theorem lawNil_vc (hsp : SpecsOk Tryd.prog spNil) (h : ∀ (g : GSl) (w : World), U8 w → ∃ (g1 : GSl), #[Value.pointer none, Value.slice g.ad g.xs.length g.c] = #[Value.pointer none, Value.slice g1.ad g1.xs.length g1.c] ∧ True ∧ ∀ (x : Unit) (w' : World), Ext w w' → ∃ (g2 : GSl), #[Value.pointer none] = #[Value.pointer none] ∧ True ∧ ∀ (x1 : Unit) (w'1 : World), Ext w' w'1 → ∃ (g3 : GSl), #[Value.pointer none] = #[Value.pointer none] ∧ True ∧ ∀ (x2 : Unit) (w'2 : World), Ext w'1 w'2 → ∃ (g4 : Unit), (#[] : Array Value) = #[] ∧ U8 w'2 ∧ ∀ (x3 : Unit) (w'3 : World), Ext w'2 w'3 → ∃ (x4 : Unit), Value.bool true = Value.bool true ∧ Ext w w'3) :
    (sLawB).Ok Tryd.prog 11 :=
  ok_of_vc sLawB (annOf spNil) spNil (fun _ _ => rfl) (fun _ _ => rfl) hsp Tryd.func11 rfl (n := 1) (fun _ => rfl) (by kernel_rfl) (vcast (by kernel_rfl) h)

end Go.Proofs.YthkcphnkllnfcaaDoor
