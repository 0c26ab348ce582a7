/-
  Chapter 1: the law on no reader.
-/
import Derived.Test.YthkcphnkllnfcaaDoorVgN
import Derived.Test.YthkcphnkllnfcaaDoorWkD
set_option linter.unusedVariables false
set_option linter.unusedSimpArgs false
namespace Go.Proofs.YthkcphnkllnfcaaDoor
open Go Go.RowKit Vc Ut

theorem nilFeed_ok : sNilFeed.Ok Tryd.prog 40 := nilFeed_vc trivial fun _ w _ => ⟨(), rfl, Ext.refl w⟩
theorem nilEnd_ok : sNilEnd.Ok Tryd.prog 41 := nilEnd_vc trivial fun _ w _ => ⟨(), rfl, Ext.refl w⟩
theorem nilHeld_ok : sNilHeld.Ok Tryd.prog 42 := nilHeld_vc trivial fun _ w _ => ⟨(), rfl, Ext.refl w⟩

theorem lawNil_ok : sLawB.Ok Tryd.prog 11 := by
  refine lawNil_vc ⟨nilFeed_ok, nilEnd_ok, nilHeld_ok, wakes_ok, trivial⟩ ?_
  rintro g w hU
  refine ⟨g, rfl, trivial, ?_⟩
  rintro _ w1 e1
  refine ⟨g, rfl, trivial, ?_⟩
  rintro _ w2 e2
  refine ⟨g, rfl, trivial, ?_⟩
  rintro _ w3 e3
  have e := (Ext.trans e1 e2).trans e3
  refine ⟨(), rfl, hU.ext e, ?_⟩
  rintro _ w4 e4
  exact ⟨(), rfl, e.trans e4⟩

end Go.Proofs.YthkcphnkllnfcaaDoor
