/-
  Specifications, chapter 1: the law on iterators.
-/
import Derived.Test.YthkcphnkllnfcaaDoorSpH
set_option linter.unusedVariables false
set_option linter.unusedSimpArgs false
namespace Go.Proofs.YthkcphnkllnfcaaDoor
open Go Go.RowKit Vc Ut

def spGoes : List (Nat × CallSpec) := [(27, sOnes allN), (28, sOnes backN), (29, sIter 54), (30, sIter 55), (31, sGoes), (20, sYes U8)]
def annLawGoes (g : GSI) (w00 : World) : Ann where
  sp := spGoes
  cuts := [(6, 6, { X := Unit, sh := fun _ _ => [(49, .bool false)], inv := fun _ w0 _ w => Ext w0 w }), (12, 12, { X := Unit, sh := fun _ _ => [(67, .bool false)], inv := fun _ w0 _ w => Ext w0 w }), (14, 14, { X := Unit, sh := fun _ _ => [(89, .bool false)], inv := fun _ w0 _ w => w = w0 })]
  ranges := [(10, {
    α := Nat × Int
    enc := encIt
    exs := [.ret]
    J := fun e w0 _ k D W => D = ones [ptrB (gv e 10), ptrB (gv e 4)] ∧ W.heap[ptrB (gv e 10)]? = some (.cells #[.int .i64 (k : Int)] 3) ∧ (∃ v, W.heap[ptrB (gv e 4)]? = some (.cells #[.bool v] 4))
    Jx := fun e w0 _ _ D W => (1 : Nat) = 0 })]


--#vc lawGoes_vc 6 sLawSI annLawGoes spGoes

end Go.Proofs.YthkcphnkllnfcaaDoor
