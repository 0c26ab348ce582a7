/-
  Specifications, chapter 1: laws on iterators, on parts.
-/
import Derived.Test.YthkcphnkllnfcaaDoorSpD
set_option linter.unusedVariables false
set_option linter.unusedSimpArgs false
namespace Go.Proofs.YthkcphnkllnfcaaDoor
open Go Go.RowKit Vc Ut

structure GSI where
  s : ByteArray
  i : Int
def sLawSI : CallSpec where
  G := GSI
  args := fun g => #[.string g.s, .int .i64 g.i]
  pre := fun g w => U8 w ∧ g.s.size ≤ 1048576
  X := Unit
  res := fun _ => .bool true
  post := fun _ w _ w' => Ext w w'

/-- A list's own block. -/
def slN (v : Value) : Nat → Prop := match v with | .slice (some ⟨b, _, _⟩) _ _ => fun q => q = b | _ => fun _ => False

def spParts : List (Nat × CallSpec) := [(24, sSL .i32 21 runes), (21, sLS runesBytes), (25, sTest validB), (38, sSS (fun s => runesBytes (runes s))), (37, sSN cnt),
  (32, sSame .i32), (35, sSL .i64 3 badL), (14, sDec nxR nxN), (20, sYes U8)]
def annParts (g : GSI) (w00 : World) : Ann where
  sp := spParts
  frees := [(18, fun e => slN (gv e 12))]
  cuts := [(3, 3, { X := Unit, sh := fun _ _ => [(55, .bool false)], inv := fun _ w0 _ w => Ext w0 w }), (6, 6, { X := Unit, sh := fun _ _ => [(70, .bool false)], inv := fun _ w0 _ w => Ext w0 w })]
  loops := [(10, {
    X := Nat
    sh := fun _ n => [(8, .int .i64 n), (9, .int .i64 (pos g.s n))]
    inv := fun _ w0 n w => n ≤ cnt g.s ∧ Ext w0 w
    mu := fun _ _ n _ => cnt g.s - n })]

--#vc lawParts_vc 10 sLawSI annParts spParts

end Go.Proofs.YthkcphnkllnfcaaDoor
