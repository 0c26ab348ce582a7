/-
  Specifications, chapter 11: the examples.
-/
import Derived.Test.YtliihpdhoimmoaaSpE
set_option linter.unusedVariables false
set_option linter.unusedSimpArgs false
namespace Go.Proofs.Ytliihpdhoimmoaa
open Go Go.RowKit Vc Tb

/-- Are these runes' forms the wanted ones? -/
def sIs : CallSpec where
  G := GTwo
  args := fun g => #[.slice g.a.ad g.a.xs.length g.a.c, .slice g.b.ad g.b.xs.length g.b.c]
  pre := fun g w => g.a.at .i8 w ∧ g.b.at .i32 w
  X := Bool
  res := fun x => .bool x
  post := fun g w x w' => x = decide (formsR g.b.xs = g.a.xs) ∧ Ext w w'

def spIs : List (Nat × CallSpec) := [(12, sList .i32 .i8 27 formsR), (13, sSame .i8)]
def spKnown11 : List (Nat × CallSpec) := [(16, sYes), (27, sIs), (23, sShape), (22, sPlain),
  (18, sList .i32 .i32 21 shapedR), (19, sSame .i32)]
def annKnown11 (g : Unit) (w00 : World) : Ann where
  sp := spKnown11
  cuts := [(2, 2, { X := Unit, sh := fun _ _ => [(2, .bool true)], inv := fun _ w0 _ w => Ext w0 w }), (3, 3, { X := Unit, sh := fun _ _ => [(3, .bool true)], inv := fun _ w0 _ w => Ext w0 w })]

--#vc is_vc 27 sIs (fun g _ => annNone spIs g) spIs
--#vc known11_vc 9 sYes annKnown11 spKnown11

end Go.Proofs.Ytliihpdhoimmoaa
