/-
  Specifications, chapter 11: the laws that ask the document's answer.
-/
import Derived.Test.YtliihpdhoimmoaaSpC
set_option linter.unusedVariables false
set_option linter.unusedSimpArgs false
namespace Go.Proofs.Ytliihpdhoimmoaa
open Go Go.RowKit Vc Tb

/-- A law of a slice of runes. -/
def sLawL : CallSpec where
  G := GSl
  args := fun g => #[.slice g.ad g.xs.length g.c]
  pre := fun g w => g.at .i32 w
  X := Unit
  res := fun _ => .bool true
  post := fun _ w _ w' => Ext w w'

def sLawShapes : CallSpec where
  G := Int × Int
  args := fun g => #[.int .i32 g.1, .int .i8 g.2]
  pre := fun _ _ => True
  X := Unit
  res := fun _ => .bool true
  post := fun _ w _ w' => Ext w w'

def spLawForms : List (Nat × CallSpec) := [(10, sList .i32 .i8 27 formsR), (11, sLent), (12, sList .i32 .i8 27 formsR),
  (13, sSame .i8), (14, sKept), (15, sFresh .i8 27), (16, sYes)]
def spLawShaped : List (Nat × CallSpec) := [(17, sList .i32 .i32 21 shapedR), (11, sLent), (18, sList .i32 .i32 21 shapedR),
  (19, sSame .i32), (14, sKept), (20, sFresh .i32 21), (16, sYes)]
def spLawShapes : List (Nat × CallSpec) := [(21, sPlain), (22, sPlain), (23, sShape), (24, sShape),
  (19, sSame .i32), (20, sFresh .i32 21), (16, sYes)]

--#vc lawForms_vc 3 sLawL (fun g _ => annNone spLawForms g) spLawForms
--#vc lawShaped_vc 4 sLawL (fun g _ => annNone spLawShaped g) spLawShaped
--#vc lawShapes_vc 5 sLawShapes (fun g _ => annNone spLawShapes g) spLawShapes

end Go.Proofs.Ytliihpdhoimmoaa
