/-
  Specifications, chapter 1: no reader.
-/
import Derived.Test.YthkcphnkllnfcaaDoorSpE
set_option linter.unusedVariables false
set_option linter.unusedSimpArgs false
namespace Go.Proofs.YthkcphnkllnfcaaDoor
open Go Go.RowKit Vc Ut

def sNil (args : GSl → Array Value) (v : Value) : CallSpec where
  G := GSl
  args := args
  pre := fun _ _ => True
  X := Unit
  res := fun _ => v
  post := fun _ w _ w' => Ext w w'
def sNilFeed : CallSpec := sNil (fun g => #[.pointer none, .slice g.ad g.xs.length g.c]) (.slice none 0 0)
def sNilEnd : CallSpec := sNil (fun _ => #[.pointer none]) (.slice none 0 0)
def sNilHeld : CallSpec := sNil (fun _ => #[.pointer none]) (.int .i64 0)

def sLawB : CallSpec where
  G := GSl
  args := fun g => #[.slice g.ad g.xs.length g.c]
  pre := fun _ w => U8 w
  X := Unit
  res := fun _ => .bool true
  post := fun _ w _ w' => Ext w w'
def spNil : List (Nat × CallSpec) := [(40, sNilFeed), (41, sNilEnd), (42, sNilHeld), (20, sYes U8)]

--#vc nilFeed_vc 40 sNilFeed (annOf []) []
--#vc nilEnd_vc 41 sNilEnd (annOf []) []
--#vc nilHeld_vc 42 sNilHeld (annOf []) []
--#vc lawNil_vc 11 sLawB (annOf spNil) spNil

end Go.Proofs.YthkcphnkllnfcaaDoor
