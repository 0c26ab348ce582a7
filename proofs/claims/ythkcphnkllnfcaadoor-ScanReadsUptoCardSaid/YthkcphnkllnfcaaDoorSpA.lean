/-
  Specifications, chapter 1: one step of the decoders, the library's and the document's.
-/
import Derived.Test.YthkcphnkllnfcaaDoorSpG
import Derived.Test.YthkcphnkllnfcaaDoorUr
set_option linter.unusedVariables false
set_option linter.unusedSimpArgs false
namespace Go.Proofs.YthkcphnkllnfcaaDoor
open Go Go.RowKit Vc Ut

/-- The library's two tables lie as they were laid. -/
def U8 (w : World) : Prop := Lib.Utf8Tabs 0 1 w

/-- A text's number and width. -/
def sDec (fr : ByteArray → Int) (fn : ByteArray → Nat) : CallSpec where
  G := ByteArray
  args := fun s => #[.string s]
  pre := fun s w => U8 w ∧ s.size ≤ 67108864
  X := Int × Nat
  res := fun x => .tuple #[.int .i32 x.1, .int .i64 x.2]
  post := fun s w x w' => x.1 = fr s ∧ x.2 = fn s ∧ Ext w w'

/-- A test of a text. -/
def sTest (f : ByteArray → Bool) : CallSpec where
  G := ByteArray
  args := fun s => #[.string s]
  pre := fun s w => U8 w ∧ s.size ≤ 67108864
  X := Bool
  res := fun x => .bool x
  post := fun s w x w' => x = f s ∧ Ext w w'


def sWithin : CallSpec where
  G := Nat × Nat × Nat
  args := fun g => #[.int .u8 g.1, .int .u8 g.2.1, .int .u8 g.2.2]
  pre := fun _ _ => True
  X := Bool
  res := fun x => .bool x
  post := fun g w x w' => x = decide (g.2.1 ≤ g.1 ∧ g.1 ≤ g.2.2) ∧ w' = w
def sSecond : CallSpec where
  G := Nat
  args := fun g => #[.int .u8 g]
  pre := fun _ _ => True
  X := Nat × Nat × Nat
  res := fun x => .tuple #[.int .u8 x.1, .int .u8 x.2.1, .int .i64 x.2.2]
  post := fun g w x w' => x = secN g ∧ w' = w
def sBegins : CallSpec where
  G := ByteArray
  args := fun s => #[.string s]
  pre := fun s _ => s.size ≤ 67108864
  X := Nat × Nat
  res := fun x => .tuple #[.int .i64 x.1, .int .i64 x.2]
  post := fun s w x w' => x.1 = begN s ∧ x.2 = begS s ∧ w' = w
def annBegins (s : ByteArray) (w00 : World) : Ann where
  sp := [(62, sSecond), (63, sWithin)]
  loops := [(9, {
    X := Nat
    sh := fun _ n => [(7, .int .i64 n), (4, .int .u8 (loB s n)), (5, .int .u8 (hiB s n))]
    inv := fun e w0 n w => w = w0 ∧ 1 ≤ n ∧ n ≤ (secN (bt s 0)).2.2 ∧ n ≤ s.size ∧ runB s ((secN (bt s 0)).2.2 - n) n = runB s ((secN (bt s 0)).2.2 - 1) 1
    mu := fun _ _ n _ => s.size - n })]
def sNumber : CallSpec where
  G := ByteArray
  args := fun s => #[.string s]
  pre := fun s _ => 1 ≤ s.size ∧ s.size ≤ 4
  X := Nat
  res := fun x => .int .i32 x
  post := fun s w x w' => x = numR s s.size ∧ Ext w w'
def annNumber (s : ByteArray) (w00 : World) : Ann where
  sp := []
  loops := [(4, {
    X := Nat
    sh := fun _ n => [(5, .int .i64 (n + 1)), (4, .int .i32 (numP s s.size n))]
    inv := fun _ w0 n w => n + 1 ≤ s.size ∧ Ext w0 w
    mu := fun _ _ n _ => s.size - n })]

def spSecond : List (Nat × CallSpec) := [(63, sWithin)]
def spBegins : List (Nat × CallSpec) := [(62, sSecond), (63, sWithin)]
def spRNext : List (Nat × CallSpec) := [(49, sBegins), (50, sNumber)]
def spRWhole : List (Nat × CallSpec) := [(49, sBegins)]
def spNext : List (Nat × CallSpec) := [(48, sDec nxR nxN)]
def spWhole : List (Nat × CallSpec) := [(51, sTest wholeB)]
def spValid : List (Nat × CallSpec) := [(53, sTest validB)]

--#vc within_vc 63 sWithin (annOf []) []
--#vc second_vc 62 sSecond (annOf spSecond) spSecond
--#vc begins_vc 49 sBegins annBegins spBegins
--#vc number_vc 50 sNumber annNumber []
--#vc rnext_vc 16 (sDec nxR nxN) (annOf spRNext) spRNext
--#vc rwhole_vc 19 (sTest wholeB) (annOf spRWhole) spRWhole
--#vc next_vc 14 (sDec nxR nxN) (annOf spNext) spNext
--#vc whole_vc 18 (sTest wholeB) (annOf spWhole) spWhole
--#vc valid_vc 25 (sTest validB) (annOf spValid) spValid
--#vc full_vc 51 (sTest wholeB) (annOf []) []

end Go.Proofs.YthkcphnkllnfcaaDoor
