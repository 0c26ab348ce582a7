/-
  Specifications, chapter 3: what a character is, the program's words and the document's.
-/
import Derived.Test.YtniiamobbgnjaaaDoorSpK
set_option linter.unusedVariables false
set_option linter.unusedSimpArgs false
namespace Go.Proofs.YtniiamobbgnjaaaDoor
open Go Go.RowKit Vc Tb Cl

/-- A test of a rune. -/
def sRB (f : Int → Bool) : CallSpec where
  G := Int
  args := fun r => #[.int .i32 r]
  pre := fun _ _ => True
  X := Bool
  res := fun x => .bool x
  post := fun r w x w' => x = f r ∧ Ext w w'
/-- A rune's number. -/
def sRN (f : Int → Nat) : CallSpec where
  G := Int
  args := fun r => #[.int .i32 r]
  pre := fun _ _ => True
  X := Nat
  res := fun x => .int .i64 x
  post := fun r w x w' => x = f r ∧ Ext w w'
def sTwoB (f : Int → Int → Bool) : CallSpec where
  G := Int × Int
  args := fun g => #[.int .i32 g.1, .int .i32 g.2]
  pre := fun _ _ => True
  X := Bool
  res := fun x => .bool x
  post := fun g w x w' => x = f g.1 g.2 ∧ Ext w w'
structure GTk where
  x : Int
  z : Int
  y : Int
  n : Nat
def sTakes : CallSpec where
  G := GTk
  args := fun g => #[.int .i32 g.x, .int .i32 g.z, .int .i32 g.y, .int .i64 g.n]
  pre := fun _ _ => True
  X := Bool
  res := fun x => .bool x
  post := fun g w x w' => x = takesB g.x g.z g.y g.n ∧ Ext w w'
/-- The program's numbers for parts of syllables. -/
def bitN : Nat → Nat
  | 1 => 1
  | 2 => 2
  | 3 => 4
  | 4 => 8
  | 5 => 16
  | _ => 0
def partP (r : Int) : Nat := bitN (partN r)

def spPic : List (Nat × CallSpec) := [(36, sRuneX .i8 kindR), (49, sWide (fun w w' => Ext w w'))]
def spRPic : List (Nat × CallSpec) := [(54, sRune .i8 kindR), (64, sWide (fun w w' => w' = w))]
def spAlone : List (Nat × CallSpec) := [(36, sRuneX .i8 kindR), (37, sRB joinB)]
def spRAlone : List (Nat × CallSpec) := [(54, sRune .i8 kindR), (55, sRB joinB)]
def spGoes : List (Nat × CallSpec) := [(50, sRN partP)]
def spSyl : List (Nat × CallSpec) := [(65, sRN partN)]
def spTakes : List (Nat × CallSpec) := [(54, sRune .i8 kindR), (55, sRB joinB), (56, sRB regB), (57, sRB picB), (58, sTwoB sylB)]

--#vc regional_vc 38 (sRB regB) (annOf []) []
--#vc joiner_vc 37 (sRB joinB) (annOf []) []
--#vc picture_vc 39 (sRB picB) (annOf spPic) spPic
--#vc alone_vc 35 (sRB aloneB) (annOf spAlone) spAlone
--#vc part_vc 50 (sRN partP) (annOf []) []
--#vc goesP_vc 40 (sTwoB sylB) (annOf spGoes) spGoes
--#vc rregional_vc 56 (sRB regB) (annOf []) []
--#vc rjoiner_vc 55 (sRB joinB) (annOf []) []
--#vc rpicture_vc 57 (sRB picB) (annOf spRPic) spRPic
--#vc ralone_vc 45 (sRB aloneB) (annOf spRAlone) spRAlone
--#vc rpart_vc 65 (sRN partN) (annOf []) []
--#vc syl_vc 58 (sTwoB sylB) (annOf spSyl) spSyl
--#vc takes_vc 46 sTakes (annOf spTakes) spTakes

end Go.Proofs.YtniiamobbgnjaaaDoor
