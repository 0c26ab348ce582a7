/-
  Specifications, chapter 2: kinds and widths (as in the seat class).
-/
import Derived.Test.YtniiamobbgnjaaaDoorSpG
import Derived.Test.YtniiamobbgnjaaaDoorCl
import Derived.Test.YtniiamobbgnjaaaDoorTbKind
import Derived.Test.YtniiamobbgnjaaaDoorTbWid
set_option linter.unusedVariables false
set_option linter.unusedSimpArgs false
namespace Go.Proofs.YtniiamobbgnjaaaDoor
open Go Go.RowKit Vc Tb Cl

/-- A function of one rune that computes a small number and touches nothing. -/
def sRune (k : IntKind) (f : Int → Int) : CallSpec where
  G := Int
  args := fun r => #[.int .i32 r]
  pre := fun _ _ => True
  X := Int
  res := fun x => .int k x
  post := fun r w x w' => x = f r ∧ w' = w

/-- A function of one rune that computes a small number; new memory is made. -/
def sRuneX (k : IntKind) (f : Int → Int) : CallSpec where
  G := Int
  args := fun r => #[.int .i32 r]
  pre := fun _ _ => True
  X := Int
  res := fun x => .int k x
  post := fun r w x w' => x = f r ∧ Ext w w'

structure GFind where
  b : Nat
  T : List (Int × Int)
  r : Int

def CellsT (w : World) (b : Nat) (T : List (Int × Int)) : Prop :=
  ∀ j, j < T.length → w.cell? ⟨b, 0 + j * 2, none⟩ = some (.int .i32 (T.getD j (0, 0)).1) ∧ w.cell? ⟨b, 0 + j * 2 + 1, none⟩ = some (.int .u8 (T.getD j (0, 0)).2)

def sFind : CallSpec where
  G := GFind
  args := fun g => #[.slice (some ⟨g.b, 0, none⟩) g.T.length g.T.length, .int .i32 g.r]
  pre := fun g w => CellsT w g.b g.T ∧ 0 < g.T.length ∧ g.T.length ≤ 1000 ∧ boundsOk g.T = true ∧ (g.T.getD 0 (0, 0)).1 = 0
  X := Int × Int
  res := fun x => .tuple #[.int .u8 x.1, .int .i32 x.2]
  post := fun g w x w' => FindOk g.T (knownF g.r) x.1 x.2 ∧ Ext w w'

def annFind (g : GFind) : Ann where
  sp := []
  loops := [(4, {
    X := Nat × Nat
    sh := fun _ x => [(6, .int .i64 x.1), (7, .int .i64 x.2)]
    inv := fun _ w0 x w => x.1 < x.2 ∧ x.2 ≤ g.T.length ∧ (g.T.getD x.1 (0, 0)).1 ≤ knownF g.r ∧ (x.2 = g.T.length ∨ knownF g.r < (g.T.getD x.2 (0, 0)).1) ∧ w = w0
    mu := fun _ _ x _ => x.2 - x.1 })]
  cuts := [(1, 2, { X := Unit, sh := fun _ _ => [(1, .int .i32 (knownF g.r))], inv := fun _ w0 _ w => w = w0 })]

/-- A table's function: the step's value and its last number. -/
def sTab (T : List (Int × Int)) : CallSpec where
  G := Int
  args := fun r => #[.int .i32 r]
  pre := fun _ _ => True
  X := Int × Int
  res := fun x => .tuple #[.int .u8 x.1, .int .i32 x.2]
  post := fun r w x w' => FindOk T (knownF r) x.1 x.2 ∧ Ext w w'

def sWide (p : World → World → Prop) : CallSpec where
  G := Int × Bool
  args := fun g => #[.int .i32 g.1, .bool g.2]
  pre := fun _ _ => True
  X := Int
  res := fun x => .int .i64 x
  post := fun g w x w' => x = wideR g.1 g.2 ∧ p w w'

def spKnown : List (Nat × CallSpec) := [(63, sRune .i32 knownF)]
def spFind : List (Nat × CallSpec) := [(59, sFind)]
--#vc known_vc 63 (sRune .i32 knownF) (annOf []) []
--#vc find_vc 59 sFind (fun g _ => annFind g) []
def spKind : List (Nat × CallSpec) := [(48, sTab kindT)]
--#vc rkind_vc 54 (sRune .i8 kindR) (annOf spKnown) spKnown
--#vc kinds_vc 48 (sTab kindT) (annOf spFind) spFind
--#vc ckind_vc 36 (sRuneX .i8 kindR) (annOf spKind) spKind
def spWid : List (Nat × CallSpec) := [(60, sTab widT)]
def spCol : List (Nat × CallSpec) := [(66, sRune .i64 widR)]
--#vc rwid_vc 66 (sRune .i64 widR) (annOf spKnown) spKnown
--#vc wids_vc 60 (sTab widT) (annOf spFind) spFind
--#vc rwide_vc 64 (sWide (fun w w' => w' = w)) (annOf spCol) spCol
--#vc cwide_vc 49 (sWide (fun w w' => Ext w w')) (annOf spWid) spWid

end Go.Proofs.YtniiamobbgnjaaaDoor
