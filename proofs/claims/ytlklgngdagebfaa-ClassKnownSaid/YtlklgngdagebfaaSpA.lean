/-
  Specifications, chapter 2: the tables, the document's and the program's.
-/
import Derived.Test.YtlklgngdagebfaaSpG
import Derived.Test.YtlklgngdagebfaaTbKind
import Derived.Test.YtlklgngdagebfaaTbDir
import Derived.Test.YtlklgngdagebfaaTbJoin
import Derived.Test.YtlklgngdagebfaaTbBrk
import Derived.Test.YtlklgngdagebfaaTbWid
import Derived.Test.YtlklgngdagebfaaTbMark
set_option linter.unusedVariables false
set_option linter.unusedSimpArgs false
namespace Go.Proofs.Ytlklgngdagebfaa
open Go Go.RowKit Vc Tb

/-- A function of one rune that computes a small number and touches nothing. -/
def sRune (k : IntKind) (f : Int → Int) : CallSpec where
  G := Int
  args := fun r => #[.int .i32 r]
  pre := fun _ _ => True
  X := Int
  res := fun x => .int k x
  post := fun r w x w' => x = f r ∧ w' = w

/-- A function of one rune that computes a small number; new memory is made. -/
def sRuneX (k : IntKind) (f : Int → Int) : CallSpec where
  G := Int
  args := fun r => #[.int .i32 r]
  pre := fun _ _ => True
  X := Int
  res := fun x => .int k x
  post := fun r w x w' => x = f r ∧ Ext w w'

structure GFind where
  b : Nat
  T : List (Int × Int)
  r : Int

def CellsT (w : World) (b : Nat) (T : List (Int × Int)) : Prop :=
  ∀ j, j < T.length → w.cell? ⟨b, 0 + j * 2, none⟩ = some (.int .i32 (T.getD j (0, 0)).1) ∧ w.cell? ⟨b, 0 + j * 2 + 1, none⟩ = some (.int .u8 (T.getD j (0, 0)).2)

def sFind : CallSpec where
  G := GFind
  args := fun g => #[.slice (some ⟨g.b, 0, none⟩) g.T.length g.T.length, .int .i32 g.r]
  pre := fun g w => CellsT w g.b g.T ∧ 0 < g.T.length ∧ g.T.length ≤ 1000 ∧ boundsOk g.T = true ∧ (g.T.getD 0 (0, 0)).1 = 0
  X := Int × Int
  res := fun x => .tuple #[.int .u8 x.1, .int .i32 x.2]
  post := fun g w x w' => FindOk g.T (knownF g.r) x.1 x.2 ∧ Ext w w'

def annFind (g : GFind) : Ann where
  sp := []
  loops := [(4, {
    X := Nat × Nat
    sh := fun _ x => [(6, .int .i64 x.1), (7, .int .i64 x.2)]
    inv := fun _ w0 x w => x.1 < x.2 ∧ x.2 ≤ g.T.length ∧ (g.T.getD x.1 (0, 0)).1 ≤ knownF g.r ∧ (x.2 = g.T.length ∨ knownF g.r < (g.T.getD x.2 (0, 0)).1) ∧ w = w0
    mu := fun _ _ x _ => x.2 - x.1 })]
  cuts := [(1, 2, { X := Unit, sh := fun _ _ => [(1, .int .i32 (knownF g.r))], inv := fun _ w0 _ w => w = w0 })]

/-- A table's function: the step's value and its last number. -/
def sTab (T : List (Int × Int)) : CallSpec where
  G := Int
  args := fun r => #[.int .i32 r]
  pre := fun _ _ => True
  X := Int × Int
  res := fun x => .tuple #[.int .u8 x.1, .int .i32 x.2]
  post := fun r w x w' => FindOk T (knownF r) x.1 x.2 ∧ Ext w w'

/-- Columns, with what is ambiguous told. -/
def wideR (r : Int) (b : Bool) : Int := if widR r < 3 then widR r else if b then 2 else 1
def sWide (p : World → World → Prop) : CallSpec where
  G := Int × Bool
  args := fun g => #[.int .i32 g.1, .bool g.2]
  pre := fun _ _ => True
  X := Int
  res := fun x => .int .i64 x
  post := fun g w x w' => x = wideR g.1 g.2 ∧ p w w'

def spKnown : List (Nat × CallSpec) := [(33, sRune .i32 knownF)]
def spFind : List (Nat × CallSpec) := [(45, sFind)]
--#vc known_vc 33 (sRune .i32 knownF) (annOf []) []
--#vc find_vc 45 sFind (fun g _ => annFind g) []
def spKind : List (Nat × CallSpec) := [(32, sTab kindT)]
--#vc rkind_vc 12 (sRune .i8 kindR) (annOf spKnown) spKnown
--#vc kinds_vc 32 (sTab kindT) (annOf spFind) spFind
--#vc ckind_vc 11 (sRuneX .i8 kindR) (annOf spKind) spKind
def spDir : List (Nat × CallSpec) := [(34, sTab dirT)]
--#vc rdir_vc 14 (sRune .i8 dirR) (annOf spKnown) spKnown
--#vc dirs_vc 34 (sTab dirT) (annOf spFind) spFind
--#vc cdir_vc 13 (sRuneX .i8 dirR) (annOf spDir) spDir
def spJoin : List (Nat × CallSpec) := [(38, sTab joinT)]
--#vc rjoin_vc 20 (sRune .i8 joinR) (annOf spKnown) spKnown
--#vc joins_vc 38 (sTab joinT) (annOf spFind) spFind
--#vc cjoin_vc 19 (sRuneX .i8 joinR) (annOf spJoin) spJoin
def spBreak : List (Nat × CallSpec) := [(39, sTab brkT)]
--#vc rbrk_vc 22 (sRune .i8 brkR) (annOf spKnown) spKnown
--#vc brks_vc 39 (sTab brkT) (annOf spFind) spFind
--#vc cbrk_vc 21 (sRuneX .i8 brkR) (annOf spBreak) spBreak
def spMark : List (Nat × CallSpec) := [(37, sTab markT)]
--#vc rmark_vc 18 (sRune .u8 markR) (annOf spKnown) spKnown
--#vc marks_vc 37 (sTab markT) (annOf spFind) spFind
--#vc cmark_vc 17 (sRuneX .u8 markR) (annOf spMark) spMark
def spWid : List (Nat × CallSpec) := [(35, sTab widT)]
def spCol : List (Nat × CallSpec) := [(36, sRune .i64 widR)]
--#vc rwid_vc 36 (sRune .i64 widR) (annOf spKnown) spKnown
--#vc wids_vc 35 (sTab widT) (annOf spFind) spFind
--#vc rwide_vc 16 (sWide (fun w w' => w' = w)) (annOf spCol) spCol
--#vc cwide_vc 15 (sWide (fun w w' => Ext w w')) (annOf spWid) spWid

end Go.Proofs.Ytlklgngdagebfaa
