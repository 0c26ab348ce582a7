/-
  Specifications, chapter 2: laws on each number, on texts, on stretches.
-/
import Derived.Test.YtlklgngdagebfaaSpB
set_option linter.unusedVariables false
set_option linter.unusedSimpArgs false
namespace Go.Proofs.Ytlklgngdagebfaa
open Go Go.RowKit Vc Tb

def spWorks : List (Nat × CallSpec) := [(24, sPair), (29, sSpans), (11, sRuneX .i8 kindR), (13, sRuneX .i8 dirR), (15, sWide (fun w w' => Ext w w')), (17, sRuneX .u8 markR), (19, sRuneX .i8 joinR), (21, sRuneX .i8 brkR), (26, sRuneX .i32 mirF)]
def sWorks : CallSpec := sYes (fun _ => True)

/-- A law of a rune and a look. -/
def sLawRB : CallSpec where
  G := Int × Bool
  args := fun g => #[.int .i32 g.1, .bool g.2]
  pre := fun _ _ => True
  X := Unit
  res := fun _ => .bool true
  post := fun _ w _ w' => Ext w w'
def sLawR : CallSpec where
  G := Int
  args := fun g => #[.int .i32 g]
  pre := fun _ _ => True
  X := Unit
  res := fun _ => .bool true
  post := fun _ w _ w' => Ext w w'
def spTells : List (Nat × CallSpec) := [(11, sRuneX .i8 kindR), (12, sRune .i8 kindR), (13, sRuneX .i8 dirR), (14, sRune .i8 dirR), (15, sWide (fun w w' => Ext w w')), (16, sWide (fun w w' => w' = w)),
  (17, sRuneX .u8 markR), (18, sRune .u8 markR), (19, sRuneX .i8 joinR), (20, sRune .i8 joinR), (21, sRuneX .i8 brkR), (22, sRune .i8 brkR), (23, sWorks)]
def spMirrors : List (Nat × CallSpec) := [(24, sPair), (25, sPair), (26, sRuneX .i32 mirF), (27, sRuneX .i32 mirF), (23, sWorks)]

def ptrOf (v : Value) : Nat := match v with | .pointer (some ⟨b, _, _⟩) => b | _ => 0
structure GTx where
  s : ByteArray
  l : GSl
  b : Bool
def sLawTx : CallSpec where
  G := GTx
  args := fun g => #[.string g.s, .slice g.l.ad g.l.xs.length g.l.c, .bool g.b]
  pre := fun g w => CellsAt w g.l.ad (g.l.xs.map (Value.int .i32)) ∧ g.l.xs.length ≤ 35184372087808
  X := Unit
  res := fun _ => .bool true
  post := fun _ w _ w' => Ext w w'
def spTexts : List (Nat × CallSpec) := [(3, sLawRB), (4, sLawR), (23, sWorks)]
def annTexts (g : GTx) (w00 : World) : Ann where
  sp := spTexts
  cuts := [(4, 4, { X := Unit, sh := fun _ _ => [(24, .bool false)], inv := fun _ w0 _ w => Ext w0 w }), (9, 9, { X := Unit, sh := fun _ _ => [(39, .bool false)], inv := fun _ w0 _ w => Ext w0 w })]
  loops := [(2, {
    X := Nat
    sh := fun _ _ => []
    inv := fun e w0 i w => i ≤ g.s.size + 4 ∧ Fr (fun q => q = ptrOf (gv e 12)) w0 w ∧ gv e 12 = .pointer (some ⟨ptrOf (gv e 12), 0, none⟩) ∧ w.heap[ptrOf (gv e 12)]? = some (.stringIter g.s i)
    mu := fun _ _ i _ => g.s.size + 5 - i }), (7, {
    X := Nat
    sh := fun _ i => [(27, .int .i64 i)]
    inv := fun _ w0 i w => i ≤ g.l.xs.length ∧ Ext w0 w
    mu := fun _ _ i _ => g.l.xs.length - i })]

def sLawTV : CallSpec where
  G := Int × Int
  args := fun g => #[.int .i8 g.1, .int .i64 g.2]
  pre := fun _ _ => True
  X := Unit
  res := fun _ => .bool true
  post := fun _ w _ w' => Ext w w'
def blkN (v : Value) : Nat → Prop := match v with | .slice (some ⟨b, _, _⟩) _ _ => fun q => q = b | _ => fun _ => False
def spLawSp : List (Nat × CallSpec) := [(28, sSpans), (29, sSpans), (30, sSameSp), (23, sWorks)]
def annLawSp (g : Int × Int) (w00 : World) : Ann where
  sp := spLawSp
  frees := [(9, fun e => blkN (gv e 6)), (11, fun e => blkN (gv e 6))]
  cuts := [(4, 4, { X := Unit, sh := fun _ _ => [(28, .bool false)], inv := fun _ w0 _ w => Ext w0 w })]
  loops := [(7, {
    X := Nat
    sh := fun _ x => [(31, .int .i64 x)]
    inv := fun e w0 x w => x ≤ (spansT g.1 g.2).length ∧ (∃ a c vs, gv e 6 = .slice a (spansT g.1 g.2).length c ∧ Row w 38 2 a (spansT g.1 g.2).length vs c) ∧ Fr (blkN (gv e 6)) w0 w
    mu := fun _ _ x _ => (spansT g.1 g.2).length - x })]

--#vc works_vc 23 sWorks (annOf spWorks) spWorks
--#vc lawTells_vc 3 sLawRB (annOf spTells) spTells
--#vc lawMirrors_vc 4 sLawR (annOf spMirrors) spMirrors
--#vc lawTexts_vc 5 sLawTx annTexts spTexts
--#vc lawSp_vc 6 sLawTV annLawSp spLawSp

end Go.Proofs.Ytlklgngdagebfaa
