/-
  Specifications, chapter 2: brackets, mirrors, stretches.
-/
import Derived.Test.YtlklgngdagebfaaSpA
import Derived.Test.YtlklgngdagebfaaTp
set_option linter.unusedVariables false
set_option linter.unusedSimpArgs false
namespace Go.Proofs.Ytlklgngdagebfaa
open Go Go.RowKit Vc Tb

def sPair : CallSpec where
  G := Int
  args := fun r => #[.int .i32 r]
  pre := fun _ _ => True
  X := Int × Bool × Bool
  res := fun x => .tuple #[.int .i32 x.1, .bool x.2.1, .bool x.2.2]
  post := fun r w x w' => x = pairF r ∧ Ext w w'
def annPair (r : Int) (_ : World) : Ann where
  sp := []
  loops := [(2, {
    X := Nat
    sh := fun _ i => [(9, .int .i64 i)]
    inv := fun _ w0 i w => w = w0 ∧ i ≤ 30 ∧ ∀ j, j < i → braL.getD j 0 ≠ r
    mu := fun _ _ i _ => 30 - i })]
def spMir : List (Nat × CallSpec) := [(24, sPair)]

/-- A list of numbers, made anew. -/
def sLit (l : List Int) : CallSpec where
  G := Unit
  args := fun _ => #[]
  pre := fun _ _ => True
  X := Option Addr × Nat
  res := fun x => .slice x.1 l.length x.2
  post := fun _ w x w' => Made w w' 21 1 x.1 l.length (l.map (Value.int .i32)) x.2
structure GOth where
  l : GSl
  r : Int
def sOther : CallSpec where
  G := GOth
  args := fun g => #[.slice g.l.ad g.l.xs.length g.l.c, .int .i32 g.r]
  pre := fun g w => g.l.at .i32 w ∧ g.l.xs.length ≤ 30 ∧ g.l.xs.length % 2 = 0
  X := Int × Bool
  res := fun x => .tuple #[.int .i32 x.1, .bool x.2]
  post := fun g w x w' => x = otherF g.l.xs g.r ∧ w' = w
def annOther (g : GOth) (_ : World) : Ann where
  sp := []
  loops := [(2, {
    X := Nat
    sh := fun _ i => [(6, .int .i64 i)]
    inv := fun _ w0 i w => w = w0 ∧ i ≤ g.l.xs.length ∧ ∀ j, j < i → g.l.xs.getD j 0 ≠ g.r
    mu := fun _ _ i _ => g.l.xs.length - i })]
def spRPair : List (Nat × CallSpec) := [(40, sLit braL)]
def annRPair (r : Int) (_ : World) : Ann where
  sp := spRPair
  loops := [(3, {
    X := Nat
    sh := fun _ i => [(6, .int .i64 i)]
    inv := fun _ w0 i w => w = w0 ∧ i ≤ 30 ∧ ∀ j, j < i → braL.getD j 0 ≠ r
    mu := fun _ _ i _ => 30 - i })]
def spRMir : List (Nat × CallSpec) := [(40, sLit braL), (42, sLit mirL), (41, sOther)]

def sValue : CallSpec where
  G := Int × Int
  args := fun g => #[.int .i8 g.1, .int .i32 g.2]
  pre := fun _ _ => True
  X := Int × Bool
  res := fun x => .tuple #[.int .i64 x.1, .bool x.2]
  post := fun g w x w' => x = valueF g.1 g.2 ∧ w' = w
def spValue : List (Nat × CallSpec) := [(12, sRune .i8 kindR), (14, sRune .i8 dirR), (36, sRune .i64 widR), (18, sRune .u8 markR), (20, sRune .i8 joinR), (22, sRune .i8 brkR)]

def spV (p : Int × Int) : List Value := [.int .i32 p.1, .int .i32 p.2]
/-- The stretches of a table's value. -/
def sSpans : CallSpec where
  G := Int × Int
  args := fun g => #[.int .i8 g.1, .int .i64 g.2]
  pre := fun _ _ => True
  X := Option Addr × Nat × Nat
  res := fun x => .slice x.1 x.2.1 x.2.2
  post := fun g w x w' => x.2.1 = (spansT g.1 g.2).length ∧ Made w w' 38 2 x.1 x.2.1 ((spansT g.1 g.2).flatMap spV) x.2.2
def tabT (t : Int) : List (Int × Int) := if t = 0 then kindT else if t = 1 then dirT else if t = 2 then widT else if t = 3 then markT else if t = 4 then joinT else brkT
structure GSp where
  k : Nat
  r : Int
  out : List (Int × Int)
  a : Option Addr
  c : Nat
def spSpans : List (Nat × CallSpec) := [(32, sTab kindT), (34, sTab dirT), (35, sTab widT), (37, sTab markT), (38, sTab joinT), (39, sTab brkT)]
def annSpans (g : Int × Int) (_ : World) : Ann where
  sp := spSpans
  loops := [(18, {
    X := GSp
    sh := fun _ x => [(7, .int .i32 x.r), (6, .slice x.a x.out.length x.c)]
    inv := fun _ w0 x w => x.k ≤ 300 ∧ x.out.length ≤ x.k ∧ 0 ≤ x.r ∧ x.r ≤ 1114112 ∧ (x.r < 55296 ∨ 57344 ≤ x.r) ∧ x.out ++ pick g.2 (segsF (tabT g.1) (300 - x.k) x.r) = spansF (tabT g.1) g.2 ∧ doneF (tabT g.1) (300 - x.k) x.r = true ∧ Made w0 w 38 2 x.a x.out.length (x.out.flatMap spV) x.c
    mu := fun _ _ x _ => (1114113 - x.r).toNat })]
def spRSpans : List (Nat × CallSpec) := [(43, sLit bordL), (44, sValue)]
structure GRSp where
  i : Nat
  out : List (Int × Int)
  a : Option Addr
  c : Nat
def annRSpans (g : Int × Int) (w00 : World) : Ann where
  sp := spRSpans
  loops := [(4, {
    X := GRSp
    sh := fun _ x => [(7, .int .i64 x.i), (5, .slice x.a x.out.length x.c)]
    inv := fun _ w0 x w => x.i ≤ 457 ∧ x.out.length ≤ x.i ∧ (if (valueF g.1 0).2 then goF (bordL.drop x.i) ((bordL.map fun b => (valueF g.1 b).1).drop x.i) g.2 x.out else x.out) = refT g.1 g.2 ∧ Made w0 w 38 2 x.a x.out.length (x.out.flatMap spV) x.c
    mu := fun _ _ x _ => 457 - x.i })]

/-- Two lists of stretches are alike. -/
structure GSpS where
  a : Option Addr
  ac : Nat
  l : List (Int × Int)
  b : Option Addr
  bc : Nat
  m : List (Int × Int)
def sSameSp : CallSpec where
  G := GSpS
  args := fun g => #[.slice g.a g.l.length g.ac, .slice g.b g.m.length g.bc]
  pre := fun g w => CellsAt w g.a (g.l.flatMap spV) ∧ CellsAt w g.b (g.m.flatMap spV) ∧ g.l.length ≤ 1000000
  X := Bool
  res := fun x => .bool x
  post := fun g w x w' => x = decide (g.l = g.m) ∧ Ext w w'
def annSameSp (g : GSpS) (w00 : World) : Ann where
  sp := []
  loops := [(4, {
    X := Nat
    sh := fun _ i => [(13, .int .i64 i)]
    inv := fun _ _ i w => i ≤ g.l.length ∧ g.l.take i = g.m.take i ∧ Ext w00 w
    mu := fun _ _ i _ => g.l.length - i })]

--#vc pair_vc 24 sPair annPair []
--#vc mirror_vc 26 (sRuneX .i32 mirF) (annOf spMir) spMir
--#vc bras_vc 40 (sLit braL) (annOf []) []
--#vc mirs_vc 42 (sLit mirL) (annOf []) []
--#vc bords_vc 43 (sLit bordL) (annOf []) []
--#vc other_vc 41 sOther annOther []
--#vc rpair_vc 25 sPair annRPair spRPair
--#vc rmirror_vc 27 (sRuneX .i32 mirF) (annOf spRMir) spRMir
--#vc value_vc 44 sValue (annOf spValue) spValue
--#vc spans_vc 29 sSpans annSpans spSpans
--#vc rspans_vc 28 sSpans annRSpans spRSpans
--#vc sameSp_vc 30 sSameSp annSameSp []

end Go.Proofs.Ytlklgngdagebfaa
