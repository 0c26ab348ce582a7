/-
  Specifications, chapter 2: the laws that do not ask the document's answer.
-/
import Derived.Test.YtlklgngdagebfaaSpC
import Derived.Test.YtlklgngdagebfaaTq
set_option linter.unusedVariables false
set_option linter.unusedSimpArgs false
namespace Go.Proofs.Ytlklgngdagebfaa
open Go Go.RowKit Vc Tb

def spKnown2 : List (Nat × CallSpec) := [(24, sPair), (29, sSpans), (11, sRuneX .i8 kindR), (13, sRuneX .i8 dirR), (15, sWide (fun w w' => Ext w w')), (17, sRuneX .u8 markR), (19, sRuneX .i8 joinR), (21, sRuneX .i8 brkR), (26, sRuneX .i32 mirF), (23, sWorks)]
def cutTo (s : Nat) (b : Bool) : CutAnn := { X := Unit, sh := fun _ _ => [(s, .bool b)], inv := fun _ w0 _ w => Ext w0 w }
def annKnown2 (_ : Unit) (_ : World) : Ann where
  sp := spKnown2
  cuts := [(1, 1, cutTo 1 true), (2, 2, cutTo 2 true), (3, 3, cutTo 3 true), (5, 5, cutTo 7 true)]

/-- What a table says of a number, by the functions. -/
def isF (t r : Int) : Int := if t = 0 then kindR r else if t = 1 then dirR r else if t = 2 then widR r else if t = 3 then markR r else if t = 4 then joinR r else brkR r
def sIs : CallSpec where
  G := Int × Int
  args := fun g => #[.int .i8 g.1, .int .i32 g.2]
  pre := fun _ _ => True
  X := Int
  res := fun x => .int .i64 x
  post := fun g w x w' => x = isF g.1 g.2 ∧ Ext w w'
def spIs : List (Nat × CallSpec) := [(11, sRuneX .i8 kindR), (13, sRuneX .i8 dirR), (15, sWide (fun w w' => Ext w w')), (17, sRuneX .u8 markR), (19, sRuneX .i8 joinR), (21, sRuneX .i8 brkR)]

def sHold : CallSpec where
  G := Int × Int × Int
  args := fun g => #[.int .i8 g.1, .int .i64 g.2.1, .int .i32 g.2.2]
  pre := fun _ _ => True
  X := Unit
  res := fun _ => .bool true
  post := fun _ w _ w' => Ext w w'
def spHold : List (Nat × CallSpec) := [(29, sSpans), (31, sIs), (23, sWorks)]
def annHold (g : Int × Int × Int) (_ : World) : Ann where
  sp := spHold
  cuts := [(10, 10, cutTo 75 false), (12, 12, cutTo 104 false)]
  loops := [(7, {
    X := Nat
    sh := fun _ i => [(28, .int .i64 i)]
    inv := fun _ w0 i w => i ≤ (spansT g.1 g.2.1).length ∧ Ext w0 w
    mu := fun _ _ i _ => (spansT g.1 g.2.1).length - i }), (19, {
    X := Nat
    sh := fun _ i => [(128, .int .i64 i), (10, .int .i64 (((spansT g.1 g.2.1).take i).countP (inS g.2.2)))]
    inv := fun _ w0 i w => i ≤ (spansT g.1 g.2.1).length ∧ Ext w0 w
    mu := fun _ _ i _ => (spansT g.1 g.2.1).length - i })]

def sLawT : CallSpec where
  G := Int
  args := fun g => #[.int .i8 g]
  pre := fun _ _ => True
  X := Unit
  res := fun _ => .bool true
  post := fun _ w _ w' => Ext w w'
def tilF (t : Int) : Nat → Nat
  | 0 => 0
  | k + 1 => tilF t k + lenF (spansT t ((k : Int) - 1))
def spTil : List (Nat × CallSpec) := [(29, sSpans), (23, sWorks)]
def annTil (g : Int) (_ : World) : Ann where
  sp := spTil
  loops := [(5, {
    X := Nat
    sh := fun _ k => [(4, .int .i64 ((k : Int) - 1)), (3, .int .i64 (tilF g k))]
    inv := fun _ w0 k w => k ≤ 262 ∧ Ext w0 w
    mu := fun _ _ k _ => 262 - k }), (9, {
    X := Nat × Nat
    sh := fun _ x => [(18, .int .i64 x.2), (3, .int .i64 ((tilF g x.1 + lenF ((spansT g ((x.1 : Int) - 1)).take x.2) : Nat) : Int))]
    inv := fun e w0 x w => x.1 < 262 ∧ gi e 4 = (x.1 : Int) - 1 ∧ x.2 ≤ (spansT g ((x.1 : Int) - 1)).length ∧ Ext w0 w
    mu := fun _ _ x _ => (spansT g ((x.1 : Int) - 1)).length - x.2 })]

def spAlike : List (Nat × CallSpec) := [(24, sPair), (11, sRuneX .i8 kindR), (13, sRuneX .i8 dirR), (15, sWide (fun w w' => Ext w w')), (17, sRuneX .u8 markR), (19, sRuneX .i8 joinR), (26, sRuneX .i32 mirF), (23, sWorks)]
def annAlike (_ : Int) (_ : World) : Ann where
  sp := spAlike
  cuts := [(11, 11, cutTo 80 false), (16, 16, cutTo 117 false)]

--#vc lawKnown_vc 10 sWorks annKnown2 spKnown2
--#vc is_vc 31 sIs (annOf spIs) spIs
--#vc lawHold_vc 7 sHold annHold spHold
--#vc lawTil_vc 8 sLawT annTil spTil
--#vc lawAlike_vc 9 sLawR annAlike spAlike

end Go.Proofs.Ytlklgngdagebfaa
