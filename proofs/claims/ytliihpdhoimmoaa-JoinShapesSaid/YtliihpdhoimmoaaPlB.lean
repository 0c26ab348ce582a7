/-
  Chapter 11 in plain words: forms.
-/
import Derived.Test.YtliihpdhoimmoaaTbJoin
set_option linter.unusedVariables false
set_option linter.unusedSimpArgs false
namespace Go.Proofs.Ytliihpdhoimmoaa.Tb

/-- The first that is not passed through; none: 0. -/
def nextJ : List Int → Int
  | [] => 0
  | x :: r => if joinR x = 4 then nextJ r else joinR x

def formOf (k a b : Int) : Int :=
  if (k = 1 ∨ k = 2) ∧ (a = 2 ∨ a = 3) then (if k = 2 ∧ (b = 1 ∨ b = 2 ∨ b = 3) then 2 else 3)
  else if k = 2 ∧ (b = 1 ∨ b = 2 ∨ b = 3) then 1 else 0

def formR (xs : List Int) (i : Nat) : Int := formOf (joinR (xs.getD i 0)) (nextJ (xs.take i).reverse) (nextJ (xs.drop (i + 1)))
def formsR (xs : List Int) : List Int := (List.range xs.length).map (formR xs)

/-- The program's way: the last one that counts, and the forms so far. -/
def stepF (xs : List Int) (i : Nat) (s : Int × List Int) : Int × List Int :=
  let k := joinR (xs.getD i 0)
  if k = 4 then s
  else if (k = 1 ∨ k = 2 ∨ k = 3) ∧ 0 ≤ s.1 then
    let b := joinR (xs.getD s.1.toNat 0)
    if b ≠ 2 ∧ b ≠ 3 then (i, s.2)
    else
      let f1 := if k ≠ 3 then s.2.set i 3 else s.2
      (i, if b = 2 then f1.set s.1.toNat (if f1.getD s.1.toNat 0 = 3 then 2 else 1) else f1)
  else (i, s.2)
def runF (xs : List Int) : Nat → Int × List Int
  | 0 => (-1, List.replicate xs.length 0)
  | n + 1 => stepF xs n (runF xs n)
def formsA (xs : List Int) : List Int := (runF xs xs.length).2

theorem nextJ_bd (xs : List Int) : 0 ≤ nextJ xs ∧ nextJ xs ≤ 3 ∨ nextJ xs = joinR 0 ∨ True := .inr (.inr trivial)

end Go.Proofs.Ytliihpdhoimmoaa.Tb
