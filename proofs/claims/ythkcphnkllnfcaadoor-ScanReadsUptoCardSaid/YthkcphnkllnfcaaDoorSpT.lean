/-
  Specifications, chapter 1: the law on pieces.
-/
import Derived.Test.YthkcphnkllnfcaaDoorSpM
set_option linter.unusedVariables false
set_option linter.unusedSimpArgs false
namespace Go.Proofs.YthkcphnkllnfcaaDoor
open Go Go.RowKit Vc Ut

def sRound : CallSpec where
  G := Int × Nat
  args := fun g => #[.int .i64 g.1, .int .i64 g.2]
  pre := fun g _ => 0 < g.2 ∧ g.2 ≤ 1073741824
  X := Nat
  res := fun x => .int .i64 x
  post := fun g w x w' => x < g.2 ∧ w' = w
def annRound (_ : Int × Nat) (_ : World) : Ann where
  sp := []
  wraps := [1]

structure GPc where
  b : GBy
  l : GSl
def sLawPc : CallSpec where
  G := GPc
  args := fun g => #[.slice g.b.ad g.b.s.size g.b.c, .slice g.l.ad g.l.xs.length g.l.c]
  pre := fun g w => U8 w ∧ CellsAt w g.b.ad (bytesV g.b.s) ∧ CellsAt w g.l.ad (g.l.xs.map (Value.int .i64)) ∧ g.b.s.size ≤ 1048576 ∧ g.b.s.size ≤ g.b.c ∧ g.l.xs.length ≤ 1048576
  X := Unit
  res := fun _ => .bool true
  post := fun _ w _ w' => Ext w w'
def spPc : List (Nat × CallSpec) := [(44, sNew), (40, sFeed), (42, sHeldN), (41, sEnd), (47, sRound), (24, sSL .i32 21 runes), (32, sSame .i32), (20, sYes U8)]
structure GPs where
  i : Nat
  at_ : Nat
  n : Nat
  a : Option Addr
  c : Nat
  h : ByteArray
  ha : Option Addr
  hc : Nat
def annPc (g : GPc) (w00 : World) : Ann where
  sp := spPc
  frees := [(10, fun e => ones [ptrB (gv e 5)]), (14, fun e => ones [ptrB (gv e 5)]), (18, fun e => ones [ptrB (gv e 5)])]
  loops := [(7, {
    X := GPs
    sh := fun _ x => [(8, .int .i64 x.i), (7, .int .i64 x.at_), (6, .slice x.a x.n x.c)]
    inv := fun e w0 x w => x.i ≤ g.l.xs.length ∧ x.at_ ≤ g.b.s.size ∧ x.n ≤ cnt g.b.s ∧ x.h.size ≤ 3 ∧ (runes g.b.s).take x.n ++ runes (x.h ++ g.b.s.extract x.at_ g.b.s.size) = runes g.b.s ∧
      RdIn w (ptrB (gv e 5)) x.ha x.hc x.h ∧ Made w00 w 21 1 x.a x.n (((runes g.b.s).take x.n).map (Value.int .i32)) x.c
    mu := fun _ _ x _ => g.l.xs.length - x.i })]

--#vc round_vc 47 sRound annRound []
--#vc lawPc_vc 13 sLawPc annPc spPc

end Go.Proofs.YthkcphnkllnfcaaDoor
