/-
  Specifications, chapter 1: the laws on the language's own range, on the way back.
-/
import Derived.Test.YthkcphnkllnfcaaDoorSpF
import Derived.Test.YthkcphnkllnfcaaDoorSpR
set_option linter.unusedVariables false
set_option linter.unusedSimpArgs false
namespace Go.Proofs.YthkcphnkllnfcaaDoor
open Go Go.RowKit Vc Ut

structure GSL where
  s : ByteArray
  l : GSl
def sLawSL : CallSpec where
  G := GSL
  args := fun g => #[.string g.s, .slice g.l.ad g.l.xs.length g.l.c]
  pre := fun g w => U8 w ∧ CellsAt w g.l.ad (g.l.xs.map (Value.int .i32)) ∧ g.s.size ≤ 1048576 ∧ g.l.xs.length ≤ 1048576
  X := Unit
  res := fun _ => .bool true
  post := fun _ w _ w' => Ext w w'

def spLang : List (Nat × CallSpec) := [(24, sSL .i32 21 runes), (29, sIter 54), (32, sSame .i32), (21, sLS runesBytes), (20, sYes U8)]
def annLang (g : GSL) (w00 : World) : Ann where
  sp := spLang
  ranges := [(8, {
    α := Nat × Int
    enc := encIt
    J := fun e w0 xs k D W => ∃ a c, D = (fun q => q = ptrB (gv e 8) ∨ blk a = some q) ∧ Grow W (ptrB (gv e 8)) 41 3 a c ((xs.take k).map fun p => .int .i64 (p.1 : Int))
    Jx := fun e w0 _ _ D W => (1 : Nat) = 0 })]
  cuts := [(13, 13, { X := Unit, sh := fun _ _ => [(56, .bool false)], inv := fun _ w0 _ w => w = w0 })]
  loops := [(11, {
    X := Nat
    sh := fun _ k => [(5, .int .i64 k)]
    inv := fun e w0 k w => k ≤ cnt g.s ∧ ∃ b, gv e 26 = .pointer (some ⟨b, 0, none⟩) ∧ Fr (fun q => q = b) w0 w ∧ w.heap[b]? = some (.stringIter g.s (pos g.s k))
    mu := fun _ _ k _ => cnt g.s - k })]

def spLBack : List (Nat × CallSpec) := [(30, sIter 55), (29, sIter 54), (14, sDec nxR nxN), (15, sDec lsR lsN), (20, sYes U8)]
def annLBack (s : ByteArray) (w00 : World) : Ann where
  sp := spLBack
  cuts := [(18, 18, { X := Unit, sh := fun _ _ => [(67, .bool false)], inv := fun _ w0 _ w => w = w0 }), (22, 22, { X := Unit, sh := fun _ _ => [(120, .bool false)], inv := fun _ w0 _ w => w = w0 })]
  ranges := [(8, {
    α := Nat × Int
    enc := encIt
    J := fun e w0 xs k D W => ∃ a ac c cc, D = (fun q => q = ptrB (gv e 5) ∨ q = ptrB (gv e 6) ∨ blk a = some q ∨ blk c = some q) ∧ Grow W (ptrB (gv e 5)) 41 3 a ac ((xs.take k).map fun p => .int .i64 (p.1 : Int)) ∧ Grow W (ptrB (gv e 6)) 26 21 c cc ((xs.take k).map fun p => .int .i32 p.2)
    Jx := fun e w0 _ _ D W => (1 : Nat) = 0 }), (15, {
    α := Nat × Int
    enc := encIt
    exs := [.ret]
    J := fun e w0 _ k D W => D = ones [ptrB (gv e 9), ptrB (gv e 10), ptrB (gv e 2)] ∧ W.heap[ptrB (gv e 9)]? = some (.cells #[.int .i64 ((cnt s : Int) - k)] 3) ∧ W.heap[ptrB (gv e 10)]? = some (.cells #[.int .i64 (pos s k : Int)] 3) ∧ (∃ v, W.heap[ptrB (gv e 2)]? = some (.cells #[.bool v] 4))
    Jx := fun e w0 _ _ D W => (1 : Nat) = 0 })]

--#vc lawLang_vc 7 sLawSL annLang spLang
--#vc lawBack_vc 8 sLawS annLBack spLBack

end Go.Proofs.YthkcphnkllnfcaaDoor
