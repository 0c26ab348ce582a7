/-
  Specifications, chapter 1: the law on readers.
-/
import Derived.Test.YthkcphnkllnfcaaDoorSpT
import Derived.Test.YthkcphnkllnfcaaDoorSpE
set_option linter.unusedVariables false
set_option linter.unusedSimpArgs false
namespace Go.Proofs.YthkcphnkllnfcaaDoor
open Go Go.RowKit Vc Ut

/-- A step that came in. -/
structure St where
  d : Int
  ad : Option Addr
  c : Nat
  s : ByteArray
def stV (x : St) : List Value := [.int .i64 x.d, .slice x.ad x.s.size x.c]
structure GSt where
  ad : Option Addr
  c : Nat
  l : List St
def StAt (w : World) (g : GSt) : Prop := CellsAt w g.ad (g.l.flatMap stV) ∧ ∀ x ∈ g.l, CellsAt w x.ad (bytesV x.s) ∧ x.s.size ≤ 1048576
def sMuch : CallSpec where
  G := GSt
  args := fun g => #[.slice g.ad g.l.length g.c]
  pre := fun g w => StAt w g ∧ g.l.length ≤ 1048576
  X := Bool
  res := fun x => .bool x
  post := fun g w x w' => w' = w
def annMuch (g : GSt) (w00 : World) : Ann where
  sp := []
  loops := [(3, {
    X := Nat × Nat
    sh := fun _ x => [(4, .int .i64 x.1), (3, .int .i64 x.2)]
    inv := fun _ w0 x w => w = w0 ∧ x.1 ≤ g.l.length ∧ x.2 ≤ 16777216
    mu := fun _ _ x _ => g.l.length - x.1 })]

structure GStep where
  rb : Nat
  ha : Option Addr
  hc : Nat
  fb : Nat
  h : ByteArray
  x : St
/-- The two blocks of a pair of readers. -/
def two (a b : Nat) : Nat → Prop := fun q => q = a ∨ q = b
def sStep : CallSpec where
  G := GStep
  args := fun g => #[.pointer (some ⟨g.rb, 0, none⟩), .pointer (some ⟨g.fb, 0, none⟩), .agg #[.int .i64 g.x.d, .slice g.x.ad g.x.s.size g.x.c]]
  pre := fun g w => U8 w ∧ RdIn w g.rb g.ha g.hc g.h ∧ RfIn w g.fb g.h ∧ CellsAt w g.x.ad (bytesV g.x.s) ∧ g.h.size ≤ 3 ∧ g.x.s.size ≤ 1048576
  X := ByteArray × Option Addr × Nat
  res := fun _ => .bool true
  post := fun g w x w' => x.1.size ≤ 3 ∧ RdIn w' g.rb x.2.1 x.2.2 x.1 ∧ RfIn w' g.fb x.1 ∧ Fr (two g.rb g.fb) w w'
def spStep : List (Nat × CallSpec) := [(59, sRFeed), (40, sFeed), (22, sSame .i32), (60, sREnd), (41, sEnd), (42, sHeldN), (46, sRHeld)]
def annStep (g : GStep) (w00 : World) : Ann where
  sp := spStep
  frees := [(11, fun e => slN (gv e 7)), (15, fun e => slN (gv e 10))]
  cuts := [(7, 7, { X := Unit, sh := fun _ _ => [(11, .bool true)], inv := fun _ w0 _ w => Ext w0 w })]
  loops := [(9, {
    X := Nat
    sh := fun _ i => [(12, .int .i64 i)]
    inv := fun e w0 i w => i ≤ g.x.s.size + 2 ∧ (∃ a c vs, gv e 7 = .slice a (g.x.s.size + 2) c ∧ Row w 5 1 a (g.x.s.size + 2) vs c) ∧ Fr (slN (gv e 7)) w0 w
    mu := fun _ _ i _ => g.x.s.size + 2 - i }), (13, {
    X := Nat
    sh := fun _ i => [(13, .int .i64 i)]
    inv := fun e w0 i w => i ≤ (fdR (g.h ++ g.x.s)).length ∧ (∃ a c vs, gv e 10 = .slice a (fdR (g.h ++ g.x.s)).length c ∧ Row w 21 1 a (fdR (g.h ++ g.x.s)).length vs c) ∧ Fr (slN (gv e 10)) w0 w
    mu := fun _ _ i _ => (fdR (g.h ++ g.x.s)).length - i })]

structure GRs where
  a : GSt
  b : GSt
def sLawRs : CallSpec where
  G := GRs
  args := fun g => #[.slice g.a.ad g.a.l.length g.a.c, .slice g.b.ad g.b.l.length g.b.c]
  pre := fun g w => U8 w ∧ StAt w g.a ∧ StAt w g.b ∧ g.a.l.length ≤ 1048576 ∧ g.b.l.length ≤ 1048576
  X := Unit
  res := fun _ => .bool true
  post := fun _ w _ w' => Ext w w'
def spRs : List (Nat × CallSpec) := [(43, sMuch), (44, sNew), (45, sStep), (42, sHeldN), (46, sRHeld), (20, sYes U8)]
structure GRp where
  ha : Option Addr
  hc : Nat
  h : ByteArray
def annRs (g : GRs) (w00 : World) : Ann where
  sp := spRs
  cuts := [(12, 15, { X := GRp, sh := fun _ _ => [], inv := fun e w0 x w => x.h.size ≤ 3 ∧ RdIn w (ptrB (gv e 5)) x.ha x.hc x.h ∧ RfIn w (ptrB (gv e 7)) x.h ∧ Fr (two (ptrB (gv e 5)) (ptrB (gv e 7))) w0 w })]
  loops := [(10, {
    X := Nat × GRp × GRp
    sh := fun _ x => [(9, .int .i64 x.1)]
    inv := fun e w0 x w => x.1 ≤ 1048576 ∧ x.2.1.h.size ≤ 3 ∧ x.2.2.h.size ≤ 3 ∧ RdIn w (ptrB (gv e 5)) x.2.1.ha x.2.1.hc x.2.1.h ∧ RdIn w (ptrB (gv e 6)) x.2.2.ha x.2.2.hc x.2.2.h ∧ RfIn w (ptrB (gv e 7)) x.2.1.h ∧ RfIn w (ptrB (gv e 8)) x.2.2.h ∧ Ext w00 w
    mu := fun _ _ x _ => 1048577 - x.1 })]

--#vc much_vc 43 sMuch annMuch []
--#vc step_vc 45 sStep annStep spStep
--#vc lawRs_vc 12 sLawRs annRs spRs

end Go.Proofs.YthkcphnkllnfcaaDoor
