/-
  Specifications, chapter 11: the laws that ask nothing of the document's answer.
-/
import Derived.Test.YtliihpdhoimmoaaSpD
import Derived.Test.YtliihpdhoimmoaaPlE
set_option linter.unusedVariables false
set_option linter.unusedSimpArgs false
namespace Go.Proofs.Ytliihpdhoimmoaa
open Go Go.RowKit Vc Tb

/-! ### JoinBack -/
def sLawU : CallSpec where
  G := GSl
  args := fun g => #[.slice g.ad g.xs.length g.c]
  pre := fun g w => g.at .i32 w ∧ g.xs.length ≤ 2097152
  X := Unit
  res := fun _ => .bool true
  post := fun _ w _ w' => Ext w w'

def spBack : List (Nat × CallSpec) := [(16, sYes), (18, sList .i32 .i32 21 shapedR), (25, sListU .i32 .i32 21 (fun xs => xs.flatMap plainR)),
  (19, sSame .i32), (26, sRuneX .i8 joinR)]
def annBack (g : GSl) (w00 : World) : Ann where
  sp := spBack
  loops := [(7, {
    X := Nat
    sh := fun _ i => [(25, .int .i64 i)]
    inv := fun e _ i w => i ≤ g.xs.length ∧ Ext w00 w ∧ ∃ a c, gv e 3 = .slice a g.xs.length c ∧ CellsAt w a ((shapedR g.xs).map (Value.int .i32))
    mu := fun _ _ i _ => g.xs.length - i })]

/-! ### JoinMarks -/
structure GMarks where
  l : GSl
  at' : GSl
  mark : Int
def GMarks.m (g : GMarks) : Int := if joinR g.mark = 4 then g.mark else 1611

def sLawMarks : CallSpec where
  G := GMarks
  args := fun g => #[.slice g.l.ad g.l.xs.length g.l.c, .slice g.at'.ad g.at'.xs.length g.at'.c, .int .i32 g.mark]
  pre := fun g w => g.l.at .i32 w ∧ g.at'.at .i64 w ∧ g.l.xs.length ≤ 1048576 ∧ g.at'.xs.length ≤ 1048576
  X := Unit
  res := fun _ => .bool true
  post := fun _ w _ w' => Ext w w'

def spMarks : List (Nat × CallSpec) := [(16, sYes), (26, sRuneX .i8 joinR), (12, sList .i32 .i8 27 formsR)]

structure SM where
  i : Nat
  wa : Option Addr
  wc : Nat
  oa : Option Addr
  oc : Nat

def ownL (g : GMarks) (i : Nat) : List Int := (List.range (min i g.l.xs.length)).map (ownM g.l.xs g.at'.xs g.m)
def wL (g : GMarks) (i : Nat) : List Int := withM g.l.xs g.at'.xs g.m i
def wJ (g : GMarks) (i j : Nat) : List Int := wL g i ++ List.replicate ((g.at'.xs.take j).count (i : Int)) g.m
def TwoRows (g : GMarks) (w00 w : World) (i : Nat) (wa : Option Addr) (ws : List Int) (wc : Nat) (oa : Option Addr) (oc : Nat) : Prop :=
  Made w00 w 21 1 wa ws.length (ws.map (Value.int .i32)) wc ∧ Made w00 w 3 1 oa (ownL g i).length ((ownL g i).map (Value.int .i64)) oc ∧ (∀ q, blk wa = some q → blk oa ≠ some q)
def WasAt (g : GMarks) (v : Value) (w : World) : Prop := ∃ a c, v = .slice a g.l.xs.length c ∧ CellsAt w a ((formsR g.l.xs).map (Value.int .i8))

def annMarks (g : GMarks) (w00 : World) : Ann where
  sp := spMarks
  cuts := [(3, 4, { X := Unit, sh := fun _ _ => [(2, .int .i32 g.m)], inv := fun _ w0 _ w => Ext w0 w })]
  loops := [(9, {
    X := SM
    sh := fun _ x => [(10, .int .i64 x.i), (8, .slice x.wa (wL g x.i).length x.wc), (9, .slice x.oa (ownL g x.i).length x.oc)]
    inv := fun e w0 x w => x.i ≤ g.l.xs.length + 1 ∧ TwoRows g w0 w x.i x.wa (wL g x.i) x.wc x.oa x.oc
    mu := fun _ _ x _ => g.l.xs.length + 1 - x.i }),
   (12, {
    X := Nat × Option Addr × Nat
    sh := fun e x => [(31, .int .i64 x.1), (8, .slice x.2.1 (wJ g (gi e 10).toNat x.1).length x.2.2)]
    inv := fun e w0 x w => x.1 ≤ g.at'.xs.length ∧ ∃ i oa oc wa wc, gi e 10 = ((i : Nat) : Int) ∧ gv e 9 = .slice oa (ownL g i).length oc ∧ gv e 8 = .slice wa (wL g i).length wc ∧ ∀ W2, TwoRows g W2 w0 i wa (wL g i) wc oa oc → TwoRows g W2 w i x.2.1 (wJ g i x.1) x.2.2 oa oc
    mu := fun _ _ x _ => g.at'.xs.length - x.1 }),
   (24, {
    X := Nat
    sh := fun _ i => [(75, .int .i64 i)]
    inv := fun _ w0 i w => i ≤ g.l.xs.length ∧ Ext w0 w
    mu := fun _ _ i _ => g.l.xs.length - i }),
   (30, {
    X := Nat
    sh := fun _ i => [(93, .int .i64 i)]
    inv := fun _ w0 i w => i ≤ (wL g (g.l.xs.length + 1)).length ∧ Ext w0 w
    mu := fun _ _ i _ => (wL g (g.l.xs.length + 1)).length - i })]

/-! ### JoinMutual -/
def spMutual : List (Nat × CallSpec) := [(16, sYes), (26, sRuneX .i8 joinR), (12, sList .i32 .i8 27 formsR)]
def annMutual (g : GSl) (w00 : World) : Ann where
  sp := spMutual
  cuts := [(11, 11, { X := Unit, sh := fun e _ => [(8, .bool (decide (gi e 7 = 1 ∨ gi e 7 = 2)))], inv := fun _ w0 _ w => w = w0 }),
    (12, 12, { X := Unit, sh := fun _ _ => [(76, .bool false)], inv := fun _ w0 _ w => w = w0 }),
    (15, 15, { X := Unit, sh := fun e _ => [(9, .bool (decide ((formsR g.xs).getD (gi e 5).toNat 0 = 3 ∨ (formsR g.xs).getD (gi e 5).toNat 0 = 2)))], inv := fun _ w0 _ w => w = w0 }),
    (19, 19, { X := Unit, sh := fun e _ => [(10, .bool (decide ((formsR g.xs).getD (gi e 4).toNat 0 = 1 ∨ (formsR g.xs).getD (gi e 4).toNat 0 = 2)))], inv := fun _ w0 _ w => w = w0 }),
    (21, 21, { X := Unit, sh := fun _ _ => [(142, .bool false)], inv := fun _ w0 _ w => w = w0 })]
  loops := [(8, {
    X := Nat
    sh := fun _ i => [(23, .int .i64 i), (4, .int .i64 (lastR g.xs i))]
    inv := fun e _ i w => i ≤ g.xs.length ∧ Ext w00 w ∧ ∃ a c, gv e 3 = .slice a g.xs.length c ∧ CellsAt w a ((formsR g.xs).map (Value.int .i8))
    mu := fun _ _ i _ => g.xs.length - i })]

--#vc back_vc 6 sLawU annBack spBack
--#vc marks_vc 7 sLawMarks annMarks spMarks
--#vc mutual_vc 8 sLawL annMutual spMutual

end Go.Proofs.Ytliihpdhoimmoaa
