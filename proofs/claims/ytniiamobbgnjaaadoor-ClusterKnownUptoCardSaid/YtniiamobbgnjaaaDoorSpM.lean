/-
  Specifications, chapter 3: the laws.
-/
import Derived.Test.YtniiamobbgnjaaaDoorSpL
set_option linter.unusedVariables false
set_option linter.unusedSimpArgs false
namespace Go.Proofs.YtniiamobbgnjaaaDoor
open Go Go.RowKit Vc Ut Tb Cl

/-- A law over a text and a number. -/
def sLawSI : CallSpec where
  G := ByteArray × Int
  args := fun g => #[.string g.1, .int .i64 g.2]
  pre := fun g w => U8 w ∧ g.1.size ≤ 1048576 ∧ -9223372036854775808 ≤ g.2 ∧ g.2 ≤ 9223372036854775807
  X := Unit
  res := fun _ => .bool true
  post := fun _ w _ w' => Ext w w'
/-- .. over a text. -/
def sLawS : CallSpec where
  G := ByteArray
  args := fun s => #[.string s]
  pre := fun s w => U8 w ∧ s.size ≤ 1048576
  X := Unit
  res := fun _ => .bool true
  post := fun _ w _ w' => Ext w w'
structure GSn where
  s : ByteArray
  l : GSl
/-- .. over a text and a list of numbers. -/
def sLawSL : CallSpec where
  G := GSn
  args := fun g => #[.string g.s, .slice g.l.ad g.l.xs.length g.l.c]
  pre := fun g w => U8 w ∧ g.s.size ≤ 1048576 ∧ g.l.at .i64 w ∧ g.l.xs.length ≤ 1048576
  X := Unit
  res := fun _ => .bool true
  post := fun _ w _ w' => Ext w w'
structure GSb where
  a : ByteArray
  b : ByteArray
  k : Nat
/-- .. over two texts and a byte. -/
def sLawSSB : CallSpec where
  G := GSb
  args := fun g => #[.string g.a, .string g.b, .int .u8 g.k]
  pre := fun g w => U8 w ∧ g.a.size ≤ 1048576 ∧ g.b.size ≤ 1048576 ∧ g.k ≤ 255
  X := Unit
  res := fun _ => .bool true
  post := fun _ w _ w' => Ext w w'

def spLawAll : List (Nat × CallSpec) := [(9, sYes U8), (10, sRAllP), (12, sIter 47), (13, sBackC), (11, sTold), (14, sSN nextL), (15, sSN nextL), (16, sSN lastL), (17, sSN lastL), (18, sSN ncl), (19, sYes U8)]
def spLawAt : List (Nat × CallSpec) := [(9, sYes U8), (20, sAt), (21, sAt), (22, sIsB), (23, sIsB), (19, sYes U8)]
structure GLa where
  j : Nat
  a : Option Addr
  c : Nat
  xs : List Int
def annLawAt (g : GSn) (w00 : World) : Ann where
  sp := spLawAt
  cuts := [(5, 7, { X := GLa, sh := fun _ x => [(5, .slice x.a x.xs.length x.c)], inv := fun _ w0 x w => x.xs.length ≤ 2000000 ∧ Made w00 w 3 1 x.a x.xs.length (x.xs.map (Value.int .i64)) x.c })]
  loops := [(6, {
    X := GLa
    sh := fun _ x => [(6, .int .i64 ((x.j : Int) - 1)), (5, .slice x.a x.xs.length x.c)]
    inv := fun _ w0 x w => x.j ≤ g.s.size + 3 ∧ (0 < x.j → g.s.size < 200) ∧ x.xs.length = g.l.xs.length + x.j ∧ Made w00 w 3 1 x.a x.xs.length (x.xs.map (Value.int .i64)) x.c
    mu := fun _ _ x _ => g.s.size + 3 - x.j }), (10, {
    X := Nat
    sh := fun _ i => [(7, .int .i64 i)]
    inv := fun e w0 i w => i ≤ lenV (gv e 5) ∧ Ext w0 w
    mu := fun e _ i _ => lenV (gv e 5) - i })]

def spLawCut : List (Nat × CallSpec) := [(9, sYes U8), (12, sIter 47), (13, sBackC), (24, sPcs), (18, sSN ncl), (19, sYes U8), (25, sSameP), (22, sIsB), (20, sAt), (14, sSN nextL)]
def annLawCut (g : ByteArray × Int) (_ : World) : Ann where
  sp := spLawCut
  wraps := [16]
  loops := [(9, {
    X := Nat
    sh := fun _ i => [(8, .int .i64 i), (7, .int .i64 (bp g.1 i))]
    inv := fun _ w0 i w => i ≤ ncl g.1 ∧ Ext w0 w
    mu := fun _ _ i _ => ncl g.1 - i })]
  cuts := [(17, 18, { X := Nat, sh := fun _ n => [(9, .int .i64 n)], inv := fun _ w0 n w => n ≤ ncl g.1 ∧ Ext w0 w }),
    (20, 21, { X := Nat, sh := fun _ n => [(10, .int .i64 (bp g.1 n))], inv := fun e w0 n w => gi e 9 = (n : Int) ∧ Ext w0 w })]

def spLawOne : List (Nat × CallSpec) := [(9, sYes U8), (12, sIter 47), (24, sPcs), (14, sSN nextL), (16, sSN lastL), (27, sSN cnt), (28, sSL .i64 3 badL), (20, sAt), (22, sIsB), (19, sYes U8)]
def annLawOne (s : ByteArray) (_ : World) : Ann where
  sp := spLawOne
  cuts := [(8, 9, { X := Unit, sh := fun _ _ => [], inv := fun _ w0 _ w => Ext w0 w })]
  loops := [(5, {
    X := Nat
    sh := fun _ i => [(4, .int .i64 i)]
    inv := fun _ w0 i w => i ≤ ncl s ∧ Ext w0 w
    mu := fun _ _ i _ => ncl s - i }), (11, {
    X := Nat
    sh := fun _ k => [(6, .int .i64 k)]
    inv := fun e w0 k w => 1 ≤ k ∧ k ≤ s.size + 1 ∧ Ext w0 w
    mu := fun _ _ k _ => s.size + 1 - k })]

def spLawPart : List (Nat × CallSpec) := [(9, sYes U8), (12, sIter 47), (24, sPcs), (25, sSameP), (19, sYes U8)]

def spLawKn : List (Nat × CallSpec) := [(9, sYes U8), (26, sRow), (20, sAt), (22, sIsB), (14, sSN nextL), (16, sSN lastL), (19, sYes U8)]
/-- So many marks. -/
def mks (n : Nat) : List Int := (List.replicate n [204, 129]).flatten
def cutTo (d : Nat) (b : Bool) : CutAnn := { X := Unit, sh := fun _ _ => [(d, .bool b)], inv := fun _ w0 _ w => Ext w0 w }
def annLawKn (_ : Unit) (_ : World) : Ann where
  sp := spLawKn
  cuts := [(3, 3, cutTo 1 true), (4, 4, cutTo 2 true), (5, 5, cutTo 3 true), (6, 6, cutTo 3 true), (10, 10, cutTo 10 true)]
  loops := [(13, {
    X := Nat × Option Addr × Nat
    sh := fun _ x => [(12, .int .i64 x.1), (11, .slice x.2.1 (2 * x.1) x.2.2)]
    inv := fun _ w0 x w => x.1 ≤ 33 ∧ Made w0 w 5 1 x.2.1 (2 * x.1) ((mks x.1).map (Value.int .u8)) x.2.2
    mu := fun _ _ x _ => 33 - x.1 })]

--#vc lawAll_vc 3 sLawSI (annOf spLawAll) spLawAll
--#vc lawAt_vc 4 sLawSL annLawAt spLawAt
--#vc lawCut_vc 5 sLawSI annLawCut spLawCut
--#vc lawOne_vc 8 sLawS annLawOne spLawOne
--#vc lawPart_vc 6 sLawSSB (annOf spLawPart) spLawPart
--#vc lawKn_vc 7 (sYes U8) annLawKn spLawKn

end Go.Proofs.YtniiamobbgnjaaaDoor
