/-
  Texts joined by program: SpSd, VgSd, Sv, WkSg, WkSh.
-/
import Derived.Test.YthpjkgoahneldaaDoorSb01
import Derived.Test.YthpjkgoahneldaaDoorProg
import Derived.KernelRfl
import Derived.Test.YthpjkgoahneldaaDoorSb05
import Derived.Test.YthpjkgoahneldaaDoorSb06
set_option linter.unusedVariables false
set_option linter.unusedSimpArgs false

section
/-
  Specifications, chapter 6: the laws that do not ask the document.
-/
namespace Go.Proofs.YthpjkgoahneldaaDoor
open Go Go.RowKit Vc Ut Tb Cl

structure GBy where
  b : Nat
  col : Int
  l : Lk
def sLawBy : CallSpec where
  G := GBy
  args := fun g => #[.int .u8 g.b, .int .i64 g.col, lkV g.l]
  pre := fun g w => UD w ∧ g.b < 256
  X := Unit
  res := fun _ => .bool true
  post := fun _ w _ w' => Ext w w'
def spLawBy : List (Nat × CallSpec) := [(54, sShows), (45, sTextC), (47, sYes UD)]
def annLawBy (_ : GBy) (w00 : World) : Ann where
  sp := spLawBy
  loops := [(7, {
    X := Nat
    sh := fun _ i => [(9, .int .i64 i)]
    inv := fun _ _ i w => i ≤ 100 ∧ Ext w00 w
    mu := fun _ _ i _ => 100 - i })]
def mkL (n : Nat) : List UInt8 := (List.replicate n [204, 129]).flatten
def cutTo6 (d : Nat) : CutAnn := { X := Unit, sh := fun _ _ => [(d, .bool true)], inv := fun _ w0 _ w => Ext w0 w }
def spKn6 : List (Nat × CallSpec) := [(54, sShows), (48, sTxN wideS), (50, sTxN cutP), (52, sPlainC), (47, sYes UD)]
def annKn6 (_ : Unit) (_ : World) : Ann where
  sp := spKn6
  cuts := [(3, 3, cutTo6 3), (4, 4, cutTo6 4), (5, 5, cutTo6 5), (11, 11, cutTo6 5)]
  loops := [(8, {
    X := Nat × Option Addr × Nat
    sh := fun _ x => [(7, .int .i64 x.1), (6, .slice x.2.1 (2 * x.1) x.2.2)]
    inv := fun _ w0 x w => x.1 ≤ 32 ∧ Made w0 w 5 1 x.2.1 (2 * x.1) (u8L (mkL x.1)) x.2.2
    mu := fun _ _ x _ => 32 - x.1 })]

/-! ### Widths add up -/
structure GAd where
  s : ByteArray
  col : Int
  l : Lk
  w : Int
def sLawAd : CallSpec where
  G := GAd
  args := fun g => #[.string g.s, .int .i64 g.col, lkV g.l, .int .i64 g.w]
  pre := fun g w => U8 w ∧ DB w ∧ g.s.size ≤ 1048576
  X := Unit
  res := fun _ => .bool true
  post := fun _ w _ w' => Ext w w'
def colA (c : Int) : Int := if c < 0 ∨ 1073741824 < c then 0 else c
def lastA (s : ByteArray) (c : Int) (l : Lk) : Nat → Nat
  | 0 => 0
  | k + 1 => wdU s c l k
def bestA (s : ByteArray) (l : Lk) (w : Int) : Nat → Nat
  | 0 => 0
  | k + 1 => if (wdU s 0 l k : Int) ≤ w then bp s k else bestA s l w k
def spAd : List (Nat × CallSpec) := [(48, sTxN wideS), (55, sIter 101), (47, sYes UD), (50, sTxN cutP), (28, sIsB)]
def annAd (g : GAd) (_ : World) : Ann where
  sp := spAd
  cuts := [(1, 2, { X := Unit, sh := fun _ _ => [], inv := fun e w0 _ w => w.heap[ptrB (gv e 5)]? = some (.cells #[.int .i64 (colA g.col)] 3) ∧ Fr (fun q => q = ptrB (gv e 5)) w0 w }),
    (5, 6, { X := Unit, sh := fun _ _ => [], inv := fun _ w0 _ w => Ext w0 w }),
    (14, 15, { X := Unit, sh := fun _ _ => [], inv := fun _ w0 _ w => Ext w0 w })]
  ranges := [(12, {
    α := Nat × ByteArray
    enc := encPc
    exs := [.ret]
    J := fun e w0 xs k D W => D = ones [ptrB (gv e 8), ptrB (gv e 12), ptrB (gv e 13), ptrB (gv e 14)] ∧ (∃ v, W.heap[ptrB (gv e 8)]? = some (.cells #[.bool v] 4)) ∧ W.heap[ptrB (gv e 12)]? = some (.cells #[.int .i64 (bestA g.s g.l g.w k : Nat)] 3) ∧ W.heap[ptrB (gv e 13)]? = some (.cells #[.int .i64 (k : Nat)] 3) ∧ W.heap[ptrB (gv e 14)]? = some (.cells #[.int .i64 (lastA g.s (redC (colA g.col) g.l) g.l k : Nat)] 3)
    Jx := fun e w0 _ _ D W => D = ones [ptrB (gv e 8), ptrB (gv e 12), ptrB (gv e 13), ptrB (gv e 14)] ∧ W.heap[ptrB (gv e 8)]? = some (.cells #[.bool true] 4) })]

--#vc lawBy_vc 16 sLawBy annLawBy spLawBy
--#vc lawKn_vc 17 (sYes UD) annKn6 spKn6
--#vc lawAd_vc 18 sLawAd annAd spAd

end Go.Proofs.YthpjkgoahneldaaDoor
end

section
/-
  Verification conditions, printed by a program out of the specifications beside this text: each theorem says that the condition suffices. (Lean's kernel compares the printed condition with what 'wpE' computes.)
-/
set_option linter.unusedVariables false
namespace Go.Proofs.YthpjkgoahneldaaDoor
open Go Go.RowKit Vc Ut Tb Cl

set_option maxRecDepth 1000000 in
theorem lawBy_vc (hsp : SpecsOk Tryd.prog spLawBy) (h : ∀ (g : GBy) (w : World),
UD w ∧ g.b < (256 : Nat) →
∀ (b : Nat) (w1 : World),
New w
(Obj.cells
#[Value.int IntKind.i64 g.l.tab, Value.bool g.l.wide, Value.int IntKind.i8 g.l.want, Value.bool g.l.join,
Value.bool g.l.raw]
(57 : Nat))
b w1 →
bcase (decide ((↑g.b : Int) ≥ (32 : Int)) && decide ((↑g.b : Int) < (127 : Int)))
(∀ (b1 : Nat) (w11 : World),
New w1 (Obj.cells #[Value.int IntKind.u8 (↑g.b : Int)] (5 : Nat)) b1 w11 →
∃ (str : ByteArray),
BytesIn w11 (some { block := b1, off := (0 : Nat) }) (1 : Nat) str ∧
∃ (n : Int),
w11.cell? { block := b, off := (0 : Nat) } = some (Value.int IntKind.i64 n) ∧
∃ (b2 : Bool),
w11.cell? { block := b, off := (1 : Nat) } = some (Value.bool b2) ∧
∃ (n1 : Int),
w11.cell? { block := b, off := (2 : Nat) } = some (Value.int IntKind.i8 n1) ∧
∃ (b3 : Bool),
w11.cell? { block := b, off := (3 : Nat) } = some (Value.bool b3) ∧
∃ (b4 : Bool),
w11.cell? { block := b, off := (4 : Nat) } = some (Value.bool b4) ∧
∀ (b5 : Nat) (w12 : World),
New w11 (Obj.cells #[Value.int IntKind.u8 (↑g.b : Int)] (5 : Nat)) b5 w12 →
∃ (str1 : ByteArray),
BytesIn w12 (some { block := b5, off := (0 : Nat) }) (1 : Nat) str1 ∧
∃ (g1 : GSh),
#[Value.string str, Value.int IntKind.i64 g.col,
Value.agg #[Value.int IntKind.i64 n, Value.bool b2, Value.int IntKind.i8 n1, Value.bool b3, Value.bool b4],
Value.string str1, Value.int IntKind.i64 (1 : Int)] =
#[Value.string g1.s, Value.int IntKind.i64 g1.col,
Value.agg
#[Value.int IntKind.i64 g1.l.tab, Value.bool g1.l.wide, Value.int IntKind.i8 g1.l.want, Value.bool g1.l.join,
Value.bool g1.l.raw],
Value.string g1.want, Value.int IntKind.i64 g1.wide] ∧
(U8 w12 ∧ DB w12 ∧ g1.s.size ≤ (67108864 : Nat)) ∧
∀ (x : Bool) (w' : World),
x = showsB g1.s g1.col g1.l g1.want g1.wide ∧ Ext w12 w' →
bcase x
(∃ (g2 : Unit),
(#[] : Array Value) = #[] ∧
UD w' ∧ ∀ (x1 : Unit) (w'1 : World), Ext w' w'1 → ∃ (x2 : Unit), Value.bool true = Value.bool true ∧ Ext w w'1)
(∃ (x1 : Unit), Value.bool false = Value.bool true ∧ Ext w w'))
(∀ (b1 : Nat) (w11 : World),
New w1 (Obj.cells #[Value.int IntKind.u8 (↑g.b : Int)] (5 : Nat)) b1 w11 →
∃ (str : ByteArray),
BytesIn w11 (some { block := b1, off := (0 : Nat) }) (1 : Nat) str ∧
∃ (n : Int),
w11.cell? { block := b, off := (0 : Nat) } = some (Value.int IntKind.i64 n) ∧
∃ (b2 : Bool),
w11.cell? { block := b, off := (1 : Nat) } = some (Value.bool b2) ∧
∃ (n1 : Int),
w11.cell? { block := b, off := (2 : Nat) } = some (Value.int IntKind.i8 n1) ∧
∃ (b3 : Bool),
w11.cell? { block := b, off := (3 : Nat) } = some (Value.bool b3) ∧
∃ (b4 : Bool),
w11.cell? { block := b, off := (4 : Nat) } = some (Value.bool b4) ∧
∃ (g1 : GT6),
#[Value.string str, Value.int IntKind.i64 g.col,
Value.agg #[Value.int IntKind.i64 n, Value.bool b2, Value.int IntKind.i8 n1, Value.bool b3, Value.bool b4]] =
#[Value.string g1.s, Value.int IntKind.i64 g1.col,
Value.agg
#[Value.int IntKind.i64 g1.l.tab, Value.bool g1.l.wide, Value.int IntKind.i8 g1.l.want, Value.bool g1.l.join,
Value.bool g1.l.raw]] ∧
(U8 w11 ∧ DB w11 ∧ g1.s.size ≤ (67108864 : Nat)) ∧
∀ (x : ByteArray × Nat) (w' : World),
x = textC g1.s g1.col g1.l ∧ Ext w11 w' →
bcase ((↑x.fst.size : Int) != (↑x.snd : Int) || !((↑x.snd : Int) == (0 : Int)) == ((↑g.b : Int) == (10 : Int)))
(∃ (x1 : Unit), Value.bool false = Value.bool true ∧ Ext w w')
((∃ (x1 : Nat), Value.int IntKind.i64 (0 : Int) = Value.int IntKind.i64 (↑x1 : Int) ∧ x1 ≤ (100 : Nat) ∧ Ext w w') ∧
∀ (u : Nat → Value) (x1 : Nat) (w'1 : World),
x1 ≤ (100 : Nat) ∧ Ext w w'1 →
bcase (decide ((↑x1 : Int) < (↑x.fst.size : Int)))
(∃ (k : Nat),
(↑x1 : Int) = (↑k : Int) ∧
k < x.fst.size ∧
bcase (decide ((↑(x.fst.data.toList.getD k (0 : UInt8)).toNat : Int) < (32 : Int)))
(∃ (x2 : Unit), Value.bool false = Value.bool true ∧ Ext w w'1)
(∃ (k1 : Nat),
(↑x1 : Int) = (↑k1 : Int) ∧
k1 < x.fst.size ∧
bcase (decide ((↑(x.fst.data.toList.getD k1 (0 : UInt8)).toNat : Int) > (126 : Int)))
(∃ (x2 : Unit), Value.bool false = Value.bool true ∧ Ext w w'1)
(InR IntKind.i64 ((↑x1 : Int) + (1 : Int)) ∧
∃ (y : Nat),
Value.int IntKind.i64 ((↑x1 : Int) + (1 : Int)) = Value.int IntKind.i64 (↑y : Int) ∧
(y ≤ (100 : Nat) ∧ Ext w w'1) ∧ (100 : Nat) - y < (100 : Nat) - x1)))
(∃ (g2 : Unit),
(#[] : Array Value) = #[] ∧
UD w'1 ∧ ∀ (x2 : Unit) (w'2 : World), Ext w'1 w'2 → ∃ (x3 : Unit), Value.bool true = Value.bool true ∧ Ext w w'2)))) :
    (sLawBy).Ok Tryd.prog 16 :=
  ok_of_vc sLawBy annLawBy spLawBy (fun _ _ => rfl) (fun _ _ => rfl) hsp Tryd.func16 rfl (n := 3) (fun _ => rfl) (by kernel_rfl) (vcast (by kernel_rfl) h)

set_option maxRecDepth 1000000 in
theorem lawKn_vc (hsp : SpecsOk Tryd.prog spKn6) (h : ∀ (g : Unit) (w : World),
UD w →
∀ (b : Nat) (w1 : World),
New w
(Obj.cells
#[Value.int IntKind.i64 (0 : Int), Value.bool false, Value.int IntKind.i8 (0 : Int), Value.bool false, Value.bool false]
(57 : Nat))
b w1 →
∀ (b1 : Nat) (w11 : World),
New w1
(Obj.cells
#[Value.int IntKind.i64 (0 : Int), Value.bool false, Value.int IntKind.i8 (0 : Int), Value.bool false, Value.bool true]
(57 : Nat))
b1 w11 →
(∃ (n : Int),
w11.cell? { block := b1, off := (0 : Nat) } = some (Value.int IntKind.i64 n) ∧
∃ (b2 : Bool),
w11.cell? { block := b1, off := (1 : Nat) } = some (Value.bool b2) ∧
∃ (n1 : Int),
w11.cell? { block := b1, off := (2 : Nat) } = some (Value.int IntKind.i8 n1) ∧
∃ (b3 : Bool),
w11.cell? { block := b1, off := (3 : Nat) } = some (Value.bool b3) ∧
∃ (b4 : Bool),
w11.cell? { block := b1, off := (4 : Nat) } = some (Value.bool b4) ∧
∃ (g1 : GSh),
#[Value.string (ByteArray.mk #[(195 : UInt8)]), Value.int IntKind.i64 (5 : Int),
Value.agg #[Value.int IntKind.i64 n, Value.bool b2, Value.int IntKind.i8 n1, Value.bool b3, Value.bool b4],
Value.string (ByteArray.mk #[(60 : UInt8), (99 : UInt8), (51 : UInt8), (62 : UInt8)]), Value.int IntKind.i64 (4 : Int)] =
#[Value.string g1.s, Value.int IntKind.i64 g1.col,
Value.agg
#[Value.int IntKind.i64 g1.l.tab, Value.bool g1.l.wide, Value.int IntKind.i8 g1.l.want, Value.bool g1.l.join,
Value.bool g1.l.raw],
Value.string g1.want, Value.int IntKind.i64 g1.wide] ∧
(U8 w11 ∧ DB w11 ∧ g1.s.size ≤ (67108864 : Nat)) ∧
∀ (x : Bool) (w' : World),
x = showsB g1.s g1.col g1.l g1.want g1.wide ∧ Ext w11 w' →
bcase x
(∃ (n2 : Int),
w'.cell? { block := b, off := (0 : Nat) } = some (Value.int IntKind.i64 n2) ∧
∃ (b5 : Bool),
w'.cell? { block := b, off := (1 : Nat) } = some (Value.bool b5) ∧
∃ (n3 : Int),
w'.cell? { block := b, off := (2 : Nat) } = some (Value.int IntKind.i8 n3) ∧
∃ (b6 : Bool),
w'.cell? { block := b, off := (3 : Nat) } = some (Value.bool b6) ∧
∃ (b7 : Bool),
w'.cell? { block := b, off := (4 : Nat) } = some (Value.bool b7) ∧
∃ (g2 : GSh),
#[Value.string (ByteArray.mk #[(9 : UInt8)]), Value.int IntKind.i64 (0 : Int),
Value.agg #[Value.int IntKind.i64 n2, Value.bool b5, Value.int IntKind.i8 n3, Value.bool b6, Value.bool b7],
Value.string
(ByteArray.mk #[(32 : UInt8), (32 : UInt8), (32 : UInt8), (32 : UInt8), (32 : UInt8), (32 : UInt8), (32 : UInt8), (32 : UInt8)]),
Value.int IntKind.i64 (8 : Int)] =
#[Value.string g2.s, Value.int IntKind.i64 g2.col,
Value.agg
#[Value.int IntKind.i64 g2.l.tab, Value.bool g2.l.wide, Value.int IntKind.i8 g2.l.want, Value.bool g2.l.join,
Value.bool g2.l.raw],
Value.string g2.want, Value.int IntKind.i64 g2.wide] ∧
(U8 w' ∧ DB w' ∧ g2.s.size ≤ (67108864 : Nat)) ∧
∀ (x1 : Bool) (w'1 : World),
x1 = showsB g2.s g2.col g2.l g2.want g2.wide ∧ Ext w' w'1 →
bcase x1
(∃ (g3 : GSh),
#[Value.string (ByteArray.mk #[(9 : UInt8)]), Value.int IntKind.i64 (5 : Int),
Value.agg
#[Value.int IntKind.i64 (4 : Int), Value.bool false, Value.int IntKind.i8 (0 : Int), Value.bool false,
Value.bool false],
Value.string (ByteArray.mk #[(32 : UInt8), (32 : UInt8), (32 : UInt8)]), Value.int IntKind.i64 (3 : Int)] =
#[Value.string g3.s, Value.int IntKind.i64 g3.col,
Value.agg
#[Value.int IntKind.i64 g3.l.tab, Value.bool g3.l.wide, Value.int IntKind.i8 g3.l.want, Value.bool g3.l.join,
Value.bool g3.l.raw],
Value.string g3.want, Value.int IntKind.i64 g3.wide] ∧
(U8 w'1 ∧ DB w'1 ∧ g3.s.size ≤ (67108864 : Nat)) ∧
∀ (x2 : Bool) (w'2 : World),
x2 = showsB g3.s g3.col g3.l g3.want g3.wide ∧ Ext w'1 w'2 →
bcase x2
(∃ (g4 : GSh),
#[Value.string (ByteArray.mk #[(9 : UInt8)]), Value.int IntKind.i64 (-3 : Int),
Value.agg
#[Value.int IntKind.i64 (99 : Int), Value.bool false, Value.int IntKind.i8 (0 : Int), Value.bool false,
Value.bool false],
Value.string
(ByteArray.mk #[(32 : UInt8), (32 : UInt8), (32 : UInt8), (32 : UInt8), (32 : UInt8), (32 : UInt8), (32 : UInt8), (32 : UInt8)]),
Value.int IntKind.i64 (8 : Int)] =
#[Value.string g4.s, Value.int IntKind.i64 g4.col,
Value.agg
#[Value.int IntKind.i64 g4.l.tab, Value.bool g4.l.wide, Value.int IntKind.i8 g4.l.want, Value.bool g4.l.join,
Value.bool g4.l.raw],
Value.string g4.want, Value.int IntKind.i64 g4.wide] ∧
(U8 w'2 ∧ DB w'2 ∧ g4.s.size ≤ (67108864 : Nat)) ∧
∀ (x3 : Bool) (w'3 : World),
x3 = showsB g4.s g4.col g4.l g4.want g4.wide ∧ Ext w'2 w'3 →
bcase x3
(∃ (g5 : GSh),
#[Value.string (ByteArray.mk #[(9 : UInt8)]), Value.int IntKind.i64 (16 : Int),
Value.agg
#[Value.int IntKind.i64 (16 : Int), Value.bool false, Value.int IntKind.i8 (0 : Int), Value.bool false,
Value.bool false],
Value.string
(ByteArray.mk #[(32 : UInt8), (32 : UInt8), (32 : UInt8), (32 : UInt8), (32 : UInt8), (32 : UInt8), (32 : UInt8), (32 : UInt8),
(32 : UInt8), (32 : UInt8), (32 : UInt8), (32 : UInt8), (32 : UInt8), (32 : UInt8), (32 : UInt8), (32 : UInt8)]),
Value.int IntKind.i64 (16 : Int)] =
#[Value.string g5.s, Value.int IntKind.i64 g5.col,
Value.agg
#[Value.int IntKind.i64 g5.l.tab, Value.bool g5.l.wide, Value.int IntKind.i8 g5.l.want, Value.bool g5.l.join,
Value.bool g5.l.raw],
Value.string g5.want, Value.int IntKind.i64 g5.wide] ∧
(U8 w'3 ∧ DB w'3 ∧ g5.s.size ≤ (67108864 : Nat)) ∧
∀ (x4 : Bool) (w'4 : World),
x4 = showsB g5.s g5.col g5.l g5.want g5.wide ∧ Ext w'3 w'4 →
bcase x4
(∃ (n4 : Int),
w'4.cell? { block := b1, off := (0 : Nat) } = some (Value.int IntKind.i64 n4) ∧
∃ (b8 : Bool),
w'4.cell? { block := b1, off := (1 : Nat) } = some (Value.bool b8) ∧
∃ (n5 : Int),
w'4.cell? { block := b1, off := (2 : Nat) } = some (Value.int IntKind.i8 n5) ∧
∃ (b9 : Bool),
w'4.cell? { block := b1, off := (3 : Nat) } = some (Value.bool b9) ∧
∃ (b10 : Bool),
w'4.cell? { block := b1, off := (4 : Nat) } = some (Value.bool b10) ∧
∃ (g6 : GSh),
#[Value.string (ByteArray.mk #[(10 : UInt8)]), Value.int IntKind.i64 (0 : Int),
Value.agg #[Value.int IntKind.i64 n4, Value.bool b8, Value.int IntKind.i8 n5, Value.bool b9, Value.bool b10],
Value.string (ByteArray.mk #[]), Value.int IntKind.i64 (0 : Int)] =
#[Value.string g6.s, Value.int IntKind.i64 g6.col,
Value.agg
#[Value.int IntKind.i64 g6.l.tab, Value.bool g6.l.wide, Value.int IntKind.i8 g6.l.want, Value.bool g6.l.join,
Value.bool g6.l.raw],
Value.string g6.want, Value.int IntKind.i64 g6.wide] ∧
(U8 w'4 ∧ DB w'4 ∧ g6.s.size ≤ (67108864 : Nat)) ∧
∀ (x5 : Bool) (w'5 : World),
x5 = showsB g6.s g6.col g6.l g6.want g6.wide ∧ Ext w'4 w'5 →
bcase x5
(∃ (n6 : Int),
w'5.cell? { block := b1, off := (0 : Nat) } = some (Value.int IntKind.i64 n6) ∧
∃ (b11 : Bool),
w'5.cell? { block := b1, off := (1 : Nat) } = some (Value.bool b11) ∧
∃ (n7 : Int),
w'5.cell? { block := b1, off := (2 : Nat) } = some (Value.int IntKind.i8 n7) ∧
∃ (b12 : Bool),
w'5.cell? { block := b1, off := (3 : Nat) } = some (Value.bool b12) ∧
∃ (b13 : Bool),
w'5.cell? { block := b1, off := (4 : Nat) } = some (Value.bool b13) ∧
∃ (g7 : GSh),
#[Value.string (ByteArray.mk #[(13 : UInt8), (10 : UInt8)]), Value.int IntKind.i64 (0 : Int),
Value.agg #[Value.int IntKind.i64 n6, Value.bool b11, Value.int IntKind.i8 n7, Value.bool b12, Value.bool b13],
Value.string (ByteArray.mk #[]), Value.int IntKind.i64 (0 : Int)] =
#[Value.string g7.s, Value.int IntKind.i64 g7.col,
Value.agg
#[Value.int IntKind.i64 g7.l.tab, Value.bool g7.l.wide, Value.int IntKind.i8 g7.l.want, Value.bool g7.l.join,
Value.bool g7.l.raw],
Value.string g7.want, Value.int IntKind.i64 g7.wide] ∧
(U8 w'5 ∧ DB w'5 ∧ g7.s.size ≤ (67108864 : Nat)) ∧
∀ (x6 : Bool) (w'6 : World),
x6 = showsB g7.s g7.col g7.l g7.want g7.wide ∧ Ext w'5 w'6 →
bcase x6
(∃ (n8 : Int),
w'6.cell? { block := b, off := (0 : Nat) } = some (Value.int IntKind.i64 n8) ∧
∃ (b14 : Bool),
w'6.cell? { block := b, off := (1 : Nat) } = some (Value.bool b14) ∧
∃ (n9 : Int),
w'6.cell? { block := b, off := (2 : Nat) } = some (Value.int IntKind.i8 n9) ∧
∃ (b15 : Bool),
w'6.cell? { block := b, off := (3 : Nat) } = some (Value.bool b15) ∧
∃ (b16 : Bool),
w'6.cell? { block := b, off := (4 : Nat) } = some (Value.bool b16) ∧
∃ (g8 : GSh),
#[Value.string (ByteArray.mk #[(13 : UInt8)]), Value.int IntKind.i64 (0 : Int),
Value.agg #[Value.int IntKind.i64 n8, Value.bool b14, Value.int IntKind.i8 n9, Value.bool b15, Value.bool b16],
Value.string (ByteArray.mk #[(94 : UInt8), (77 : UInt8)]), Value.int IntKind.i64 (2 : Int)] =
#[Value.string g8.s, Value.int IntKind.i64 g8.col,
Value.agg
#[Value.int IntKind.i64 g8.l.tab, Value.bool g8.l.wide, Value.int IntKind.i8 g8.l.want, Value.bool g8.l.join,
Value.bool g8.l.raw],
Value.string g8.want, Value.int IntKind.i64 g8.wide] ∧
(U8 w'6 ∧ DB w'6 ∧ g8.s.size ≤ (67108864 : Nat)) ∧
∀ (x7 : Bool) (w'7 : World),
x7 = showsB g8.s g8.col g8.l g8.want g8.wide ∧ Ext w'6 w'7 →
bcase x7
(∃ (n10 : Int),
w'7.cell? { block := b, off := (0 : Nat) } = some (Value.int IntKind.i64 n10) ∧
∃ (b17 : Bool),
w'7.cell? { block := b, off := (1 : Nat) } = some (Value.bool b17) ∧
∃ (n11 : Int),
w'7.cell? { block := b, off := (2 : Nat) } = some (Value.int IntKind.i8 n11) ∧
∃ (b18 : Bool),
w'7.cell? { block := b, off := (3 : Nat) } = some (Value.bool b18) ∧
∃ (b19 : Bool),
w'7.cell? { block := b, off := (4 : Nat) } = some (Value.bool b19) ∧
∃ (g9 : GSh),
#[Value.string (ByteArray.mk #[(127 : UInt8)]), Value.int IntKind.i64 (0 : Int),
Value.agg #[Value.int IntKind.i64 n10, Value.bool b17, Value.int IntKind.i8 n11, Value.bool b18, Value.bool b19],
Value.string (ByteArray.mk #[(94 : UInt8), (63 : UInt8)]), Value.int IntKind.i64 (2 : Int)] =
#[Value.string g9.s, Value.int IntKind.i64 g9.col,
Value.agg
#[Value.int IntKind.i64 g9.l.tab, Value.bool g9.l.wide, Value.int IntKind.i8 g9.l.want, Value.bool g9.l.join,
Value.bool g9.l.raw],
Value.string g9.want, Value.int IntKind.i64 g9.wide] ∧
(U8 w'7 ∧ DB w'7 ∧ g9.s.size ≤ (67108864 : Nat)) ∧
∀ (x8 : Bool) (w'8 : World),
x8 = showsB g9.s g9.col g9.l g9.want g9.wide ∧ Ext w'7 w'8 →
bcase x8
(∃ (n12 : Int),
w'8.cell? { block := b, off := (0 : Nat) } = some (Value.int IntKind.i64 n12) ∧
∃ (b20 : Bool),
w'8.cell? { block := b, off := (1 : Nat) } = some (Value.bool b20) ∧
∃ (n13 : Int),
w'8.cell? { block := b, off := (2 : Nat) } = some (Value.int IntKind.i8 n13) ∧
∃ (b21 : Bool),
w'8.cell? { block := b, off := (3 : Nat) } = some (Value.bool b21) ∧
∃ (b22 : Bool),
w'8.cell? { block := b, off := (4 : Nat) } = some (Value.bool b22) ∧
∃ (g10 : GSh),
#[Value.string (ByteArray.mk #[(0 : UInt8)]), Value.int IntKind.i64 (0 : Int),
Value.agg #[Value.int IntKind.i64 n12, Value.bool b20, Value.int IntKind.i8 n13, Value.bool b21, Value.bool b22],
Value.string (ByteArray.mk #[(94 : UInt8), (64 : UInt8)]), Value.int IntKind.i64 (2 : Int)] =
#[Value.string g10.s, Value.int IntKind.i64 g10.col,
Value.agg
#[Value.int IntKind.i64 g10.l.tab, Value.bool g10.l.wide, Value.int IntKind.i8 g10.l.want, Value.bool g10.l.join,
Value.bool g10.l.raw],
Value.string g10.want, Value.int IntKind.i64 g10.wide] ∧
(U8 w'8 ∧ DB w'8 ∧ g10.s.size ≤ (67108864 : Nat)) ∧
∀ (x9 : Bool) (w'9 : World),
x9 = showsB g10.s g10.col g10.l g10.want g10.wide ∧ Ext w'8 w'9 →
bcase x9
(∃ (n14 : Int),
w'9.cell? { block := b, off := (0 : Nat) } = some (Value.int IntKind.i64 n14) ∧
∃ (b23 : Bool),
w'9.cell? { block := b, off := (1 : Nat) } = some (Value.bool b23) ∧
∃ (n15 : Int),
w'9.cell? { block := b, off := (2 : Nat) } = some (Value.int IntKind.i8 n15) ∧
∃ (b24 : Bool),
w'9.cell? { block := b, off := (3 : Nat) } = some (Value.bool b24) ∧
∃ (b25 : Bool),
w'9.cell? { block := b, off := (4 : Nat) } = some (Value.bool b25) ∧
∃ (g11 : GSh),
#[Value.string (ByteArray.mk #[]), Value.int IntKind.i64 (0 : Int),
Value.agg #[Value.int IntKind.i64 n14, Value.bool b23, Value.int IntKind.i8 n15, Value.bool b24, Value.bool b25],
Value.string (ByteArray.mk #[]), Value.int IntKind.i64 (0 : Int)] =
#[Value.string g11.s, Value.int IntKind.i64 g11.col,
Value.agg
#[Value.int IntKind.i64 g11.l.tab, Value.bool g11.l.wide, Value.int IntKind.i8 g11.l.want, Value.bool g11.l.join,
Value.bool g11.l.raw],
Value.string g11.want, Value.int IntKind.i64 g11.wide] ∧
(U8 w'9 ∧ DB w'9 ∧ g11.s.size ≤ (67108864 : Nat)) ∧
∀ (x10 : Bool) (w'10 : World),
x10 = showsB g11.s g11.col g11.l g11.want g11.wide ∧ Ext w'9 w'10 →
∃ (c : Unit), Value.bool x10 = Value.bool true ∧ Ext w11 w'10)
(∃ (c : Unit), Value.bool false = Value.bool true ∧ Ext w11 w'9))
(∃ (c : Unit), Value.bool false = Value.bool true ∧ Ext w11 w'8))
(∃ (c : Unit), Value.bool false = Value.bool true ∧ Ext w11 w'7))
(∃ (c : Unit), Value.bool false = Value.bool true ∧ Ext w11 w'6))
(∃ (c : Unit), Value.bool false = Value.bool true ∧ Ext w11 w'5))
(∃ (c : Unit), Value.bool false = Value.bool true ∧ Ext w11 w'4))
(∃ (c : Unit), Value.bool false = Value.bool true ∧ Ext w11 w'3))
(∃ (c : Unit), Value.bool false = Value.bool true ∧ Ext w11 w'2))
(∃ (c : Unit), Value.bool false = Value.bool true ∧ Ext w11 w'1))
(∃ (c : Unit), Value.bool false = Value.bool true ∧ Ext w11 w')) ∧
∀ (u : Nat → Value) (c : Unit) (w' : World),
Ext w11 w' →
(∃ (n : Int),
w'.cell? { block := b, off := (0 : Nat) } = some (Value.int IntKind.i64 n) ∧
∃ (b2 : Bool),
w'.cell? { block := b, off := (1 : Nat) } = some (Value.bool b2) ∧
∃ (n1 : Int),
w'.cell? { block := b, off := (2 : Nat) } = some (Value.int IntKind.i8 n1) ∧
∃ (b3 : Bool),
w'.cell? { block := b, off := (3 : Nat) } = some (Value.bool b3) ∧
∃ (b4 : Bool),
w'.cell? { block := b, off := (4 : Nat) } = some (Value.bool b4) ∧
∃ (g1 : GSh),
#[Value.string (ByteArray.mk #[(226 : UInt8), (128 : UInt8), (174 : UInt8)]), Value.int IntKind.i64 (0 : Int),
Value.agg #[Value.int IntKind.i64 n, Value.bool b2, Value.int IntKind.i8 n1, Value.bool b3, Value.bool b4],
Value.string (ByteArray.mk #[]), Value.int IntKind.i64 (0 : Int)] =
#[Value.string g1.s, Value.int IntKind.i64 g1.col,
Value.agg
#[Value.int IntKind.i64 g1.l.tab, Value.bool g1.l.wide, Value.int IntKind.i8 g1.l.want, Value.bool g1.l.join,
Value.bool g1.l.raw],
Value.string g1.want, Value.int IntKind.i64 g1.wide] ∧
(U8 w' ∧ DB w' ∧ g1.s.size ≤ (67108864 : Nat)) ∧
∀ (x : Bool) (w'1 : World),
x = showsB g1.s g1.col g1.l g1.want g1.wide ∧ Ext w' w'1 →
bcase x
(∃ (n2 : Int),
w'1.cell? { block := b1, off := (0 : Nat) } = some (Value.int IntKind.i64 n2) ∧
∃ (b5 : Bool),
w'1.cell? { block := b1, off := (1 : Nat) } = some (Value.bool b5) ∧
∃ (n3 : Int),
w'1.cell? { block := b1, off := (2 : Nat) } = some (Value.int IntKind.i8 n3) ∧
∃ (b6 : Bool),
w'1.cell? { block := b1, off := (3 : Nat) } = some (Value.bool b6) ∧
∃ (b7 : Bool),
w'1.cell? { block := b1, off := (4 : Nat) } = some (Value.bool b7) ∧
∃ (g2 : GSh),
#[Value.string (ByteArray.mk #[(194 : UInt8), (133 : UInt8)]), Value.int IntKind.i64 (0 : Int),
Value.agg #[Value.int IntKind.i64 n2, Value.bool b5, Value.int IntKind.i8 n3, Value.bool b6, Value.bool b7],
Value.string (ByteArray.mk #[(60 : UInt8), (48 : UInt8), (48 : UInt8), (56 : UInt8), (53 : UInt8), (62 : UInt8)]),
Value.int IntKind.i64 (6 : Int)] =
#[Value.string g2.s, Value.int IntKind.i64 g2.col,
Value.agg
#[Value.int IntKind.i64 g2.l.tab, Value.bool g2.l.wide, Value.int IntKind.i8 g2.l.want, Value.bool g2.l.join,
Value.bool g2.l.raw],
Value.string g2.want, Value.int IntKind.i64 g2.wide] ∧
(U8 w'1 ∧ DB w'1 ∧ g2.s.size ≤ (67108864 : Nat)) ∧
∀ (x1 : Bool) (w'2 : World),
x1 = showsB g2.s g2.col g2.l g2.want g2.wide ∧ Ext w'1 w'2 →
bcase x1
(∃ (n4 : Int),
w'2.cell? { block := b, off := (0 : Nat) } = some (Value.int IntKind.i64 n4) ∧
∃ (b8 : Bool),
w'2.cell? { block := b, off := (1 : Nat) } = some (Value.bool b8) ∧
∃ (n5 : Int),
w'2.cell? { block := b, off := (2 : Nat) } = some (Value.int IntKind.i8 n5) ∧
∃ (b9 : Bool),
w'2.cell? { block := b, off := (3 : Nat) } = some (Value.bool b9) ∧
∃ (b10 : Bool),
w'2.cell? { block := b, off := (4 : Nat) } = some (Value.bool b10) ∧
∃ (g3 : GSh),
#[Value.string (ByteArray.mk #[(204 : UInt8), (129 : UInt8)]), Value.int IntKind.i64 (0 : Int),
Value.agg #[Value.int IntKind.i64 n4, Value.bool b8, Value.int IntKind.i8 n5, Value.bool b9, Value.bool b10],
Value.string (ByteArray.mk #[(226 : UInt8), (151 : UInt8), (140 : UInt8), (204 : UInt8), (129 : UInt8)]),
Value.int IntKind.i64 (1 : Int)] =
#[Value.string g3.s, Value.int IntKind.i64 g3.col,
Value.agg
#[Value.int IntKind.i64 g3.l.tab, Value.bool g3.l.wide, Value.int IntKind.i8 g3.l.want, Value.bool g3.l.join,
Value.bool g3.l.raw],
Value.string g3.want, Value.int IntKind.i64 g3.wide] ∧
(U8 w'2 ∧ DB w'2 ∧ g3.s.size ≤ (67108864 : Nat)) ∧
∀ (x2 : Bool) (w'3 : World),
x2 = showsB g3.s g3.col g3.l g3.want g3.wide ∧ Ext w'2 w'3 →
bcase x2
(∃ (n6 : Int),
w'3.cell? { block := b, off := (0 : Nat) } = some (Value.int IntKind.i64 n6) ∧
∃ (b11 : Bool),
w'3.cell? { block := b, off := (1 : Nat) } = some (Value.bool b11) ∧
∃ (n7 : Int),
w'3.cell? { block := b, off := (2 : Nat) } = some (Value.int IntKind.i8 n7) ∧
∃ (b12 : Bool),
w'3.cell? { block := b, off := (3 : Nat) } = some (Value.bool b12) ∧
∃ (b13 : Bool),
w'3.cell? { block := b, off := (4 : Nat) } = some (Value.bool b13) ∧
∃ (g4 : GSh),
#[Value.string (ByteArray.mk #[(226 : UInt8), (128 : UInt8), (141 : UInt8)]), Value.int IntKind.i64 (0 : Int),
Value.agg #[Value.int IntKind.i64 n6, Value.bool b11, Value.int IntKind.i8 n7, Value.bool b12, Value.bool b13],
Value.string (ByteArray.mk #[(226 : UInt8), (151 : UInt8), (140 : UInt8), (226 : UInt8), (128 : UInt8), (141 : UInt8)]),
Value.int IntKind.i64 (1 : Int)] =
#[Value.string g4.s, Value.int IntKind.i64 g4.col,
Value.agg
#[Value.int IntKind.i64 g4.l.tab, Value.bool g4.l.wide, Value.int IntKind.i8 g4.l.want, Value.bool g4.l.join,
Value.bool g4.l.raw],
Value.string g4.want, Value.int IntKind.i64 g4.wide] ∧
(U8 w'3 ∧ DB w'3 ∧ g4.s.size ≤ (67108864 : Nat)) ∧
∀ (x3 : Bool) (w'4 : World),
x3 = showsB g4.s g4.col g4.l g4.want g4.wide ∧ Ext w'3 w'4 →
bcase x3
(∃ (n8 : Int),
w'4.cell? { block := b, off := (0 : Nat) } = some (Value.int IntKind.i64 n8) ∧
∃ (b14 : Bool),
w'4.cell? { block := b, off := (1 : Nat) } = some (Value.bool b14) ∧
∃ (n9 : Int),
w'4.cell? { block := b, off := (2 : Nat) } = some (Value.int IntKind.i8 n9) ∧
∃ (b15 : Bool),
w'4.cell? { block := b, off := (3 : Nat) } = some (Value.bool b15) ∧
∃ (b16 : Bool),
w'4.cell? { block := b, off := (4 : Nat) } = some (Value.bool b16) ∧
∃ (g5 : GSh),
#[Value.string
(ByteArray.mk #[(240 : UInt8), (159 : UInt8), (135 : UInt8), (166 : UInt8), (240 : UInt8), (159 : UInt8), (135 : UInt8),
(167 : UInt8)]),
Value.int IntKind.i64 (0 : Int),
Value.agg #[Value.int IntKind.i64 n8, Value.bool b14, Value.int IntKind.i8 n9, Value.bool b15, Value.bool b16],
Value.string
(ByteArray.mk #[(240 : UInt8), (159 : UInt8), (135 : UInt8), (166 : UInt8), (240 : UInt8), (159 : UInt8), (135 : UInt8),
(167 : UInt8)]),
Value.int IntKind.i64 (2 : Int)] =
#[Value.string g5.s, Value.int IntKind.i64 g5.col,
Value.agg
#[Value.int IntKind.i64 g5.l.tab, Value.bool g5.l.wide, Value.int IntKind.i8 g5.l.want, Value.bool g5.l.join,
Value.bool g5.l.raw],
Value.string g5.want, Value.int IntKind.i64 g5.wide] ∧
(U8 w'4 ∧ DB w'4 ∧ g5.s.size ≤ (67108864 : Nat)) ∧
∀ (x4 : Bool) (w'5 : World),
x4 = showsB g5.s g5.col g5.l g5.want g5.wide ∧ Ext w'4 w'5 →
bcase x4
(∃ (n10 : Int),
w'5.cell? { block := b1, off := (0 : Nat) } = some (Value.int IntKind.i64 n10) ∧
∃ (b17 : Bool),
w'5.cell? { block := b1, off := (1 : Nat) } = some (Value.bool b17) ∧
∃ (n11 : Int),
w'5.cell? { block := b1, off := (2 : Nat) } = some (Value.int IntKind.i8 n11) ∧
∃ (b18 : Bool),
w'5.cell? { block := b1, off := (3 : Nat) } = some (Value.bool b18) ∧
∃ (b19 : Bool),
w'5.cell? { block := b1, off := (4 : Nat) } = some (Value.bool b19) ∧
∃ (g6 : GSh),
#[Value.string (ByteArray.mk #[(226 : UInt8), (128 : UInt8), (168 : UInt8)]), Value.int IntKind.i64 (0 : Int),
Value.agg #[Value.int IntKind.i64 n10, Value.bool b17, Value.int IntKind.i8 n11, Value.bool b18, Value.bool b19],
Value.string (ByteArray.mk #[(60 : UInt8), (50 : UInt8), (48 : UInt8), (50 : UInt8), (56 : UInt8), (62 : UInt8)]),
Value.int IntKind.i64 (6 : Int)] =
#[Value.string g6.s, Value.int IntKind.i64 g6.col,
Value.agg
#[Value.int IntKind.i64 g6.l.tab, Value.bool g6.l.wide, Value.int IntKind.i8 g6.l.want, Value.bool g6.l.join,
Value.bool g6.l.raw],
Value.string g6.want, Value.int IntKind.i64 g6.wide] ∧
(U8 w'5 ∧ DB w'5 ∧ g6.s.size ≤ (67108864 : Nat)) ∧
∀ (x5 : Bool) (w'6 : World),
x5 = showsB g6.s g6.col g6.l g6.want g6.wide ∧ Ext w'5 w'6 →
∃ (c1 : Unit), Value.bool x5 = Value.bool true ∧ Ext w' w'6)
(∃ (c1 : Unit), Value.bool false = Value.bool true ∧ Ext w' w'5))
(∃ (c1 : Unit), Value.bool false = Value.bool true ∧ Ext w' w'4))
(∃ (c1 : Unit), Value.bool false = Value.bool true ∧ Ext w' w'3))
(∃ (c1 : Unit), Value.bool false = Value.bool true ∧ Ext w' w'2))
(∃ (c1 : Unit), Value.bool false = Value.bool true ∧ Ext w' w'1)) ∧
∀ (u1 : Nat → Value) (c1 : Unit) (w'1 : World),
Ext w' w'1 →
(∃ (n : Int),
w'1.cell? { block := b, off := (0 : Nat) } = some (Value.int IntKind.i64 n) ∧
∃ (b2 : Bool),
w'1.cell? { block := b, off := (1 : Nat) } = some (Value.bool b2) ∧
∃ (n1 : Int),
w'1.cell? { block := b, off := (2 : Nat) } = some (Value.int IntKind.i8 n1) ∧
∃ (b3 : Bool),
w'1.cell? { block := b, off := (3 : Nat) } = some (Value.bool b3) ∧
∃ (b4 : Bool),
w'1.cell? { block := b, off := (4 : Nat) } = some (Value.bool b4) ∧
∃ (g1 : GT6),
#[Value.string (ByteArray.mk #[(9 : UInt8), (98 : UInt8)]), Value.int IntKind.i64 (1 : Int),
Value.agg #[Value.int IntKind.i64 n, Value.bool b2, Value.int IntKind.i8 n1, Value.bool b3, Value.bool b4]] =
#[Value.string g1.s, Value.int IntKind.i64 g1.col,
Value.agg
#[Value.int IntKind.i64 g1.l.tab, Value.bool g1.l.wide, Value.int IntKind.i8 g1.l.want, Value.bool g1.l.join,
Value.bool g1.l.raw]] ∧
(U8 w'1 ∧ DB w'1 ∧ g1.s.size ≤ (67108864 : Nat)) ∧
∀ (x : Nat) (w'2 : World),
x = wideS g1.s g1.col g1.l ∧ Ext w'1 w'2 →
bcase ((↑x : Int) == (8 : Int))
(∃ (n2 : Int),
w'2.cell? { block := b, off := (0 : Nat) } = some (Value.int IntKind.i64 n2) ∧
∃ (b5 : Bool),
w'2.cell? { block := b, off := (1 : Nat) } = some (Value.bool b5) ∧
∃ (n3 : Int),
w'2.cell? { block := b, off := (2 : Nat) } = some (Value.int IntKind.i8 n3) ∧
∃ (b6 : Bool),
w'2.cell? { block := b, off := (3 : Nat) } = some (Value.bool b6) ∧
∃ (b7 : Bool),
w'2.cell? { block := b, off := (4 : Nat) } = some (Value.bool b7) ∧
∃ (g2 : GT6),
#[Value.string (ByteArray.mk #[(228 : UInt8), (184 : UInt8), (150 : UInt8), (97 : UInt8)]),
Value.int IntKind.i64 (4611686018427387904 : Int),
Value.agg #[Value.int IntKind.i64 n2, Value.bool b5, Value.int IntKind.i8 n3, Value.bool b6, Value.bool b7]] =
#[Value.string g2.s, Value.int IntKind.i64 g2.col,
Value.agg
#[Value.int IntKind.i64 g2.l.tab, Value.bool g2.l.wide, Value.int IntKind.i8 g2.l.want, Value.bool g2.l.join,
Value.bool g2.l.raw]] ∧
(U8 w'2 ∧ DB w'2 ∧ g2.s.size ≤ (67108864 : Nat)) ∧
∀ (x1 : Nat) (w'3 : World),
x1 = wideS g2.s g2.col g2.l ∧ Ext w'2 w'3 →
bcase ((↑x1 : Int) == (3 : Int))
(∃ (n4 : Int),
w'3.cell? { block := b, off := (0 : Nat) } = some (Value.int IntKind.i64 n4) ∧
∃ (b8 : Bool),
w'3.cell? { block := b, off := (1 : Nat) } = some (Value.bool b8) ∧
∃ (n5 : Int),
w'3.cell? { block := b, off := (2 : Nat) } = some (Value.int IntKind.i8 n5) ∧
∃ (b9 : Bool),
w'3.cell? { block := b, off := (3 : Nat) } = some (Value.bool b9) ∧
∃ (b10 : Bool),
w'3.cell? { block := b, off := (4 : Nat) } = some (Value.bool b10) ∧
∃ (g3 : GT6),
#[Value.string (ByteArray.mk #[(97 : UInt8), (204 : UInt8), (129 : UInt8)]), Value.int IntKind.i64 (1 : Int),
Value.agg #[Value.int IntKind.i64 n4, Value.bool b8, Value.int IntKind.i8 n5, Value.bool b9, Value.bool b10]] =
#[Value.string g3.s, Value.int IntKind.i64 g3.col,
Value.agg
#[Value.int IntKind.i64 g3.l.tab, Value.bool g3.l.wide, Value.int IntKind.i8 g3.l.want, Value.bool g3.l.join,
Value.bool g3.l.raw]] ∧
(U8 w'3 ∧ DB w'3 ∧ g3.s.size ≤ (67108864 : Nat)) ∧
∀ (x2 : Nat) (w'4 : World),
x2 = cutP g3.s g3.col g3.l ∧ Ext w'3 w'4 →
bcase ((↑x2 : Int) == (3 : Int))
(∃ (n6 : Int),
w'4.cell? { block := b, off := (0 : Nat) } = some (Value.int IntKind.i64 n6) ∧
∃ (b11 : Bool),
w'4.cell? { block := b, off := (1 : Nat) } = some (Value.bool b11) ∧
∃ (n7 : Int),
w'4.cell? { block := b, off := (2 : Nat) } = some (Value.int IntKind.i8 n7) ∧
∃ (b12 : Bool),
w'4.cell? { block := b, off := (3 : Nat) } = some (Value.bool b12) ∧
∃ (b13 : Bool),
w'4.cell? { block := b, off := (4 : Nat) } = some (Value.bool b13) ∧
∃ (g4 : GT6),
#[Value.string (ByteArray.mk #[(97 : UInt8)]), Value.int IntKind.i64 (-1 : Int),
Value.agg #[Value.int IntKind.i64 n6, Value.bool b11, Value.int IntKind.i8 n7, Value.bool b12, Value.bool b13]] =
#[Value.string g4.s, Value.int IntKind.i64 g4.col,
Value.agg
#[Value.int IntKind.i64 g4.l.tab, Value.bool g4.l.wide, Value.int IntKind.i8 g4.l.want, Value.bool g4.l.join,
Value.bool g4.l.raw]] ∧
(U8 w'4 ∧ DB w'4 ∧ g4.s.size ≤ (67108864 : Nat)) ∧
∀ (x3 : Nat) (w'5 : World),
x3 = cutP g4.s g4.col g4.l ∧ Ext w'4 w'5 →
bcase ((↑x3 : Int) == (0 : Int))
(∃ (n8 : Int),
w'5.cell? { block := b, off := (0 : Nat) } = some (Value.int IntKind.i64 n8) ∧
∃ (b14 : Bool),
w'5.cell? { block := b, off := (1 : Nat) } = some (Value.bool b14) ∧
∃ (n9 : Int),
w'5.cell? { block := b, off := (2 : Nat) } = some (Value.int IntKind.i8 n9) ∧
∃ (b15 : Bool),
w'5.cell? { block := b, off := (3 : Nat) } = some (Value.bool b15) ∧
∃ (b16 : Bool),
w'5.cell? { block := b, off := (4 : Nat) } = some (Value.bool b16) ∧
∃ (g5 : GT6),
#[Value.string (ByteArray.mk #[(226 : UInt8), (128 : UInt8), (174 : UInt8), (97 : UInt8)]),
Value.int IntKind.i64 (0 : Int),
Value.agg #[Value.int IntKind.i64 n8, Value.bool b14, Value.int IntKind.i8 n9, Value.bool b15, Value.bool b16]] =
#[Value.string g5.s, Value.int IntKind.i64 g5.col,
Value.agg
#[Value.int IntKind.i64 g5.l.tab, Value.bool g5.l.wide, Value.int IntKind.i8 g5.l.want, Value.bool g5.l.join,
Value.bool g5.l.raw]] ∧
(U8 w'5 ∧ DB w'5 ∧ g5.s.size ≤ (67108864 : Nat)) ∧
∀ (x4 : Nat) (w'6 : World),
x4 = cutP g5.s g5.col g5.l ∧ Ext w'5 w'6 →
bcase ((↑x4 : Int) == (3 : Int))
(∃ (g6 : ByteArray),
#[Value.string
(ByteArray.mk #[(97 : UInt8), (10 : UInt8), (9 : UInt8), (128 : UInt8), (226 : UInt8), (128 : UInt8), (174 : UInt8), (13 : UInt8),
(10 : UInt8)])] =
#[Value.string g6] ∧
(U8 w'6 ∧ DB w'6 ∧ g6.size ≤ (67108864 : Nat)) ∧
∀ (x5 : ByteArray) (w'7 : World),
x5 = plainS g6 ∧ Ext w'6 w'7 →
∃ (c2 : Unit),
Value.bool
(x5.toList ==
(ByteArray.mk #[(97 : UInt8), (94 : UInt8), (74 : UInt8), (94 : UInt8), (73 : UInt8), (60 : UInt8), (56 : UInt8), (48 : UInt8),
(62 : UInt8), (60 : UInt8), (50 : UInt8), (48 : UInt8), (50 : UInt8), (101 : UInt8), (62 : UInt8), (94 : UInt8),
(77 : UInt8), (94 : UInt8), (74 : UInt8)]).toList) =
Value.bool true ∧
Ext w'1 w'7)
(∃ (c2 : Unit), Value.bool false = Value.bool true ∧ Ext w'1 w'6))
(∃ (c2 : Unit), Value.bool false = Value.bool true ∧ Ext w'1 w'5))
(∃ (c2 : Unit), Value.bool false = Value.bool true ∧ Ext w'1 w'4))
(∃ (c2 : Unit), Value.bool false = Value.bool true ∧ Ext w'1 w'3))
(∃ (c2 : Unit), Value.bool false = Value.bool true ∧ Ext w'1 w'2)) ∧
∀ (u2 : Nat → Value) (c2 : Unit) (w'2 : World),
Ext w'1 w'2 →
(∃ (x : Nat × Option Addr × Nat),
Value.int IntKind.i64 (0 : Int) = Value.int IntKind.i64 (↑x.fst : Int) ∧
Value.slice none (0 : Nat) (0 : Nat) = Value.slice x.snd.fst ((2 : Nat) * x.fst) x.snd.snd ∧
x.fst ≤ (32 : Nat) ∧ Made w'2 w'2 (5 : TypeId) (1 : Nat) x.snd.fst ((2 : Nat) * x.fst) (u8L (mkL x.fst)) x.snd.snd) ∧
∀ (u3 : Nat → Value) (x : Nat × Option Addr × Nat) (w'3 : World),
x.fst ≤ (32 : Nat) ∧ Made w'2 w'3 (5 : TypeId) (1 : Nat) x.snd.fst ((2 : Nat) * x.fst) (u8L (mkL x.fst)) x.snd.snd →
bcase (decide ((↑x.fst : Int) < (32 : Int)))
(∃ (a' : Option Addr),
∃ (c' : Nat),
∃ (w'4 : World),
AppRun Tryd.prog #[(64 : Nat), (9 : Nat)] (64 : Nat) (Value.slice x.snd.fst ((2 : Nat) * x.fst) x.snd.snd)
(Value.string (ByteArray.mk #[(204 : UInt8), (129 : UInt8)])) w'3 a'
((2 : Nat) * x.fst + (ByteArray.mk #[(204 : UInt8), (129 : UInt8)]).size) c' w'4 ∧
KO w'3 w'4 ∧
InR IntKind.i64 ((↑x.fst : Int) + (1 : Int)) ∧
∃ (y : Nat × Option Addr × Nat),
Value.int IntKind.i64 ((↑x.fst : Int) + (1 : Int)) = Value.int IntKind.i64 (↑y.fst : Int) ∧
Value.slice a' ((2 : Nat) * x.fst + (ByteArray.mk #[(204 : UInt8), (129 : UInt8)]).size) c' =
Value.slice y.snd.fst ((2 : Nat) * y.fst) y.snd.snd ∧
(y.fst ≤ (32 : Nat) ∧ Made w'2 w'4 (5 : TypeId) (1 : Nat) y.snd.fst ((2 : Nat) * y.fst) (u8L (mkL y.fst)) y.snd.snd) ∧
(32 : Nat) - y.fst < (32 : Nat) - x.fst)
((∀ (w12 : World),
Drew w'3 w12 →
∃ (n : Int),
w'3.cell? { block := b, off := (0 : Nat) } = some (Value.int IntKind.i64 n) ∧
∃ (b2 : Bool),
w'3.cell? { block := b, off := (1 : Nat) } = some (Value.bool b2) ∧
∃ (n1 : Int),
w'3.cell? { block := b, off := (2 : Nat) } = some (Value.int IntKind.i8 n1) ∧
∃ (b3 : Bool),
w'3.cell? { block := b, off := (3 : Nat) } = some (Value.bool b3) ∧
∃ (b4 : Bool),
w'3.cell? { block := b, off := (4 : Nat) } = some (Value.bool b4) ∧
∃ (hn : Nat),
(62 : Int) = (↑hn : Int) ∧
hn ≤ x.snd.snd ∧
(∃ (str : ByteArray),
BytesIn w12 x.snd.fst ((2 : Nat) * x.fst) str ∧
Below w12.heap.size w12 w12 ∧
∃ (str1 : ByteArray),
BytesIn w12 x.snd.fst hn str1 ∧
Below w12.heap.size w12 w12 ∧
(ByteArray.mk #[(226 : UInt8), (151 : UInt8), (140 : UInt8)]).size + str1.size ≤ (9223372036854775807 : Nat) ∧
∃ (g1 : GSh),
#[Value.string str, Value.int IntKind.i64 (0 : Int),
Value.agg #[Value.int IntKind.i64 n, Value.bool b2, Value.int IntKind.i8 n1, Value.bool b3, Value.bool b4],
Value.string ((ByteArray.mk #[(226 : UInt8), (151 : UInt8), (140 : UInt8)]) ++ str1), Value.int IntKind.i64 (1 : Int)] =
#[Value.string g1.s, Value.int IntKind.i64 g1.col,
Value.agg
#[Value.int IntKind.i64 g1.l.tab, Value.bool g1.l.wide, Value.int IntKind.i8 g1.l.want, Value.bool g1.l.join,
Value.bool g1.l.raw],
Value.string g1.want, Value.int IntKind.i64 g1.wide] ∧
(U8 w12 ∧ DB w12 ∧ g1.s.size ≤ (67108864 : Nat)) ∧
∀ (x1 : Bool) (w'4 : World),
x1 = showsB g1.s g1.col g1.l g1.want g1.wide ∧ Ext w12 w'4 →
bcase x1
(∃ (hn1 : Nat),
(62 : Int) = (↑hn1 : Int) ∧
hn1 ≤ x.snd.snd ∧
∃ (n2 : Int),
w'4.cell? { block := b, off := (0 : Nat) } = some (Value.int IntKind.i64 n2) ∧
∃ (b5 : Bool),
w'4.cell? { block := b, off := (1 : Nat) } = some (Value.bool b5) ∧
∃ (n3 : Int),
w'4.cell? { block := b, off := (2 : Nat) } = some (Value.int IntKind.i8 n3) ∧
∃ (b6 : Bool),
w'4.cell? { block := b, off := (3 : Nat) } = some (Value.bool b6) ∧
∃ (b7 : Bool),
w'4.cell? { block := b, off := (4 : Nat) } = some (Value.bool b7) ∧
∃ (hn2 : Nat),
(62 : Int) = (↑hn2 : Int) ∧
hn2 ≤ x.snd.snd ∧
(∃ (str2 : ByteArray),
BytesIn w'4 x.snd.fst hn1 str2 ∧
Below w'4.heap.size w'4 w'4 ∧
∃ (str3 : ByteArray),
BytesIn w'4 x.snd.fst hn2 str3 ∧
Below w'4.heap.size w'4 w'4 ∧
(ByteArray.mk #[(226 : UInt8), (151 : UInt8), (140 : UInt8)]).size + str3.size ≤ (9223372036854775807 : Nat) ∧
∃ (g2 : GSh),
#[Value.string str2, Value.int IntKind.i64 (0 : Int),
Value.agg #[Value.int IntKind.i64 n2, Value.bool b5, Value.int IntKind.i8 n3, Value.bool b6, Value.bool b7],
Value.string ((ByteArray.mk #[(226 : UInt8), (151 : UInt8), (140 : UInt8)]) ++ str3), Value.int IntKind.i64 (1 : Int)] =
#[Value.string g2.s, Value.int IntKind.i64 g2.col,
Value.agg
#[Value.int IntKind.i64 g2.l.tab, Value.bool g2.l.wide, Value.int IntKind.i8 g2.l.want, Value.bool g2.l.join,
Value.bool g2.l.raw],
Value.string g2.want, Value.int IntKind.i64 g2.wide] ∧
(U8 w'4 ∧ DB w'4 ∧ g2.s.size ≤ (67108864 : Nat)) ∧
∀ (x2 : Bool) (w'5 : World),
x2 = showsB g2.s g2.col g2.l g2.want g2.wide ∧ Ext w'4 w'5 →
bcase x2
(∃ (n4 : Int),
w'5.cell? { block := b, off := (0 : Nat) } = some (Value.int IntKind.i64 n4) ∧
∃ (b8 : Bool),
w'5.cell? { block := b, off := (1 : Nat) } = some (Value.bool b8) ∧
∃ (n5 : Int),
w'5.cell? { block := b, off := (2 : Nat) } = some (Value.int IntKind.i8 n5) ∧
∃ (b9 : Bool),
w'5.cell? { block := b, off := (3 : Nat) } = some (Value.bool b9) ∧
∃ (b10 : Bool),
w'5.cell? { block := b, off := (4 : Nat) } = some (Value.bool b10) ∧
∃ (g3 : GSh),
#[Value.string (ByteArray.mk #[(194 : UInt8), (169 : UInt8), (239 : UInt8), (184 : UInt8), (143 : UInt8)]),
Value.int IntKind.i64 (0 : Int),
Value.agg #[Value.int IntKind.i64 n4, Value.bool b8, Value.int IntKind.i8 n5, Value.bool b9, Value.bool b10],
Value.string (ByteArray.mk #[(194 : UInt8), (169 : UInt8), (239 : UInt8), (184 : UInt8), (143 : UInt8)]),
Value.int IntKind.i64 (2 : Int)] =
#[Value.string g3.s, Value.int IntKind.i64 g3.col,
Value.agg
#[Value.int IntKind.i64 g3.l.tab, Value.bool g3.l.wide, Value.int IntKind.i8 g3.l.want, Value.bool g3.l.join,
Value.bool g3.l.raw],
Value.string g3.want, Value.int IntKind.i64 g3.wide] ∧
(U8 w'5 ∧ DB w'5 ∧ g3.s.size ≤ (67108864 : Nat)) ∧
∀ (x3 : Bool) (w'6 : World),
x3 = showsB g3.s g3.col g3.l g3.want g3.wide ∧ Ext w'5 w'6 →
bcase x3
(∃ (n6 : Int),
w'6.cell? { block := b1, off := (0 : Nat) } = some (Value.int IntKind.i64 n6) ∧
∃ (b11 : Bool),
w'6.cell? { block := b1, off := (1 : Nat) } = some (Value.bool b11) ∧
∃ (n7 : Int),
w'6.cell? { block := b1, off := (2 : Nat) } = some (Value.int IntKind.i8 n7) ∧
∃ (b12 : Bool),
w'6.cell? { block := b1, off := (3 : Nat) } = some (Value.bool b12) ∧
∃ (b13 : Bool),
w'6.cell? { block := b1, off := (4 : Nat) } = some (Value.bool b13) ∧
∃ (g4 : GSh),
#[Value.string (ByteArray.mk #[(225 : UInt8), (133 : UInt8), (161 : UInt8)]), Value.int IntKind.i64 (0 : Int),
Value.agg #[Value.int IntKind.i64 n6, Value.bool b11, Value.int IntKind.i8 n7, Value.bool b12, Value.bool b13],
Value.string (ByteArray.mk #[]), Value.int IntKind.i64 (0 : Int)] =
#[Value.string g4.s, Value.int IntKind.i64 g4.col,
Value.agg
#[Value.int IntKind.i64 g4.l.tab, Value.bool g4.l.wide, Value.int IntKind.i8 g4.l.want, Value.bool g4.l.join,
Value.bool g4.l.raw],
Value.string g4.want, Value.int IntKind.i64 g4.wide] ∧
(U8 w'6 ∧ DB w'6 ∧ g4.s.size ≤ (67108864 : Nat)) ∧
∀ (x4 : Bool) (w'7 : World),
x4 = showsB g4.s g4.col g4.l g4.want g4.wide ∧ Ext w'6 w'7 →
bcase x4
(∃ (g5 : GSh),
#[Value.string (ByteArray.mk #[(194 : UInt8), (161 : UInt8)]), Value.int IntKind.i64 (0 : Int),
Value.agg
#[Value.int IntKind.i64 (0 : Int), Value.bool true, Value.int IntKind.i8 (0 : Int), Value.bool false, Value.bool false],
Value.string (ByteArray.mk #[(194 : UInt8), (161 : UInt8)]), Value.int IntKind.i64 (2 : Int)] =
#[Value.string g5.s, Value.int IntKind.i64 g5.col,
Value.agg
#[Value.int IntKind.i64 g5.l.tab, Value.bool g5.l.wide, Value.int IntKind.i8 g5.l.want, Value.bool g5.l.join,
Value.bool g5.l.raw],
Value.string g5.want, Value.int IntKind.i64 g5.wide] ∧
(U8 w'7 ∧ DB w'7 ∧ g5.s.size ≤ (67108864 : Nat)) ∧
∀ (x5 : Bool) (w'8 : World),
x5 = showsB g5.s g5.col g5.l g5.want g5.wide ∧ Ext w'7 w'8 →
bcase x5
(∃ (n8 : Int),
w'8.cell? { block := b1, off := (0 : Nat) } = some (Value.int IntKind.i64 n8) ∧
∃ (b14 : Bool),
w'8.cell? { block := b1, off := (1 : Nat) } = some (Value.bool b14) ∧
∃ (n9 : Int),
w'8.cell? { block := b1, off := (2 : Nat) } = some (Value.int IntKind.i8 n9) ∧
∃ (b15 : Bool),
w'8.cell? { block := b1, off := (3 : Nat) } = some (Value.bool b15) ∧
∃ (b16 : Bool),
w'8.cell? { block := b1, off := (4 : Nat) } = some (Value.bool b16) ∧
∃ (g6 : GSh),
#[Value.string (ByteArray.mk #[(239 : UInt8), (187 : UInt8), (191 : UInt8)]), Value.int IntKind.i64 (0 : Int),
Value.agg #[Value.int IntKind.i64 n8, Value.bool b14, Value.int IntKind.i8 n9, Value.bool b15, Value.bool b16],
Value.string (ByteArray.mk #[(60 : UInt8), (102 : UInt8), (101 : UInt8), (102 : UInt8), (102 : UInt8), (62 : UInt8)]),
Value.int IntKind.i64 (6 : Int)] =
#[Value.string g6.s, Value.int IntKind.i64 g6.col,
Value.agg
#[Value.int IntKind.i64 g6.l.tab, Value.bool g6.l.wide, Value.int IntKind.i8 g6.l.want, Value.bool g6.l.join,
Value.bool g6.l.raw],
Value.string g6.want, Value.int IntKind.i64 g6.wide] ∧
(U8 w'8 ∧ DB w'8 ∧ g6.s.size ≤ (67108864 : Nat)) ∧
∀ (x6 : Bool) (w'9 : World),
x6 = showsB g6.s g6.col g6.l g6.want g6.wide ∧ Ext w'8 w'9 →
∃ (c3 : Unit), Value.bool x6 = Value.bool true ∧ Ext w'3 w'9)
(∃ (c3 : Unit), Value.bool false = Value.bool true ∧ Ext w'3 w'8))
(∃ (c3 : Unit), Value.bool false = Value.bool true ∧ Ext w'3 w'7))
(∃ (c3 : Unit), Value.bool false = Value.bool true ∧ Ext w'3 w'6))
(∃ (c3 : Unit), Value.bool false = Value.bool true ∧ Ext w'3 w'5)) ∧
∃ (str2 : ByteArray),
BytesIn w'4 x.snd.fst hn2 str2 ∧
Below w'4.heap.size w'4 w'4 ∧
(ByteArray.mk #[(226 : UInt8), (151 : UInt8), (140 : UInt8)]).size + str2.size ≤ (9223372036854775807 : Nat) ∧
∃ (str3 : ByteArray),
BytesIn w'4 x.snd.fst hn1 str3 ∧
Below w'4.heap.size w'4 w'4 ∧
∃ (g2 : GSh),
#[Value.string str3, Value.int IntKind.i64 (0 : Int),
Value.agg #[Value.int IntKind.i64 n2, Value.bool b5, Value.int IntKind.i8 n3, Value.bool b6, Value.bool b7],
Value.string ((ByteArray.mk #[(226 : UInt8), (151 : UInt8), (140 : UInt8)]) ++ str2), Value.int IntKind.i64 (1 : Int)] =
#[Value.string g2.s, Value.int IntKind.i64 g2.col,
Value.agg
#[Value.int IntKind.i64 g2.l.tab, Value.bool g2.l.wide, Value.int IntKind.i8 g2.l.want, Value.bool g2.l.join,
Value.bool g2.l.raw],
Value.string g2.want, Value.int IntKind.i64 g2.wide] ∧
(U8 w'4 ∧ DB w'4 ∧ g2.s.size ≤ (67108864 : Nat)) ∧
∀ (x2 : Bool) (w'5 : World),
x2 = showsB g2.s g2.col g2.l g2.want g2.wide ∧ Ext w'4 w'5 →
bcase x2
(∃ (n4 : Int),
w'5.cell? { block := b, off := (0 : Nat) } = some (Value.int IntKind.i64 n4) ∧
∃ (b8 : Bool),
w'5.cell? { block := b, off := (1 : Nat) } = some (Value.bool b8) ∧
∃ (n5 : Int),
w'5.cell? { block := b, off := (2 : Nat) } = some (Value.int IntKind.i8 n5) ∧
∃ (b9 : Bool),
w'5.cell? { block := b, off := (3 : Nat) } = some (Value.bool b9) ∧
∃ (b10 : Bool),
w'5.cell? { block := b, off := (4 : Nat) } = some (Value.bool b10) ∧
∃ (g3 : GSh),
#[Value.string (ByteArray.mk #[(194 : UInt8), (169 : UInt8), (239 : UInt8), (184 : UInt8), (143 : UInt8)]),
Value.int IntKind.i64 (0 : Int),
Value.agg #[Value.int IntKind.i64 n4, Value.bool b8, Value.int IntKind.i8 n5, Value.bool b9, Value.bool b10],
Value.string (ByteArray.mk #[(194 : UInt8), (169 : UInt8), (239 : UInt8), (184 : UInt8), (143 : UInt8)]),
Value.int IntKind.i64 (2 : Int)] =
#[Value.string g3.s, Value.int IntKind.i64 g3.col,
Value.agg
#[Value.int IntKind.i64 g3.l.tab, Value.bool g3.l.wide, Value.int IntKind.i8 g3.l.want, Value.bool g3.l.join,
Value.bool g3.l.raw],
Value.string g3.want, Value.int IntKind.i64 g3.wide] ∧
(U8 w'5 ∧ DB w'5 ∧ g3.s.size ≤ (67108864 : Nat)) ∧
∀ (x3 : Bool) (w'6 : World),
x3 = showsB g3.s g3.col g3.l g3.want g3.wide ∧ Ext w'5 w'6 →
bcase x3
(∃ (n6 : Int),
w'6.cell? { block := b1, off := (0 : Nat) } = some (Value.int IntKind.i64 n6) ∧
∃ (b11 : Bool),
w'6.cell? { block := b1, off := (1 : Nat) } = some (Value.bool b11) ∧
∃ (n7 : Int),
w'6.cell? { block := b1, off := (2 : Nat) } = some (Value.int IntKind.i8 n7) ∧
∃ (b12 : Bool),
w'6.cell? { block := b1, off := (3 : Nat) } = some (Value.bool b12) ∧
∃ (b13 : Bool),
w'6.cell? { block := b1, off := (4 : Nat) } = some (Value.bool b13) ∧
∃ (g4 : GSh),
#[Value.string (ByteArray.mk #[(225 : UInt8), (133 : UInt8), (161 : UInt8)]), Value.int IntKind.i64 (0 : Int),
Value.agg #[Value.int IntKind.i64 n6, Value.bool b11, Value.int IntKind.i8 n7, Value.bool b12, Value.bool b13],
Value.string (ByteArray.mk #[]), Value.int IntKind.i64 (0 : Int)] =
#[Value.string g4.s, Value.int IntKind.i64 g4.col,
Value.agg
#[Value.int IntKind.i64 g4.l.tab, Value.bool g4.l.wide, Value.int IntKind.i8 g4.l.want, Value.bool g4.l.join,
Value.bool g4.l.raw],
Value.string g4.want, Value.int IntKind.i64 g4.wide] ∧
(U8 w'6 ∧ DB w'6 ∧ g4.s.size ≤ (67108864 : Nat)) ∧
∀ (x4 : Bool) (w'7 : World),
x4 = showsB g4.s g4.col g4.l g4.want g4.wide ∧ Ext w'6 w'7 →
bcase x4
(∃ (g5 : GSh),
#[Value.string (ByteArray.mk #[(194 : UInt8), (161 : UInt8)]), Value.int IntKind.i64 (0 : Int),
Value.agg
#[Value.int IntKind.i64 (0 : Int), Value.bool true, Value.int IntKind.i8 (0 : Int), Value.bool false, Value.bool false],
Value.string (ByteArray.mk #[(194 : UInt8), (161 : UInt8)]), Value.int IntKind.i64 (2 : Int)] =
#[Value.string g5.s, Value.int IntKind.i64 g5.col,
Value.agg
#[Value.int IntKind.i64 g5.l.tab, Value.bool g5.l.wide, Value.int IntKind.i8 g5.l.want, Value.bool g5.l.join,
Value.bool g5.l.raw],
Value.string g5.want, Value.int IntKind.i64 g5.wide] ∧
(U8 w'7 ∧ DB w'7 ∧ g5.s.size ≤ (67108864 : Nat)) ∧
∀ (x5 : Bool) (w'8 : World),
x5 = showsB g5.s g5.col g5.l g5.want g5.wide ∧ Ext w'7 w'8 →
bcase x5
(∃ (n8 : Int),
w'8.cell? { block := b1, off := (0 : Nat) } = some (Value.int IntKind.i64 n8) ∧
∃ (b14 : Bool),
w'8.cell? { block := b1, off := (1 : Nat) } = some (Value.bool b14) ∧
∃ (n9 : Int),
w'8.cell? { block := b1, off := (2 : Nat) } = some (Value.int IntKind.i8 n9) ∧
∃ (b15 : Bool),
w'8.cell? { block := b1, off := (3 : Nat) } = some (Value.bool b15) ∧
∃ (b16 : Bool),
w'8.cell? { block := b1, off := (4 : Nat) } = some (Value.bool b16) ∧
∃ (g6 : GSh),
#[Value.string (ByteArray.mk #[(239 : UInt8), (187 : UInt8), (191 : UInt8)]), Value.int IntKind.i64 (0 : Int),
Value.agg #[Value.int IntKind.i64 n8, Value.bool b14, Value.int IntKind.i8 n9, Value.bool b15, Value.bool b16],
Value.string (ByteArray.mk #[(60 : UInt8), (102 : UInt8), (101 : UInt8), (102 : UInt8), (102 : UInt8), (62 : UInt8)]),
Value.int IntKind.i64 (6 : Int)] =
#[Value.string g6.s, Value.int IntKind.i64 g6.col,
Value.agg
#[Value.int IntKind.i64 g6.l.tab, Value.bool g6.l.wide, Value.int IntKind.i8 g6.l.want, Value.bool g6.l.join,
Value.bool g6.l.raw],
Value.string g6.want, Value.int IntKind.i64 g6.wide] ∧
(U8 w'8 ∧ DB w'8 ∧ g6.s.size ≤ (67108864 : Nat)) ∧
∀ (x6 : Bool) (w'9 : World),
x6 = showsB g6.s g6.col g6.l g6.want g6.wide ∧ Ext w'8 w'9 →
∃ (c3 : Unit), Value.bool x6 = Value.bool true ∧ Ext w'3 w'9)
(∃ (c3 : Unit), Value.bool false = Value.bool true ∧ Ext w'3 w'8))
(∃ (c3 : Unit), Value.bool false = Value.bool true ∧ Ext w'3 w'7))
(∃ (c3 : Unit), Value.bool false = Value.bool true ∧ Ext w'3 w'6))
(∃ (c3 : Unit), Value.bool false = Value.bool true ∧ Ext w'3 w'5))
((∃ (c3 : Unit), Value.bool false = Value.bool true ∧ Ext w'3 w'4) ∧
∃ (c3 : Unit), Value.bool false = Value.bool true ∧ Ext w'3 w'4)) ∧
∃ (str : ByteArray),
BytesIn w12 x.snd.fst hn str ∧
Below w12.heap.size w12 w12 ∧
(ByteArray.mk #[(226 : UInt8), (151 : UInt8), (140 : UInt8)]).size + str.size ≤ (9223372036854775807 : Nat) ∧
∃ (str1 : ByteArray),
BytesIn w12 x.snd.fst ((2 : Nat) * x.fst) str1 ∧
Below w12.heap.size w12 w12 ∧
∃ (g1 : GSh),
#[Value.string str1, Value.int IntKind.i64 (0 : Int),
Value.agg #[Value.int IntKind.i64 n, Value.bool b2, Value.int IntKind.i8 n1, Value.bool b3, Value.bool b4],
Value.string ((ByteArray.mk #[(226 : UInt8), (151 : UInt8), (140 : UInt8)]) ++ str), Value.int IntKind.i64 (1 : Int)] =
#[Value.string g1.s, Value.int IntKind.i64 g1.col,
Value.agg
#[Value.int IntKind.i64 g1.l.tab, Value.bool g1.l.wide, Value.int IntKind.i8 g1.l.want, Value.bool g1.l.join,
Value.bool g1.l.raw],
Value.string g1.want, Value.int IntKind.i64 g1.wide] ∧
(U8 w12 ∧ DB w12 ∧ g1.s.size ≤ (67108864 : Nat)) ∧
∀ (x1 : Bool) (w'4 : World),
x1 = showsB g1.s g1.col g1.l g1.want g1.wide ∧ Ext w12 w'4 →
bcase x1
(∃ (hn1 : Nat),
(62 : Int) = (↑hn1 : Int) ∧
hn1 ≤ x.snd.snd ∧
∃ (n2 : Int),
w'4.cell? { block := b, off := (0 : Nat) } = some (Value.int IntKind.i64 n2) ∧
∃ (b5 : Bool),
w'4.cell? { block := b, off := (1 : Nat) } = some (Value.bool b5) ∧
∃ (n3 : Int),
w'4.cell? { block := b, off := (2 : Nat) } = some (Value.int IntKind.i8 n3) ∧
∃ (b6 : Bool),
w'4.cell? { block := b, off := (3 : Nat) } = some (Value.bool b6) ∧
∃ (b7 : Bool),
w'4.cell? { block := b, off := (4 : Nat) } = some (Value.bool b7) ∧
∃ (hn2 : Nat),
(62 : Int) = (↑hn2 : Int) ∧
hn2 ≤ x.snd.snd ∧
(∃ (str2 : ByteArray),
BytesIn w'4 x.snd.fst hn1 str2 ∧
Below w'4.heap.size w'4 w'4 ∧
∃ (str3 : ByteArray),
BytesIn w'4 x.snd.fst hn2 str3 ∧
Below w'4.heap.size w'4 w'4 ∧
(ByteArray.mk #[(226 : UInt8), (151 : UInt8), (140 : UInt8)]).size + str3.size ≤ (9223372036854775807 : Nat) ∧
∃ (g2 : GSh),
#[Value.string str2, Value.int IntKind.i64 (0 : Int),
Value.agg #[Value.int IntKind.i64 n2, Value.bool b5, Value.int IntKind.i8 n3, Value.bool b6, Value.bool b7],
Value.string ((ByteArray.mk #[(226 : UInt8), (151 : UInt8), (140 : UInt8)]) ++ str3), Value.int IntKind.i64 (1 : Int)] =
#[Value.string g2.s, Value.int IntKind.i64 g2.col,
Value.agg
#[Value.int IntKind.i64 g2.l.tab, Value.bool g2.l.wide, Value.int IntKind.i8 g2.l.want, Value.bool g2.l.join,
Value.bool g2.l.raw],
Value.string g2.want, Value.int IntKind.i64 g2.wide] ∧
(U8 w'4 ∧ DB w'4 ∧ g2.s.size ≤ (67108864 : Nat)) ∧
∀ (x2 : Bool) (w'5 : World),
x2 = showsB g2.s g2.col g2.l g2.want g2.wide ∧ Ext w'4 w'5 →
bcase x2
(∃ (n4 : Int),
w'5.cell? { block := b, off := (0 : Nat) } = some (Value.int IntKind.i64 n4) ∧
∃ (b8 : Bool),
w'5.cell? { block := b, off := (1 : Nat) } = some (Value.bool b8) ∧
∃ (n5 : Int),
w'5.cell? { block := b, off := (2 : Nat) } = some (Value.int IntKind.i8 n5) ∧
∃ (b9 : Bool),
w'5.cell? { block := b, off := (3 : Nat) } = some (Value.bool b9) ∧
∃ (b10 : Bool),
w'5.cell? { block := b, off := (4 : Nat) } = some (Value.bool b10) ∧
∃ (g3 : GSh),
#[Value.string (ByteArray.mk #[(194 : UInt8), (169 : UInt8), (239 : UInt8), (184 : UInt8), (143 : UInt8)]),
Value.int IntKind.i64 (0 : Int),
Value.agg #[Value.int IntKind.i64 n4, Value.bool b8, Value.int IntKind.i8 n5, Value.bool b9, Value.bool b10],
Value.string (ByteArray.mk #[(194 : UInt8), (169 : UInt8), (239 : UInt8), (184 : UInt8), (143 : UInt8)]),
Value.int IntKind.i64 (2 : Int)] =
#[Value.string g3.s, Value.int IntKind.i64 g3.col,
Value.agg
#[Value.int IntKind.i64 g3.l.tab, Value.bool g3.l.wide, Value.int IntKind.i8 g3.l.want, Value.bool g3.l.join,
Value.bool g3.l.raw],
Value.string g3.want, Value.int IntKind.i64 g3.wide] ∧
(U8 w'5 ∧ DB w'5 ∧ g3.s.size ≤ (67108864 : Nat)) ∧
∀ (x3 : Bool) (w'6 : World),
x3 = showsB g3.s g3.col g3.l g3.want g3.wide ∧ Ext w'5 w'6 →
bcase x3
(∃ (n6 : Int),
w'6.cell? { block := b1, off := (0 : Nat) } = some (Value.int IntKind.i64 n6) ∧
∃ (b11 : Bool),
w'6.cell? { block := b1, off := (1 : Nat) } = some (Value.bool b11) ∧
∃ (n7 : Int),
w'6.cell? { block := b1, off := (2 : Nat) } = some (Value.int IntKind.i8 n7) ∧
∃ (b12 : Bool),
w'6.cell? { block := b1, off := (3 : Nat) } = some (Value.bool b12) ∧
∃ (b13 : Bool),
w'6.cell? { block := b1, off := (4 : Nat) } = some (Value.bool b13) ∧
∃ (g4 : GSh),
#[Value.string (ByteArray.mk #[(225 : UInt8), (133 : UInt8), (161 : UInt8)]), Value.int IntKind.i64 (0 : Int),
Value.agg #[Value.int IntKind.i64 n6, Value.bool b11, Value.int IntKind.i8 n7, Value.bool b12, Value.bool b13],
Value.string (ByteArray.mk #[]), Value.int IntKind.i64 (0 : Int)] =
#[Value.string g4.s, Value.int IntKind.i64 g4.col,
Value.agg
#[Value.int IntKind.i64 g4.l.tab, Value.bool g4.l.wide, Value.int IntKind.i8 g4.l.want, Value.bool g4.l.join,
Value.bool g4.l.raw],
Value.string g4.want, Value.int IntKind.i64 g4.wide] ∧
(U8 w'6 ∧ DB w'6 ∧ g4.s.size ≤ (67108864 : Nat)) ∧
∀ (x4 : Bool) (w'7 : World),
x4 = showsB g4.s g4.col g4.l g4.want g4.wide ∧ Ext w'6 w'7 →
bcase x4
(∃ (g5 : GSh),
#[Value.string (ByteArray.mk #[(194 : UInt8), (161 : UInt8)]), Value.int IntKind.i64 (0 : Int),
Value.agg
#[Value.int IntKind.i64 (0 : Int), Value.bool true, Value.int IntKind.i8 (0 : Int), Value.bool false, Value.bool false],
Value.string (ByteArray.mk #[(194 : UInt8), (161 : UInt8)]), Value.int IntKind.i64 (2 : Int)] =
#[Value.string g5.s, Value.int IntKind.i64 g5.col,
Value.agg
#[Value.int IntKind.i64 g5.l.tab, Value.bool g5.l.wide, Value.int IntKind.i8 g5.l.want, Value.bool g5.l.join,
Value.bool g5.l.raw],
Value.string g5.want, Value.int IntKind.i64 g5.wide] ∧
(U8 w'7 ∧ DB w'7 ∧ g5.s.size ≤ (67108864 : Nat)) ∧
∀ (x5 : Bool) (w'8 : World),
x5 = showsB g5.s g5.col g5.l g5.want g5.wide ∧ Ext w'7 w'8 →
bcase x5
(∃ (n8 : Int),
w'8.cell? { block := b1, off := (0 : Nat) } = some (Value.int IntKind.i64 n8) ∧
∃ (b14 : Bool),
w'8.cell? { block := b1, off := (1 : Nat) } = some (Value.bool b14) ∧
∃ (n9 : Int),
w'8.cell? { block := b1, off := (2 : Nat) } = some (Value.int IntKind.i8 n9) ∧
∃ (b15 : Bool),
w'8.cell? { block := b1, off := (3 : Nat) } = some (Value.bool b15) ∧
∃ (b16 : Bool),
w'8.cell? { block := b1, off := (4 : Nat) } = some (Value.bool b16) ∧
∃ (g6 : GSh),
#[Value.string (ByteArray.mk #[(239 : UInt8), (187 : UInt8), (191 : UInt8)]), Value.int IntKind.i64 (0 : Int),
Value.agg #[Value.int IntKind.i64 n8, Value.bool b14, Value.int IntKind.i8 n9, Value.bool b15, Value.bool b16],
Value.string (ByteArray.mk #[(60 : UInt8), (102 : UInt8), (101 : UInt8), (102 : UInt8), (102 : UInt8), (62 : UInt8)]),
Value.int IntKind.i64 (6 : Int)] =
#[Value.string g6.s, Value.int IntKind.i64 g6.col,
Value.agg
#[Value.int IntKind.i64 g6.l.tab, Value.bool g6.l.wide, Value.int IntKind.i8 g6.l.want, Value.bool g6.l.join,
Value.bool g6.l.raw],
Value.string g6.want, Value.int IntKind.i64 g6.wide] ∧
(U8 w'8 ∧ DB w'8 ∧ g6.s.size ≤ (67108864 : Nat)) ∧
∀ (x6 : Bool) (w'9 : World),
x6 = showsB g6.s g6.col g6.l g6.want g6.wide ∧ Ext w'8 w'9 →
∃ (c3 : Unit), Value.bool x6 = Value.bool true ∧ Ext w'3 w'9)
(∃ (c3 : Unit), Value.bool false = Value.bool true ∧ Ext w'3 w'8))
(∃ (c3 : Unit), Value.bool false = Value.bool true ∧ Ext w'3 w'7))
(∃ (c3 : Unit), Value.bool false = Value.bool true ∧ Ext w'3 w'6))
(∃ (c3 : Unit), Value.bool false = Value.bool true ∧ Ext w'3 w'5)) ∧
∃ (str2 : ByteArray),
BytesIn w'4 x.snd.fst hn2 str2 ∧
Below w'4.heap.size w'4 w'4 ∧
(ByteArray.mk #[(226 : UInt8), (151 : UInt8), (140 : UInt8)]).size + str2.size ≤ (9223372036854775807 : Nat) ∧
∃ (str3 : ByteArray),
BytesIn w'4 x.snd.fst hn1 str3 ∧
Below w'4.heap.size w'4 w'4 ∧
∃ (g2 : GSh),
#[Value.string str3, Value.int IntKind.i64 (0 : Int),
Value.agg #[Value.int IntKind.i64 n2, Value.bool b5, Value.int IntKind.i8 n3, Value.bool b6, Value.bool b7],
Value.string ((ByteArray.mk #[(226 : UInt8), (151 : UInt8), (140 : UInt8)]) ++ str2), Value.int IntKind.i64 (1 : Int)] =
#[Value.string g2.s, Value.int IntKind.i64 g2.col,
Value.agg
#[Value.int IntKind.i64 g2.l.tab, Value.bool g2.l.wide, Value.int IntKind.i8 g2.l.want, Value.bool g2.l.join,
Value.bool g2.l.raw],
Value.string g2.want, Value.int IntKind.i64 g2.wide] ∧
(U8 w'4 ∧ DB w'4 ∧ g2.s.size ≤ (67108864 : Nat)) ∧
∀ (x2 : Bool) (w'5 : World),
x2 = showsB g2.s g2.col g2.l g2.want g2.wide ∧ Ext w'4 w'5 →
bcase x2
(∃ (n4 : Int),
w'5.cell? { block := b, off := (0 : Nat) } = some (Value.int IntKind.i64 n4) ∧
∃ (b8 : Bool),
w'5.cell? { block := b, off := (1 : Nat) } = some (Value.bool b8) ∧
∃ (n5 : Int),
w'5.cell? { block := b, off := (2 : Nat) } = some (Value.int IntKind.i8 n5) ∧
∃ (b9 : Bool),
w'5.cell? { block := b, off := (3 : Nat) } = some (Value.bool b9) ∧
∃ (b10 : Bool),
w'5.cell? { block := b, off := (4 : Nat) } = some (Value.bool b10) ∧
∃ (g3 : GSh),
#[Value.string (ByteArray.mk #[(194 : UInt8), (169 : UInt8), (239 : UInt8), (184 : UInt8), (143 : UInt8)]),
Value.int IntKind.i64 (0 : Int),
Value.agg #[Value.int IntKind.i64 n4, Value.bool b8, Value.int IntKind.i8 n5, Value.bool b9, Value.bool b10],
Value.string (ByteArray.mk #[(194 : UInt8), (169 : UInt8), (239 : UInt8), (184 : UInt8), (143 : UInt8)]),
Value.int IntKind.i64 (2 : Int)] =
#[Value.string g3.s, Value.int IntKind.i64 g3.col,
Value.agg
#[Value.int IntKind.i64 g3.l.tab, Value.bool g3.l.wide, Value.int IntKind.i8 g3.l.want, Value.bool g3.l.join,
Value.bool g3.l.raw],
Value.string g3.want, Value.int IntKind.i64 g3.wide] ∧
(U8 w'5 ∧ DB w'5 ∧ g3.s.size ≤ (67108864 : Nat)) ∧
∀ (x3 : Bool) (w'6 : World),
x3 = showsB g3.s g3.col g3.l g3.want g3.wide ∧ Ext w'5 w'6 →
bcase x3
(∃ (n6 : Int),
w'6.cell? { block := b1, off := (0 : Nat) } = some (Value.int IntKind.i64 n6) ∧
∃ (b11 : Bool),
w'6.cell? { block := b1, off := (1 : Nat) } = some (Value.bool b11) ∧
∃ (n7 : Int),
w'6.cell? { block := b1, off := (2 : Nat) } = some (Value.int IntKind.i8 n7) ∧
∃ (b12 : Bool),
w'6.cell? { block := b1, off := (3 : Nat) } = some (Value.bool b12) ∧
∃ (b13 : Bool),
w'6.cell? { block := b1, off := (4 : Nat) } = some (Value.bool b13) ∧
∃ (g4 : GSh),
#[Value.string (ByteArray.mk #[(225 : UInt8), (133 : UInt8), (161 : UInt8)]), Value.int IntKind.i64 (0 : Int),
Value.agg #[Value.int IntKind.i64 n6, Value.bool b11, Value.int IntKind.i8 n7, Value.bool b12, Value.bool b13],
Value.string (ByteArray.mk #[]), Value.int IntKind.i64 (0 : Int)] =
#[Value.string g4.s, Value.int IntKind.i64 g4.col,
Value.agg
#[Value.int IntKind.i64 g4.l.tab, Value.bool g4.l.wide, Value.int IntKind.i8 g4.l.want, Value.bool g4.l.join,
Value.bool g4.l.raw],
Value.string g4.want, Value.int IntKind.i64 g4.wide] ∧
(U8 w'6 ∧ DB w'6 ∧ g4.s.size ≤ (67108864 : Nat)) ∧
∀ (x4 : Bool) (w'7 : World),
x4 = showsB g4.s g4.col g4.l g4.want g4.wide ∧ Ext w'6 w'7 →
bcase x4
(∃ (g5 : GSh),
#[Value.string (ByteArray.mk #[(194 : UInt8), (161 : UInt8)]), Value.int IntKind.i64 (0 : Int),
Value.agg
#[Value.int IntKind.i64 (0 : Int), Value.bool true, Value.int IntKind.i8 (0 : Int), Value.bool false, Value.bool false],
Value.string (ByteArray.mk #[(194 : UInt8), (161 : UInt8)]), Value.int IntKind.i64 (2 : Int)] =
#[Value.string g5.s, Value.int IntKind.i64 g5.col,
Value.agg
#[Value.int IntKind.i64 g5.l.tab, Value.bool g5.l.wide, Value.int IntKind.i8 g5.l.want, Value.bool g5.l.join,
Value.bool g5.l.raw],
Value.string g5.want, Value.int IntKind.i64 g5.wide] ∧
(U8 w'7 ∧ DB w'7 ∧ g5.s.size ≤ (67108864 : Nat)) ∧
∀ (x5 : Bool) (w'8 : World),
x5 = showsB g5.s g5.col g5.l g5.want g5.wide ∧ Ext w'7 w'8 →
bcase x5
(∃ (n8 : Int),
w'8.cell? { block := b1, off := (0 : Nat) } = some (Value.int IntKind.i64 n8) ∧
∃ (b14 : Bool),
w'8.cell? { block := b1, off := (1 : Nat) } = some (Value.bool b14) ∧
∃ (n9 : Int),
w'8.cell? { block := b1, off := (2 : Nat) } = some (Value.int IntKind.i8 n9) ∧
∃ (b15 : Bool),
w'8.cell? { block := b1, off := (3 : Nat) } = some (Value.bool b15) ∧
∃ (b16 : Bool),
w'8.cell? { block := b1, off := (4 : Nat) } = some (Value.bool b16) ∧
∃ (g6 : GSh),
#[Value.string (ByteArray.mk #[(239 : UInt8), (187 : UInt8), (191 : UInt8)]), Value.int IntKind.i64 (0 : Int),
Value.agg #[Value.int IntKind.i64 n8, Value.bool b14, Value.int IntKind.i8 n9, Value.bool b15, Value.bool b16],
Value.string (ByteArray.mk #[(60 : UInt8), (102 : UInt8), (101 : UInt8), (102 : UInt8), (102 : UInt8), (62 : UInt8)]),
Value.int IntKind.i64 (6 : Int)] =
#[Value.string g6.s, Value.int IntKind.i64 g6.col,
Value.agg
#[Value.int IntKind.i64 g6.l.tab, Value.bool g6.l.wide, Value.int IntKind.i8 g6.l.want, Value.bool g6.l.join,
Value.bool g6.l.raw],
Value.string g6.want, Value.int IntKind.i64 g6.wide] ∧
(U8 w'8 ∧ DB w'8 ∧ g6.s.size ≤ (67108864 : Nat)) ∧
∀ (x6 : Bool) (w'9 : World),
x6 = showsB g6.s g6.col g6.l g6.want g6.wide ∧ Ext w'8 w'9 →
∃ (c3 : Unit), Value.bool x6 = Value.bool true ∧ Ext w'3 w'9)
(∃ (c3 : Unit), Value.bool false = Value.bool true ∧ Ext w'3 w'8))
(∃ (c3 : Unit), Value.bool false = Value.bool true ∧ Ext w'3 w'7))
(∃ (c3 : Unit), Value.bool false = Value.bool true ∧ Ext w'3 w'6))
(∃ (c3 : Unit), Value.bool false = Value.bool true ∧ Ext w'3 w'5))
((∃ (c3 : Unit), Value.bool false = Value.bool true ∧ Ext w'3 w'4) ∧
∃ (c3 : Unit), Value.bool false = Value.bool true ∧ Ext w'3 w'4)) ∧
∀ (u4 : Nat → Value) (c3 : Unit) (w'4 : World),
Ext w'3 w'4 →
∃ (g1 : Unit),
(#[] : Array Value) = #[] ∧
UD w'4 ∧ ∀ (x1 : Unit) (w'5 : World), Ext w'4 w'5 → ∃ (x2 : Unit), Value.bool true = Value.bool true ∧ Ext w w'5)) :
    ((sYes UD)).Ok Tryd.prog 17 :=
  ok_of_vc (sYes UD) annKn6 spKn6 (fun _ _ => rfl) (fun _ _ => rfl) hsp Tryd.func17 rfl (n := 0) (fun _ => rfl) (by kernel_rfl) (vcast (by kernel_rfl) h)

set_option maxRecDepth 1000000 in
theorem lawAd_vc (hsp : SpecsOk Tryd.prog spAd) (h : ∀ (g : GAd) (w : World),
U8 w ∧ DB w ∧ g.s.size ≤ (1048576 : Nat) →
∀ (b : Nat) (w1 : World),
New w (Obj.cells #[Value.string g.s] (9 : Nat)) b w1 →
∀ (b1 : Nat) (w11 : World),
New w1 (Obj.cells #[Value.int IntKind.i64 g.col] (3 : Nat)) b1 w11 →
∀ (b2 : Nat) (w12 : World),
New w11
(Obj.cells
#[Value.int IntKind.i64 g.l.tab, Value.bool g.l.wide, Value.int IntKind.i8 g.l.want, Value.bool g.l.join,
Value.bool g.l.raw]
(57 : Nat))
b2 w12 →
∀ (b3 : Nat) (w13 : World),
New w12 (Obj.cells #[Value.int IntKind.i64 g.w] (3 : Nat)) b3 w13 →
∀ (b4 : Nat) (w14 : World),
New w13 (Obj.cells #[Value.bool false] (4 : Nat)) b4 w14 →
(∃ (n : Int),
w14.cell? { block := b1, off := (0 : Nat) } = some (Value.int IntKind.i64 n) ∧
bcase (decide (n < (0 : Int)))
(true = true ∧
(∃ (old : Value), w14.cell? { block := b1, off := (0 : Nat) } = some old) ∧
w14.frozen? { block := b1, off := (0 : Nat) } = false ∧
∀ (w15 : World),
Stored w14 { block := b1, off := (0 : Nat) } (Value.int IntKind.i64 (0 : Int)) w15 →
∃ (c : Unit),
w15.heap[ptrB (Value.pointer (some { block := b1, off := (0 : Nat) }))]? =
some (Obj.cells #[Value.int IntKind.i64 (colA g.col)] (3 : TypeId)) ∧
Fr (fun (q : Nat) => q = ptrB (Value.pointer (some { block := b1, off := (0 : Nat) }))) w14 w15)
(∃ (n1 : Int),
w14.cell? { block := b1, off := (0 : Nat) } = some (Value.int IntKind.i64 n1) ∧
bcase (decide (n1 > (1073741824 : Int)))
(true = true ∧
(∃ (old : Value), w14.cell? { block := b1, off := (0 : Nat) } = some old) ∧
w14.frozen? { block := b1, off := (0 : Nat) } = false ∧
∀ (w15 : World),
Stored w14 { block := b1, off := (0 : Nat) } (Value.int IntKind.i64 (0 : Int)) w15 →
∃ (c : Unit),
w15.heap[ptrB (Value.pointer (some { block := b1, off := (0 : Nat) }))]? =
some (Obj.cells #[Value.int IntKind.i64 (colA g.col)] (3 : TypeId)) ∧
Fr (fun (q : Nat) => q = ptrB (Value.pointer (some { block := b1, off := (0 : Nat) }))) w14 w15)
(∃ (c : Unit),
w14.heap[ptrB (Value.pointer (some { block := b1, off := (0 : Nat) }))]? =
some (Obj.cells #[Value.int IntKind.i64 (colA g.col)] (3 : TypeId)) ∧
Fr (fun (q : Nat) => q = ptrB (Value.pointer (some { block := b1, off := (0 : Nat) }))) w14 w14))) ∧
∀ (u : Nat → Value) (c : Unit) (w' : World),
w'.heap[ptrB (Value.pointer (some { block := b1, off := (0 : Nat) }))]? =
some (Obj.cells #[Value.int IntKind.i64 (colA g.col)] (3 : TypeId)) ∧
Fr (fun (q : Nat) => q = ptrB (Value.pointer (some { block := b1, off := (0 : Nat) }))) w14 w' →
∃ (s : ByteArray),
w'.cell? { block := b, off := (0 : Nat) } = some (Value.string s) ∧
∃ (n : Int),
w'.cell? { block := b1, off := (0 : Nat) } = some (Value.int IntKind.i64 n) ∧
∃ (n1 : Int),
w'.cell? { block := b2, off := (0 : Nat) } = some (Value.int IntKind.i64 n1) ∧
∃ (b5 : Bool),
w'.cell? { block := b2, off := (1 : Nat) } = some (Value.bool b5) ∧
∃ (n2 : Int),
w'.cell? { block := b2, off := (2 : Nat) } = some (Value.int IntKind.i8 n2) ∧
∃ (b6 : Bool),
w'.cell? { block := b2, off := (3 : Nat) } = some (Value.bool b6) ∧
∃ (b7 : Bool),
w'.cell? { block := b2, off := (4 : Nat) } = some (Value.bool b7) ∧
∃ (g1 : GT6),
#[Value.string s, Value.int IntKind.i64 n,
Value.agg #[Value.int IntKind.i64 n1, Value.bool b5, Value.int IntKind.i8 n2, Value.bool b6, Value.bool b7]] =
#[Value.string g1.s, Value.int IntKind.i64 g1.col,
Value.agg
#[Value.int IntKind.i64 g1.l.tab, Value.bool g1.l.wide, Value.int IntKind.i8 g1.l.want, Value.bool g1.l.join,
Value.bool g1.l.raw]] ∧
(U8 w' ∧ DB w' ∧ g1.s.size ≤ (67108864 : Nat)) ∧
∀ (x : Nat) (w'1 : World),
x = wideS g1.s g1.col g1.l ∧ Ext w' w'1 →
∀ (b8 : Nat) (w15 : World),
New w'1 (Obj.cells #[Value.int IntKind.i64 (0 : Int)] (3 : Nat)) b8 w15 →
true = true ∧
(∃ (old : Value), w15.cell? { block := b8, off := (0 : Nat) } = some old) ∧
w15.frozen? { block := b8, off := (0 : Nat) } = false ∧
∀ (w16 : World),
Stored w15 { block := b8, off := (0 : Nat) } (Value.int IntKind.i64 (↑x : Int)) w16 →
∃ (s1 : ByteArray),
w16.cell? { block := b, off := (0 : Nat) } = some (Value.string s1) ∧
∃ (g2 : ByteArray),
#[Value.string s1] = #[Value.string g2] ∧
True ∧
∀ (x1 : Nat) (w'2 : World),
w16.heap.size ≤ x1 ∧ w'2.heap[x1]? = some (Obj.cells #[Value.string g2] (9 : TypeId)) ∧ Ext w16 w'2 →
(∃ (g3 : Unit),
(#[] : Array Value) = #[] ∧
UD w'2 ∧
∀ (x2 : Unit) (w'3 : World),
Ext w'2 w'3 →
∃ (n3 : Int),
w'3.cell? { block := b8, off := (0 : Nat) } = some (Value.int IntKind.i64 n3) ∧
bcase (decide (n3 < (0 : Int)))
(true = true ∧
(∃ (old : Value), w'3.cell? { block := b4, off := (0 : Nat) } = some old) ∧
w'3.frozen? { block := b4, off := (0 : Nat) } = false ∧
∀ (w17 : World),
Stored w'3 { block := b4, off := (0 : Nat) } (Value.bool false) w17 →
∃ (b9 : Bool),
w17.cell? { block := b4, off := (0 : Nat) } = some (Value.bool b9) ∧
∀ (w2 : World), Turn w.heap.size w17 w2 → ∃ (x3 : Unit), Value.bool b9 = Value.bool true ∧ Ext w w2)
(∃ (c1 : Unit), Ext w'2 w'3)) ∧
∀ (u1 : Nat → Value) (c1 : Unit) (w'3 : World),
Ext w'2 w'3 →
∃ (s2 : ByteArray),
w'3.cell? { block := b, off := (0 : Nat) } = some (Value.string s2) ∧
∃ (n3 : Int),
w'3.cell? { block := b3, off := (0 : Nat) } = some (Value.int IntKind.i64 n3) ∧
∃ (n4 : Int),
w'3.cell? { block := b2, off := (0 : Nat) } = some (Value.int IntKind.i64 n4) ∧
∃ (b9 : Bool),
w'3.cell? { block := b2, off := (1 : Nat) } = some (Value.bool b9) ∧
∃ (n5 : Int),
w'3.cell? { block := b2, off := (2 : Nat) } = some (Value.int IntKind.i8 n5) ∧
∃ (b10 : Bool),
w'3.cell? { block := b2, off := (3 : Nat) } = some (Value.bool b10) ∧
∃ (b11 : Bool),
w'3.cell? { block := b2, off := (4 : Nat) } = some (Value.bool b11) ∧
∃ (g3 : GT6),
#[Value.string s2, Value.int IntKind.i64 n3,
Value.agg #[Value.int IntKind.i64 n4, Value.bool b9, Value.int IntKind.i8 n5, Value.bool b10, Value.bool b11]] =
#[Value.string g3.s, Value.int IntKind.i64 g3.col,
Value.agg
#[Value.int IntKind.i64 g3.l.tab, Value.bool g3.l.wide, Value.int IntKind.i8 g3.l.want, Value.bool g3.l.join,
Value.bool g3.l.raw]] ∧
(U8 w'3 ∧ DB w'3 ∧ g3.s.size ≤ (67108864 : Nat)) ∧
∀ (x2 : Nat) (w'4 : World),
x2 = cutP g3.s g3.col g3.l ∧ Ext w'3 w'4 →
∀ (b12 : Nat) (w17 : World),
New w'4 (Obj.cells #[Value.int IntKind.i64 (0 : Int)] (3 : Nat)) b12 w17 →
true = true ∧
(∃ (old : Value), w17.cell? { block := b12, off := (0 : Nat) } = some old) ∧
w17.frozen? { block := b12, off := (0 : Nat) } = false ∧
∀ (w18 : World),
Stored w17 { block := b12, off := (0 : Nat) } (Value.int IntKind.i64 (↑x2 : Int)) w18 →
∀ (b13 : Nat) (w19 : World),
New w18 (Obj.cells #[Value.int IntKind.i64 (0 : Int)] (3 : Nat)) b13 w19 →
true = true ∧
(∃ (old : Value), w19.cell? { block := b13, off := (0 : Nat) } = some old) ∧
w19.frozen? { block := b13, off := (0 : Nat) } = false ∧
∀ (w110 : World),
Stored w19 { block := b13, off := (0 : Nat) } (Value.int IntKind.i64 (0 : Int)) w110 →
∀ (b14 : Nat) (w111 : World),
New w110 (Obj.cells #[Value.int IntKind.i64 (0 : Int)] (3 : Nat)) b14 w111 →
true = true ∧
(∃ (old : Value), w111.cell? { block := b14, off := (0 : Nat) } = some old) ∧
w111.frozen? { block := b14, off := (0 : Nat) } = false ∧
∀ (w112 : World),
Stored w111 { block := b14, off := (0 : Nat) } (Value.int IntKind.i64 (0 : Int)) w112 →
∀ (b15 : Nat) (w113 : World),
New w112 (Obj.cells #[Value.int IntKind.i64 (0 : Int)] (3 : Nat)) b15 w113 →
true = true ∧
(∃ (old : Value), w113.cell? { block := b15, off := (0 : Nat) } = some old) ∧
w113.frozen? { block := b15, off := (0 : Nat) } = false ∧
∀ (w114 : World),
Stored w113 { block := b15, off := (0 : Nat) } (Value.int IntKind.i64 (0 : Int)) w114 →
∃ (xs : List (Nat × ByteArray)),
∃ (C : Nat → Prop),
∃ (D0 : Nat → Prop),
IterAt Tryd.prog (Value.func (Fn.func (101 : Nat)) #[] #[Value.pointer (some { block := x1, off := (0 : Nat) })])
(List.map encPc xs) C w114 ∧
DomOk w114 C D0 ∧
(D0 =
ones
[ptrB (Value.pointer (some { block := b4, off := (0 : Nat) })),
ptrB (Value.pointer (some { block := b13, off := (0 : Nat) })),
ptrB (Value.pointer (some { block := b14, off := (0 : Nat) })),
ptrB (Value.pointer (some { block := b15, off := (0 : Nat) }))] ∧
(∃ (v : Bool),
w114.heap[ptrB (Value.pointer (some { block := b4, off := (0 : Nat) }))]? =
some (Obj.cells #[Value.bool v] (4 : TypeId))) ∧
w114.heap[ptrB (Value.pointer (some { block := b13, off := (0 : Nat) }))]? =
some (Obj.cells #[Value.int IntKind.i64 (↑(bestA g.s g.l g.w (0 : Nat)) : Int)] (3 : TypeId)) ∧
w114.heap[ptrB (Value.pointer (some { block := b14, off := (0 : Nat) }))]? =
some (Obj.cells #[Value.int IntKind.i64 (0 : Int)] (3 : TypeId)) ∧
w114.heap[ptrB (Value.pointer (some { block := b15, off := (0 : Nat) }))]? =
some (Obj.cells #[Value.int IntKind.i64 (↑(lastA g.s (redC (colA g.col) g.l) g.l (0 : Nat)) : Int)] (3 : TypeId))) ∧
(Stab w114.heap.size fun (k : Nat) (D : Nat → Prop) (W : World) =>
D =
ones
[ptrB (Value.pointer (some { block := b4, off := (0 : Nat) })),
ptrB (Value.pointer (some { block := b13, off := (0 : Nat) })),
ptrB (Value.pointer (some { block := b14, off := (0 : Nat) })),
ptrB (Value.pointer (some { block := b15, off := (0 : Nat) }))] ∧
(∃ (v : Bool),
W.heap[ptrB (Value.pointer (some { block := b4, off := (0 : Nat) }))]? =
some (Obj.cells #[Value.bool v] (4 : TypeId))) ∧
W.heap[ptrB (Value.pointer (some { block := b13, off := (0 : Nat) }))]? =
some (Obj.cells #[Value.int IntKind.i64 (↑(bestA g.s g.l g.w k) : Int)] (3 : TypeId)) ∧
W.heap[ptrB (Value.pointer (some { block := b14, off := (0 : Nat) }))]? =
some (Obj.cells #[Value.int IntKind.i64 (↑k : Int)] (3 : TypeId)) ∧
W.heap[ptrB (Value.pointer (some { block := b15, off := (0 : Nat) }))]? =
some (Obj.cells #[Value.int IntKind.i64 (↑(lastA g.s (redC (colA g.col) g.l) g.l k) : Int)] (3 : TypeId))) ∧
(∀ (x3 : Exit),
Stab w114.heap.size fun (x : Nat) (D : Nat → Prop) (W : World) =>
D =
ones
[ptrB (Value.pointer (some { block := b4, off := (0 : Nat) })),
ptrB (Value.pointer (some { block := b13, off := (0 : Nat) })),
ptrB (Value.pointer (some { block := b14, off := (0 : Nat) })),
ptrB (Value.pointer (some { block := b15, off := (0 : Nat) }))] ∧
W.heap[ptrB (Value.pointer (some { block := b4, off := (0 : Nat) }))]? =
some (Obj.cells #[Value.bool true] (4 : TypeId))) ∧
(∀ (k : Nat) (x3 : Nat × ByteArray) (D : Nat → Prop) (W : World),
xs[k]? = some x3 →
D =
ones
[ptrB (Value.pointer (some { block := b4, off := (0 : Nat) })),
ptrB (Value.pointer (some { block := b13, off := (0 : Nat) })),
ptrB (Value.pointer (some { block := b14, off := (0 : Nat) })),
ptrB (Value.pointer (some { block := b15, off := (0 : Nat) }))] ∧
(∃ (v : Bool),
W.heap[ptrB (Value.pointer (some { block := b4, off := (0 : Nat) }))]? =
some (Obj.cells #[Value.bool v] (4 : TypeId))) ∧
W.heap[ptrB (Value.pointer (some { block := b13, off := (0 : Nat) }))]? =
some (Obj.cells #[Value.int IntKind.i64 (↑(bestA g.s g.l g.w k) : Int)] (3 : TypeId)) ∧
W.heap[ptrB (Value.pointer (some { block := b14, off := (0 : Nat) }))]? =
some (Obj.cells #[Value.int IntKind.i64 (↑k : Int)] (3 : TypeId)) ∧
W.heap[ptrB (Value.pointer (some { block := b15, off := (0 : Nat) }))]? =
some (Obj.cells #[Value.int IntKind.i64 (↑(lastA g.s (redC (colA g.col) g.l) g.l k) : Int)] (3 : TypeId)) →
Mid w114 D0 D W →
∀ (w115 : World),
Drew W w115 →
∃ (s3 : ByteArray),
W.cell? { block := b, off := (0 : Nat) } = some (Value.string s3) ∧
∃ (k1 : Nat),
(↑x3.fst : Int) = (↑k1 : Int) ∧
(0 : Nat) ≤ k1 ∧
k1 ≤ s3.size ∧
∃ (n6 : Int),
W.cell? { block := b1, off := (0 : Nat) } = some (Value.int IntKind.i64 n6) ∧
∃ (n7 : Int),
W.cell? { block := b2, off := (0 : Nat) } = some (Value.int IntKind.i64 n7) ∧
∃ (b16 : Bool),
W.cell? { block := b2, off := (1 : Nat) } = some (Value.bool b16) ∧
∃ (n8 : Int),
W.cell? { block := b2, off := (2 : Nat) } = some (Value.int IntKind.i8 n8) ∧
∃ (b17 : Bool),
W.cell? { block := b2, off := (3 : Nat) } = some (Value.bool b17) ∧
∃ (b18 : Bool),
W.cell? { block := b2, off := (4 : Nat) } = some (Value.bool b18) ∧
∃ (g4 : GT6),
#[Value.string (s3.extract (0 : Nat) k1), Value.int IntKind.i64 n6,
Value.agg #[Value.int IntKind.i64 n7, Value.bool b16, Value.int IntKind.i8 n8, Value.bool b17, Value.bool b18]] =
#[Value.string g4.s, Value.int IntKind.i64 g4.col,
Value.agg
#[Value.int IntKind.i64 g4.l.tab, Value.bool g4.l.wide, Value.int IntKind.i8 g4.l.want, Value.bool g4.l.join,
Value.bool g4.l.raw]] ∧
(U8 w115 ∧ DB w115 ∧ g4.s.size ≤ (67108864 : Nat)) ∧
∀ (x4 : Nat) (w'5 : World),
x4 = wideS g4.s g4.col g4.l ∧ Ext w115 w'5 →
(∀ (w116 : World),
Drew w'5 w116 →
∃ (n9 : Int),
w'5.cell? { block := b14, off := (0 : Nat) } = some (Value.int IntKind.i64 n9) ∧
bcase (decide (n9 < (60 : Int)))
(∃ (s4 : ByteArray),
w'5.cell? { block := b, off := (0 : Nat) } = some (Value.string s4) ∧
∃ (k2 : Nat),
(↑x3.fst : Int) = (↑k2 : Int) ∧
k2 ≤ s4.size ∧
s4.size ≤ s4.size ∧
∃ (n10 : Int),
w'5.cell? { block := b1, off := (0 : Nat) } = some (Value.int IntKind.i64 n10) ∧
InR IntKind.i64 (n10 + (↑x4 : Int)) ∧
∃ (n11 : Int),
w'5.cell? { block := b2, off := (0 : Nat) } = some (Value.int IntKind.i64 n11) ∧
∃ (b19 : Bool),
w'5.cell? { block := b2, off := (1 : Nat) } = some (Value.bool b19) ∧
∃ (n12 : Int),
w'5.cell? { block := b2, off := (2 : Nat) } = some (Value.int IntKind.i8 n12) ∧
∃ (b20 : Bool),
w'5.cell? { block := b2, off := (3 : Nat) } = some (Value.bool b20) ∧
∃ (b21 : Bool),
w'5.cell? { block := b2, off := (4 : Nat) } = some (Value.bool b21) ∧
∃ (n13 : Int),
w'5.cell? { block := b8, off := (0 : Nat) } = some (Value.int IntKind.i64 n13) ∧
∃ (g5 : GT6),
#[Value.string (s4.extract k2 s4.size), Value.int IntKind.i64 (n10 + (↑x4 : Int)),
Value.agg #[Value.int IntKind.i64 n11, Value.bool b19, Value.int IntKind.i8 n12, Value.bool b20, Value.bool b21]] =
#[Value.string g5.s, Value.int IntKind.i64 g5.col,
Value.agg
#[Value.int IntKind.i64 g5.l.tab, Value.bool g5.l.wide, Value.int IntKind.i8 g5.l.want, Value.bool g5.l.join,
Value.bool g5.l.raw]] ∧
(U8 w116 ∧ DB w116 ∧ g5.s.size ≤ (67108864 : Nat)) ∧
∀ (x5 : Nat) (w'6 : World),
x5 = wideS g5.s g5.col g5.l ∧ Ext w116 w'6 →
Below w116.heap.size w116 w'6 ∧
InR IntKind.i64 ((↑x4 : Int) + (↑x5 : Int)) ∧
bcase ((↑x4 : Int) + (↑x5 : Int) != n13)
(true = true ∧
(∃ (old : Value), w'6.cell? { block := b4, off := (0 : Nat) } = some old) ∧
w'6.frozen? { block := b4, off := (0 : Nat) } = false ∧
∀ (w117 : World),
Stored w'6 { block := b4, off := (0 : Nat) } (Value.bool false) w117 →
∃ (D' : Nat → Prop),
Step D W w117 D' ∧
D' =
ones
[ptrB (Value.pointer (some { block := b4, off := (0 : Nat) })),
ptrB (Value.pointer (some { block := b13, off := (0 : Nat) })),
ptrB (Value.pointer (some { block := b14, off := (0 : Nat) })),
ptrB (Value.pointer (some { block := b15, off := (0 : Nat) }))] ∧
w117.heap[ptrB (Value.pointer (some { block := b4, off := (0 : Nat) }))]? =
some (Obj.cells #[Value.bool true] (4 : TypeId)))
(∃ (n14 : Int),
w'6.cell? { block := b15, off := (0 : Nat) } = some (Value.int IntKind.i64 n14) ∧
bcase (decide ((↑x4 : Int) < n14))
(true = true ∧
(∃ (old : Value), w'6.cell? { block := b4, off := (0 : Nat) } = some old) ∧
w'6.frozen? { block := b4, off := (0 : Nat) } = false ∧
∀ (w117 : World),
Stored w'6 { block := b4, off := (0 : Nat) } (Value.bool false) w117 →
∃ (D' : Nat → Prop),
Step D W w117 D' ∧
D' =
ones
[ptrB (Value.pointer (some { block := b4, off := (0 : Nat) })),
ptrB (Value.pointer (some { block := b13, off := (0 : Nat) })),
ptrB (Value.pointer (some { block := b14, off := (0 : Nat) })),
ptrB (Value.pointer (some { block := b15, off := (0 : Nat) }))] ∧
w117.heap[ptrB (Value.pointer (some { block := b4, off := (0 : Nat) }))]? =
some (Obj.cells #[Value.bool true] (4 : TypeId)))
(∃ (c2 : Unit), Ext w'5 w'6)))
(∃ (n10 : Int),
w'5.cell? { block := b15, off := (0 : Nat) } = some (Value.int IntKind.i64 n10) ∧
bcase (decide ((↑x4 : Int) < n10))
(true = true ∧
(∃ (old : Value), w116.cell? { block := b4, off := (0 : Nat) } = some old) ∧
w116.frozen? { block := b4, off := (0 : Nat) } = false ∧
∀ (w117 : World),
Stored w116 { block := b4, off := (0 : Nat) } (Value.bool false) w117 →
∃ (D' : Nat → Prop),
Step D W w117 D' ∧
D' =
ones
[ptrB (Value.pointer (some { block := b4, off := (0 : Nat) })),
ptrB (Value.pointer (some { block := b13, off := (0 : Nat) })),
ptrB (Value.pointer (some { block := b14, off := (0 : Nat) })),
ptrB (Value.pointer (some { block := b15, off := (0 : Nat) }))] ∧
w117.heap[ptrB (Value.pointer (some { block := b4, off := (0 : Nat) }))]? =
some (Obj.cells #[Value.bool true] (4 : TypeId)))
(∃ (c2 : Unit), Ext w'5 w116))) ∧
∀ (u2 : Nat → Value) (c2 : Unit) (w'6 : World),
Ext w'5 w'6 →
true = true ∧
(∃ (old : Value), w'6.cell? { block := b15, off := (0 : Nat) } = some old) ∧
w'6.frozen? { block := b15, off := (0 : Nat) } = false ∧
∀ (w116 : World),
Stored w'6 { block := b15, off := (0 : Nat) } (Value.int IntKind.i64 (↑x4 : Int)) w116 →
∃ (n9 : Int),
w116.cell? { block := b14, off := (0 : Nat) } = some (Value.int IntKind.i64 n9) ∧
InR IntKind.i64 (n9 + (1 : Int)) ∧
true = true ∧
(∃ (old : Value), w116.cell? { block := b14, off := (0 : Nat) } = some old) ∧
w116.frozen? { block := b14, off := (0 : Nat) } = false ∧
∀ (w117 : World),
Stored w116 { block := b14, off := (0 : Nat) } (Value.int IntKind.i64 (n9 + (1 : Int))) w117 →
∀ (w118 : World),
Drew w117 w118 →
∃ (s4 : ByteArray),
w117.cell? { block := b, off := (0 : Nat) } = some (Value.string s4) ∧
∃ (k2 : Nat),
(↑x3.fst : Int) = (↑k2 : Int) ∧
(0 : Nat) ≤ k2 ∧
k2 ≤ s4.size ∧
∃ (n10 : Int),
w117.cell? { block := b2, off := (0 : Nat) } = some (Value.int IntKind.i64 n10) ∧
∃ (b19 : Bool),
w117.cell? { block := b2, off := (1 : Nat) } = some (Value.bool b19) ∧
∃ (n11 : Int),
w117.cell? { block := b2, off := (2 : Nat) } = some (Value.int IntKind.i8 n11) ∧
∃ (b20 : Bool),
w117.cell? { block := b2, off := (3 : Nat) } = some (Value.bool b20) ∧
∃ (b21 : Bool),
w117.cell? { block := b2, off := (4 : Nat) } = some (Value.bool b21) ∧
∃ (n12 : Int),
w117.cell? { block := b3, off := (0 : Nat) } = some (Value.int IntKind.i64 n12) ∧
∃ (g5 : GT6),
#[Value.string (s4.extract (0 : Nat) k2), Value.int IntKind.i64 (0 : Int),
Value.agg #[Value.int IntKind.i64 n10, Value.bool b19, Value.int IntKind.i8 n11, Value.bool b20, Value.bool b21]] =
#[Value.string g5.s, Value.int IntKind.i64 g5.col,
Value.agg
#[Value.int IntKind.i64 g5.l.tab, Value.bool g5.l.wide, Value.int IntKind.i8 g5.l.want, Value.bool g5.l.join,
Value.bool g5.l.raw]] ∧
(U8 w118 ∧ DB w118 ∧ g5.s.size ≤ (67108864 : Nat)) ∧
∀ (x5 : Nat) (w'7 : World),
x5 = wideS g5.s g5.col g5.l ∧ Ext w118 w'7 →
Below w118.heap.size w118 w'7 ∧
bcase (decide ((↑x5 : Int) ≤ n12))
(true = true ∧
(∃ (old : Value), w'7.cell? { block := b13, off := (0 : Nat) } = some old) ∧
w'7.frozen? { block := b13, off := (0 : Nat) } = false ∧
∀ (w119 : World),
Stored w'7 { block := b13, off := (0 : Nat) } (Value.int IntKind.i64 (↑x3.fst : Int)) w119 →
∃ (n13 : Int),
w119.cell? { block := b14, off := (0 : Nat) } = some (Value.int IntKind.i64 n13) ∧
bcase (decide (n13 > (300 : Int)))
(∃ (s5 : ByteArray),
w119.cell? { block := b, off := (0 : Nat) } = some (Value.string s5) ∧
∃ (n14 : Int),
w119.cell? { block := b12, off := (0 : Nat) } = some (Value.int IntKind.i64 n14) ∧
∃ (g6 : ByteArray × Int),
#[Value.string s5, Value.int IntKind.i64 n14] = #[Value.string g6.fst, Value.int IntKind.i64 g6.snd] ∧
(U8 w119 ∧ g6.fst.size ≤ (67108864 : Nat)) ∧
∀ (x6 : Bool) (w'8 : World),
x6 = isB g6.fst g6.snd ∧ Ext w119 w'8 →
true = true ∧
(∃ (old : Value), w'8.cell? { block := b4, off := (0 : Nat) } = some old) ∧
w'8.frozen? { block := b4, off := (0 : Nat) } = false ∧
∀ (w120 : World),
Stored w'8 { block := b4, off := (0 : Nat) } (Value.bool x6) w120 →
∃ (D' : Nat → Prop),
Step D W w120 D' ∧
D' =
ones
[ptrB (Value.pointer (some { block := b4, off := (0 : Nat) })),
ptrB (Value.pointer (some { block := b13, off := (0 : Nat) })),
ptrB (Value.pointer (some { block := b14, off := (0 : Nat) })),
ptrB (Value.pointer (some { block := b15, off := (0 : Nat) }))] ∧
w120.heap[ptrB (Value.pointer (some { block := b4, off := (0 : Nat) }))]? =
some (Obj.cells #[Value.bool true] (4 : TypeId)))
(∃ (D' : Nat → Prop),
Step D W w119 D' ∧
D' =
ones
[ptrB (Value.pointer (some { block := b4, off := (0 : Nat) })),
ptrB (Value.pointer (some { block := b13, off := (0 : Nat) })),
ptrB (Value.pointer (some { block := b14, off := (0 : Nat) })),
ptrB (Value.pointer (some { block := b15, off := (0 : Nat) }))] ∧
(∃ (v : Bool),
w119.heap[ptrB (Value.pointer (some { block := b4, off := (0 : Nat) }))]? =
some (Obj.cells #[Value.bool v] (4 : TypeId))) ∧
w119.heap[ptrB (Value.pointer (some { block := b13, off := (0 : Nat) }))]? =
some (Obj.cells #[Value.int IntKind.i64 (↑(bestA g.s g.l g.w (k + (1 : Nat))) : Int)] (3 : TypeId)) ∧
w119.heap[ptrB (Value.pointer (some { block := b14, off := (0 : Nat) }))]? =
some (Obj.cells #[Value.int IntKind.i64 (↑(k + (1 : Nat)) : Int)] (3 : TypeId)) ∧
w119.heap[ptrB (Value.pointer (some { block := b15, off := (0 : Nat) }))]? =
some
(Obj.cells #[Value.int IntKind.i64 (↑(lastA g.s (redC (colA g.col) g.l) g.l (k + (1 : Nat))) : Int)] (3 : TypeId))))
(∃ (n13 : Int),
w'7.cell? { block := b14, off := (0 : Nat) } = some (Value.int IntKind.i64 n13) ∧
bcase (decide (n13 > (300 : Int)))
(∃ (s5 : ByteArray),
w'7.cell? { block := b, off := (0 : Nat) } = some (Value.string s5) ∧
∃ (n14 : Int),
w'7.cell? { block := b12, off := (0 : Nat) } = some (Value.int IntKind.i64 n14) ∧
∃ (g6 : ByteArray × Int),
#[Value.string s5, Value.int IntKind.i64 n14] = #[Value.string g6.fst, Value.int IntKind.i64 g6.snd] ∧
(U8 w'7 ∧ g6.fst.size ≤ (67108864 : Nat)) ∧
∀ (x6 : Bool) (w'8 : World),
x6 = isB g6.fst g6.snd ∧ Ext w'7 w'8 →
true = true ∧
(∃ (old : Value), w'8.cell? { block := b4, off := (0 : Nat) } = some old) ∧
w'8.frozen? { block := b4, off := (0 : Nat) } = false ∧
∀ (w119 : World),
Stored w'8 { block := b4, off := (0 : Nat) } (Value.bool x6) w119 →
∃ (D' : Nat → Prop),
Step D W w119 D' ∧
D' =
ones
[ptrB (Value.pointer (some { block := b4, off := (0 : Nat) })),
ptrB (Value.pointer (some { block := b13, off := (0 : Nat) })),
ptrB (Value.pointer (some { block := b14, off := (0 : Nat) })),
ptrB (Value.pointer (some { block := b15, off := (0 : Nat) }))] ∧
w119.heap[ptrB (Value.pointer (some { block := b4, off := (0 : Nat) }))]? =
some (Obj.cells #[Value.bool true] (4 : TypeId)))
(∃ (D' : Nat → Prop),
Step D W w'7 D' ∧
D' =
ones
[ptrB (Value.pointer (some { block := b4, off := (0 : Nat) })),
ptrB (Value.pointer (some { block := b13, off := (0 : Nat) })),
ptrB (Value.pointer (some { block := b14, off := (0 : Nat) })),
ptrB (Value.pointer (some { block := b15, off := (0 : Nat) }))] ∧
(∃ (v : Bool),
w'7.heap[ptrB (Value.pointer (some { block := b4, off := (0 : Nat) }))]? =
some (Obj.cells #[Value.bool v] (4 : TypeId))) ∧
w'7.heap[ptrB (Value.pointer (some { block := b13, off := (0 : Nat) }))]? =
some (Obj.cells #[Value.int IntKind.i64 (↑(bestA g.s g.l g.w (k + (1 : Nat))) : Int)] (3 : TypeId)) ∧
w'7.heap[ptrB (Value.pointer (some { block := b14, off := (0 : Nat) }))]? =
some (Obj.cells #[Value.int IntKind.i64 (↑(k + (1 : Nat)) : Int)] (3 : TypeId)) ∧
w'7.heap[ptrB (Value.pointer (some { block := b15, off := (0 : Nat) }))]? =
some
(Obj.cells #[Value.int IntKind.i64 (↑(lastA g.s (redC (colA g.col) g.l) g.l (k + (1 : Nat))) : Int)] (3 : TypeId))))) ∧
(∀ (D : Nat → Prop) (W : World),
D =
ones
[ptrB (Value.pointer (some { block := b4, off := (0 : Nat) })),
ptrB (Value.pointer (some { block := b13, off := (0 : Nat) })),
ptrB (Value.pointer (some { block := b14, off := (0 : Nat) })),
ptrB (Value.pointer (some { block := b15, off := (0 : Nat) }))] ∧
(∃ (v : Bool),
W.heap[ptrB (Value.pointer (some { block := b4, off := (0 : Nat) }))]? =
some (Obj.cells #[Value.bool v] (4 : TypeId))) ∧
W.heap[ptrB (Value.pointer (some { block := b13, off := (0 : Nat) }))]? =
some (Obj.cells #[Value.int IntKind.i64 (↑(bestA g.s g.l g.w (lenX xs)) : Int)] (3 : TypeId)) ∧
W.heap[ptrB (Value.pointer (some { block := b14, off := (0 : Nat) }))]? =
some (Obj.cells #[Value.int IntKind.i64 (↑(lenX xs) : Int)] (3 : TypeId)) ∧
W.heap[ptrB (Value.pointer (some { block := b15, off := (0 : Nat) }))]? =
some (Obj.cells #[Value.int IntKind.i64 (↑(lastA g.s (redC (colA g.col) g.l) g.l (lenX xs)) : Int)] (3 : TypeId)) →
Mid w114 D0 D W →
∀ (w115 : World),
Drew W w115 →
∃ (s3 : ByteArray),
W.cell? { block := b, off := (0 : Nat) } = some (Value.string s3) ∧
∃ (n6 : Int),
W.cell? { block := b2, off := (0 : Nat) } = some (Value.int IntKind.i64 n6) ∧
∃ (b16 : Bool),
W.cell? { block := b2, off := (1 : Nat) } = some (Value.bool b16) ∧
∃ (n7 : Int),
W.cell? { block := b2, off := (2 : Nat) } = some (Value.int IntKind.i8 n7) ∧
∃ (b17 : Bool),
W.cell? { block := b2, off := (3 : Nat) } = some (Value.bool b17) ∧
∃ (b18 : Bool),
W.cell? { block := b2, off := (4 : Nat) } = some (Value.bool b18) ∧
∃ (n8 : Int),
W.cell? { block := b3, off := (0 : Nat) } = some (Value.int IntKind.i64 n8) ∧
∃ (g4 : GT6),
#[Value.string s3, Value.int IntKind.i64 (0 : Int),
Value.agg #[Value.int IntKind.i64 n6, Value.bool b16, Value.int IntKind.i8 n7, Value.bool b17, Value.bool b18]] =
#[Value.string g4.s, Value.int IntKind.i64 g4.col,
Value.agg
#[Value.int IntKind.i64 g4.l.tab, Value.bool g4.l.wide, Value.int IntKind.i8 g4.l.want, Value.bool g4.l.join,
Value.bool g4.l.raw]] ∧
(U8 w115 ∧ DB w115 ∧ g4.s.size ≤ (67108864 : Nat)) ∧
∀ (x3 : Nat) (w'5 : World),
x3 = wideS g4.s g4.col g4.l ∧ Ext w115 w'5 →
Below w115.heap.size w115 w'5 ∧
bcase (decide ((↑x3 : Int) ≤ n8))
(∃ (s4 : ByteArray),
w'5.cell? { block := b, off := (0 : Nat) } = some (Value.string s4) ∧
true = true ∧
(∃ (old : Value), w'5.cell? { block := b13, off := (0 : Nat) } = some old) ∧
w'5.frozen? { block := b13, off := (0 : Nat) } = false ∧
∀ (w116 : World),
Stored w'5 { block := b13, off := (0 : Nat) } (Value.int IntKind.i64 (↑s4.size : Int)) w116 →
∃ (n9 : Int),
w116.cell? { block := b12, off := (0 : Nat) } = some (Value.int IntKind.i64 n9) ∧
∃ (n10 : Int),
w116.cell? { block := b13, off := (0 : Nat) } = some (Value.int IntKind.i64 n10) ∧
bcase (n9 == n10)
(∃ (s5 : ByteArray),
w116.cell? { block := b, off := (0 : Nat) } = some (Value.string s5) ∧
∃ (n11 : Int),
w116.cell? { block := b12, off := (0 : Nat) } = some (Value.int IntKind.i64 n11) ∧
∃ (g5 : ByteArray × Int),
#[Value.string s5, Value.int IntKind.i64 n11] = #[Value.string g5.fst, Value.int IntKind.i64 g5.snd] ∧
(U8 w116 ∧ g5.fst.size ≤ (67108864 : Nat)) ∧
∀ (x4 : Bool) (w'6 : World),
x4 = isB g5.fst g5.snd ∧ Ext w116 w'6 →
true = true ∧
(∃ (old : Value), w'6.cell? { block := b4, off := (0 : Nat) } = some old) ∧
w'6.frozen? { block := b4, off := (0 : Nat) } = false ∧
∀ (w117 : World),
Stored w'6 { block := b4, off := (0 : Nat) } (Value.bool x4) w117 →
∃ (b19 : Bool),
w117.cell? { block := b4, off := (0 : Nat) } = some (Value.bool b19) ∧
∀ (w2 : World), Turn w.heap.size w117 w2 → ∃ (x5 : Unit), Value.bool b19 = Value.bool true ∧ Ext w w2)
(true = true ∧
(∃ (old : Value), w116.cell? { block := b4, off := (0 : Nat) } = some old) ∧
w116.frozen? { block := b4, off := (0 : Nat) } = false ∧
∀ (w117 : World),
Stored w116 { block := b4, off := (0 : Nat) } (Value.bool false) w117 →
∃ (b19 : Bool),
w117.cell? { block := b4, off := (0 : Nat) } = some (Value.bool b19) ∧
∀ (w2 : World), Turn w.heap.size w117 w2 → ∃ (x4 : Unit), Value.bool b19 = Value.bool true ∧ Ext w w2))
(∃ (n9 : Int),
w'5.cell? { block := b12, off := (0 : Nat) } = some (Value.int IntKind.i64 n9) ∧
∃ (n10 : Int),
w'5.cell? { block := b13, off := (0 : Nat) } = some (Value.int IntKind.i64 n10) ∧
bcase (n9 == n10)
(∃ (s4 : ByteArray),
w'5.cell? { block := b, off := (0 : Nat) } = some (Value.string s4) ∧
∃ (n11 : Int),
w'5.cell? { block := b12, off := (0 : Nat) } = some (Value.int IntKind.i64 n11) ∧
∃ (g5 : ByteArray × Int),
#[Value.string s4, Value.int IntKind.i64 n11] = #[Value.string g5.fst, Value.int IntKind.i64 g5.snd] ∧
(U8 w'5 ∧ g5.fst.size ≤ (67108864 : Nat)) ∧
∀ (x4 : Bool) (w'6 : World),
x4 = isB g5.fst g5.snd ∧ Ext w'5 w'6 →
true = true ∧
(∃ (old : Value), w'6.cell? { block := b4, off := (0 : Nat) } = some old) ∧
w'6.frozen? { block := b4, off := (0 : Nat) } = false ∧
∀ (w116 : World),
Stored w'6 { block := b4, off := (0 : Nat) } (Value.bool x4) w116 →
∃ (b19 : Bool),
w116.cell? { block := b4, off := (0 : Nat) } = some (Value.bool b19) ∧
∀ (w2 : World), Turn w.heap.size w116 w2 → ∃ (x5 : Unit), Value.bool b19 = Value.bool true ∧ Ext w w2)
(true = true ∧
(∃ (old : Value), w'5.cell? { block := b4, off := (0 : Nat) } = some old) ∧
w'5.frozen? { block := b4, off := (0 : Nat) } = false ∧
∀ (w116 : World),
Stored w'5 { block := b4, off := (0 : Nat) } (Value.bool false) w116 →
∃ (b19 : Bool),
w116.cell? { block := b4, off := (0 : Nat) } = some (Value.bool b19) ∧
∀ (w2 : World), Turn w.heap.size w116 w2 → ∃ (x4 : Unit), Value.bool b19 = Value.bool true ∧ Ext w w2))) ∧
∀ (D : Nat → Prop) (W : World),
D =
ones
[ptrB (Value.pointer (some { block := b4, off := (0 : Nat) })),
ptrB (Value.pointer (some { block := b13, off := (0 : Nat) })),
ptrB (Value.pointer (some { block := b14, off := (0 : Nat) })),
ptrB (Value.pointer (some { block := b15, off := (0 : Nat) }))] ∧
W.heap[ptrB (Value.pointer (some { block := b4, off := (0 : Nat) }))]? =
some (Obj.cells #[Value.bool true] (4 : TypeId)) →
Mid w114 D0 D W →
∃ (b16 : Bool),
W.cell? { block := b4, off := (0 : Nat) } = some (Value.bool b16) ∧
∀ (w2 : World), Turn w.heap.size W w2 → ∃ (x3 : Unit), Value.bool b16 = Value.bool true ∧ Ext w w2) :
    (sLawAd).Ok Tryd.prog 18 :=
  ok_of_vc sLawAd annAd spAd (fun _ _ => rfl) (fun _ _ => rfl) hsp Tryd.func18 rfl (n := 4) (fun _ => rfl) (by kernel_rfl) (vcast (by kernel_rfl) h)

end Go.Proofs.YthpjkgoahneldaaDoor
end

section
/-
  Chapter 6: widths add up at borders; the last border that has place; single bytes: the plain laws.
-/
namespace Go.Proofs.YthpjkgoahneldaaDoor
open Go Vc Ut Tb Cl Orb

theorem pre_piece {s : ByteArray} {k i : Nat} (hk : k ≤ ncl s) (hi : i < k) : (pcP (s.extract 0 (bp s k)) i).2 = (pcP s i).2 := by
  unfold pcP
  dsimp only
  rw [bp_take hk (by omega), bp_take hk (by omega)]
  have h1 := bp_mono s (show i + 1 ≤ k by omega)
  rw [ee (by omega), Nat.zero_add, Nat.zero_add]
theorem suf_piece {s : ByteArray} {k j : Nat} (hk : k ≤ ncl s) : (pcP (s.extract (bp s k) s.size) j).2 = (pcP s (k + j)).2 := by
  unfold pcP
  dsimp only
  have h1 := bp_drop hk j
  have h2 := bp_drop hk (j + 1)
  have h3 := bp_le s (k + (j + 1))
  rw [ee (by omega), show bp s k + bp (s.extract (bp s k) s.size) j = bp s (k + j) from by omega, show bp s k + bp (s.extract (bp s k) s.size) (j + 1) = bp s (k + j + 1) from by rw [Nat.add_assoc]; omega]
theorem wdU_pre {s : ByteArray} {k : Nat} (hk : k ≤ ncl s) (c : Int) (l : Lk) : ∀ i, i ≤ k → wdU (s.extract 0 (bp s k)) c l i = wdU s c l i
  | 0, _ => rfl
  | i + 1, h => by
    simp only [wdU]
    rw [wdU_pre hk c l i (by omega), pre_piece hk (by omega)]
theorem wide_pre {s : ByteArray} {k : Nat} (hk : k ≤ ncl s) (col : Int) (l : Lk) : wideS (s.extract 0 (bp s k)) col l = wdU s (redC col l) l k := by
  unfold wideS
  rw [ncl_take hk]
  exact wdU_pre hk _ _ k (Nat.le_refl _)
theorem wdU_suf {s : ByteArray} {k : Nat} (hk : k ≤ ncl s) {c0 : Int} (h0 : 0 ≤ c0) (l : Lk) : ∀ j, wdU s (redC c0 l) l k + wdU (s.extract (bp s k) s.size) (redC (c0 + wdU s (redC c0 l) l k) l) l j = wdU s (redC c0 l) l (k + j)
  | 0 => rfl
  | j + 1 => by
    have ih := wdU_suf hk h0 l j
    rw [show k + (j + 1) = (k + j) + 1 from rfl]
    simp only [wdU]
    rw [suf_piece hk]
    have hc : (redC (c0 + wdU s (redC c0 l) l k) l + wdU (s.extract (bp s k) s.size) (redC (c0 + wdU s (redC c0 l) l k) l) l j).toNat % tabN l.tab = (redC c0 l + wdU s (redC c0 l) l (k + j)).toNat % tabN l.tab := by
      generalize wdU (s.extract (bp s k) s.size) (redC (c0 + wdU s (redC c0 l) l k) l) l j = x at ih ⊢
      generalize hA : wdU s (redC c0 l) l (k + j) = A at ih ⊢
      generalize hB : wdU s (redC c0 l) l k = B at ih ⊢
      unfold redC
      rw [show (c0 + (B : Int)).toNat = c0.toNat + B from by omega]
      rw [show ((((c0.toNat + B) % tabN l.tab : Nat) : Int) + (x : Int)).toNat = (c0.toNat + B) % tabN l.tab + x from by omega, show (((c0.toNat % tabN l.tab : Nat) : Int) + (A : Int)).toNat = c0.toNat % tabN l.tab + A from by omega]
      rw [Nat.mod_add_mod, Nat.mod_add_mod, ← ih, Nat.add_assoc]
    rw [oneC_col hc]
    omega
theorem wide_suf {s : ByteArray} {k : Nat} (hk : k ≤ ncl s) {c0 : Int} (h0 : 0 ≤ c0) (l : Lk) : wdU s (redC c0 l) l k + wideS (s.extract (bp s k) s.size) (c0 + wdU s (redC c0 l) l k) l = wideS s c0 l := by
  have h1 := ncl_drop hk
  have h2 := wdU_suf hk h0 l (ncl (s.extract (bp s k) s.size))
  rw [show k + ncl (s.extract (bp s k) s.size) = ncl s from by omega] at h2
  exact h2
theorem red_zero (l : Lk) : redC 0 l = 0 := by
  unfold redC
  rw [show (0 : Int).toNat = 0 from rfl, Nat.zero_mod]; rfl
theorem colA_bd (c : Int) : 0 ≤ colA c ∧ colA c ≤ 1073741824 := by unfold colA; split <;> omega
theorem last_le (s : ByteArray) (c : Int) (l : Lk) (k : Nat) : lastA s c l k ≤ wdU s c l k := by
  cases k with
  | zero => exact Nat.zero_le _
  | succ k => exact wdU_mono s c l (by omega)
theorem best_low {s : ByteArray} {l : Lk} {w : Int} {i : Nat} (h : ∀ k, i < k → w < (wdU s 0 l k : Int)) : ∀ k, i < k → bestA s l w k = bestA s l w (i + 1)
  | 0, hk => by omega
  | k + 1, hk => by
    rcases Nat.lt_or_ge i k with h1 | h1
    · have := h k h1
      simp only [bestA]
      rw [if_neg (by omega)]
      exact best_low h k h1
    · have : i = k := by omega
      subst this; rfl
theorem best_neg {s : ByteArray} {l : Lk} {w : Int} (h : w < 0) : ∀ k, bestA s l w k = 0
  | 0 => rfl
  | k + 1 => by
    simp only [bestA]
    rw [if_neg (by omega)]
    exact best_neg h k
/-- Cut is the last border that has place. -/
theorem cut_best (s : ByteArray) (l : Lk) (w : Int) : cutP s w l = if (wdU s 0 l (ncl s) : Int) ≤ w then s.size else bestA s l w (ncl s) := by
  by_cases h : ∃ i, i < ncl s ∧ w < (wdU s 0 l (i + 1) : Int)
  · obtain ⟨i, ⟨hi, hw⟩, hmin⟩ : ∃ i, (i < ncl s ∧ w < (wdU s 0 l (i + 1) : Int)) ∧ ∀ j, j < i → ¬ (j < ncl s ∧ w < (wdU s 0 l (j + 1) : Int)) := by
      obtain ⟨i, hi⟩ := h
      have : ∀ n, ∀ i, i ≤ n → (i < ncl s ∧ w < (wdU s 0 l (i + 1) : Int)) → ∃ i, (i < ncl s ∧ w < (wdU s 0 l (i + 1) : Int)) ∧ ∀ j, j < i → ¬ (j < ncl s ∧ w < (wdU s 0 l (j + 1) : Int)) := by
        intro n
        induction n with
        | zero => intro i h0 hi; have : i = 0 := by omega
                  subst this; exact ⟨0, hi, fun j hj => by omega⟩
        | succ n ih =>
          intro i h0 hi
          by_cases hx : ∃ j, j < i ∧ (j < ncl s ∧ w < (wdU s 0 l (j + 1) : Int))
          · obtain ⟨j, hj, hj2⟩ := hx
            exact ih j (by omega) hj2
          · exact ⟨i, hi, fun j hj h => hx ⟨j, hj, h⟩⟩
      exact this i i (Nat.le_refl _) hi
    have hn : ∀ j, j < i → ¬ w < (wdU s 0 l (j + 1) : Int) := fun j hj h => hmin j hj ⟨by omega, h⟩
    rw [cutP_at hi hn hw]
    have hm := wdU_mono s 0 l (show i + 1 ≤ ncl s by omega)
    rw [if_neg (by omega)]
    have hup : ∀ k, i < k → w < (wdU s 0 l k : Int) := fun k hk => by
      have := wdU_mono s 0 l (show i + 1 ≤ k by omega); omega
    rw [best_low hup (ncl s) hi]
    by_cases h0 : w < 0
    · rw [best_neg h0]
      have : i = 0 := by
        rcases Nat.eq_zero_or_pos i with h' | h'
        · exact h'
        · exact absurd (show w < (wdU s 0 l (0 + 1) : Int) by omega) (hn 0 h')
      subst this; rfl
    · simp only [bestA]
      rw [if_pos]
      rcases Nat.eq_zero_or_pos i with h' | h'
      · subst h'
        show ((0 : Nat) : Int) ≤ w
        omega
      · have := hn (i - 1) (by omega)
        rw [show i - 1 + 1 = i from by omega] at this
        omega
  · have hn : ∀ j, j < ncl s → ¬ w < (wdU s 0 l (j + 1) : Int) := fun j hj hw => h ⟨j, hj, hw⟩
    rw [cutP_none hn]
    rcases Nat.eq_zero_or_pos (ncl s) with h0 | h0
    · have hs := ncl_zero.1 h0
      rw [h0, hs]
      show (if w < 0 then 0 else 0) = if ((0 : Nat) : Int) ≤ w then 0 else 0
      split <;> split <;> rfl
    · have := hn (ncl s - 1) (by omega)
      rw [show ncl s - 1 + 1 = ncl s from by omega] at this
      rw [if_neg (by omega), if_pos (by omega)]
theorem isB_of {s : ByteArray} {i : Nat} (hi : i ≤ ncl s) : isB s (bp s i : Int) = true := by
  unfold isB
  rw [List.any_eq_true]
  exact ⟨i, List.mem_range.2 (by omega), decide_eq_true rfl⟩
theorem cut_is (s : ByteArray) (l : Lk) (w : Int) : isB s (cutP s w l : Int) = true := by
  unfold cutP
  split
  · rename_i h; exact isB_of (Nat.le_of_lt h)
  · split
    · exact isB_of (i := 0) (Nat.zero_le _)
    · rw [← bp_end s]; exact isB_of (Nat.le_refl _)

/-! ### Single bytes -/
def okB6 (b : Nat) (r : ByteArray × Nat) : Bool := decide (r.1.size = r.2) && ((r.2 == 0) == (b == 10)) && r.1.data.toList.all fun q => decide (32 ≤ q.toNat) && decide (q.toNat ≤ 126)
theorem byte_low : ∀ b : Fin 128, b.val ≠ 9 → ∀ wd rw : Bool, if 32 ≤ b.val ∧ b.val < 127 then textC ⟨#[UInt8.ofNat b.val]⟩ 0 ⟨0, wd, 0, false, rw⟩ = (⟨#[UInt8.ofNat b.val]⟩, 1) else okB6 b.val (textC ⟨#[UInt8.ofNat b.val]⟩ 0 ⟨0, wd, 0, false, rw⟩) = true := by decide +kernel
theorem byte_high : ∀ b : Fin 128, okB6 (b.val + 128) (textC ⟨#[UInt8.ofNat (b.val + 128)]⟩ 0 ⟨0, false, 0, false, false⟩) = true ∧ isBad ⟨#[UInt8.ofNat (b.val + 128)]⟩ 0 = true := by decide +kernel
theorem byte_one : ∀ b : Fin 256, bp ⟨#[UInt8.ofNat b.val]⟩ 1 = 1 := by decide +kernel
theorem byte_tab : ∀ n : Fin 17, 0 < n.val → okB6 9 (blankS n.val, n.val) = true := by decide +kernel
theorem oneC_look {k : ByteArray} (h : isBad k 0 = true ∨ ¬ sg k 0 = 9) (c : Int) (l : Lk) : oneC k c l = oneC k 0 ⟨0, l.wide, 0, false, l.raw⟩ := by
  unfold oneC
  by_cases hb : isBad k 0 = true
  · rw [if_pos hb, if_pos hb]
  · have h9 := h.resolve_left hb
    rw [if_neg hb, if_neg hb, if_neg h9, if_neg h9]
theorem byte_text (b : Nat) (hb : b < 256) (c : Int) (l : Lk) : textC ⟨#[UInt8.ofNat b]⟩ c l = oneC ⟨#[UInt8.ofNat b]⟩ c l := self_text (byte_one ⟨b, hb⟩) (by decide : 0 < 1) c l
theorem byte_sg : ∀ b : Fin 128, b.val ≠ 9 → ¬ sg ⟨#[UInt8.ofNat b.val]⟩ 0 = 9 := by decide +kernel
theorem byte_nine : isBad ⟨#[9]⟩ 0 = false ∧ sg ⟨#[9]⟩ 0 = 9 := by decide +kernel
/-- What a printable byte shows. -/
theorem byte_print {b : Nat} (h1 : 32 ≤ b) (h2 : b < 127) (c : Int) (l : Lk) : textC ⟨#[UInt8.ofNat b]⟩ c l = (⟨#[UInt8.ofNat b]⟩, 1) := by
  have hlow := byte_low ⟨b, by omega⟩ (by dsimp only; omega) l.wide l.raw
  dsimp only at hlow
  rw [if_pos ⟨h1, h2⟩, byte_text b (by omega)] at hlow
  rw [byte_text b (by omega), oneC_look (.inr (byte_sg ⟨b, by omega⟩ (by dsimp only; omega)))]
  exact hlow
/-- .. another. -/
theorem byte_other {b : Nat} (hb : b < 256) (h : ¬ (32 ≤ b ∧ b < 127)) (c : Int) (l : Lk) : okB6 b (textC ⟨#[UInt8.ofNat b]⟩ c l) = true := by
  rw [byte_text b hb]
  rcases Nat.lt_or_ge b 128 with h1 | h1
  · by_cases h9 : b = 9
    · subst h9
      have ht := tab_bd l.tab
      have hs := stop_bd c l.tab
      rw [show UInt8.ofNat 9 = 9 from rfl, oneC_tab byte_nine.1 byte_nine.2]
      exact byte_tab ⟨stopN c l.tab, by omega⟩ (by dsimp only; omega)
    · have hlow := byte_low ⟨b, h1⟩ h9 l.wide l.raw
      dsimp only at hlow
      rw [if_neg h, byte_text b hb] at hlow
      rw [oneC_look (.inr (byte_sg ⟨b, h1⟩ h9))]
      exact hlow
  · have hh := byte_high ⟨b - 128, by omega⟩
    dsimp only at hh
    rw [show b - 128 + 128 = b from by omega, byte_text b hb, oneC_bad hh.2] at hh
    rw [oneC_bad hh.2]
    exact hh.1

end Go.Proofs.YthpjkgoahneldaaDoor
end

section
/-
  Chapter 6: the laws ShowBytes, ShowAdds.
-/
namespace Go.Proofs.YthpjkgoahneldaaDoor
open Go Go.RowKit Vc Ut Tb Cl

theorem one_byte {w w1 : World} {b : Nat} {k : Nat} {t : TypeId} (hk : k < 256) (hn : New w (.cells #[.int .u8 (k : Int)] t) b w1) : BytesIn w1 (some ⟨b, 0, none⟩) 1 ⟨#[UInt8.ofNat k]⟩ := by
  refine bytesIn_of rfl (.inr ⟨b, 0, rfl, fun j v hv => ?_⟩)
  rw [cell_of_heap hn.heap, Nat.zero_add, show (#[Value.int .u8 (k : Int)] : Array Value) = [Value.int .u8 (k : Int)].toArray from rfl, List.getElem?_toArray]
  have e : (UInt8.ofNat k).toNat = k := by rw [UInt8.toNat_ofNat']; exact Nat.mod_eq_of_lt (by omega)
  have hv : ([Value.int .u8 ((UInt8.ofNat k).toNat : Int)])[j]? = some v := hv
  rw [e] at hv
  exact hv
theorem lawBy_ok : sLawBy.Ok Tryd.prog 16 := by
  refine lawBy_vc ⟨shows_ok, textp_ok, live_ok, trivial⟩ ?_
  rintro ⟨k, col, l⟩ w ⟨hU, hk⟩ b w1 hn
  dsimp only at hU hk ⊢
  obtain ⟨c0, c1, c2, c3, c4⟩ := look_at (l := l) hn.heap
  have e1 : Ext w w1 := hn.ext
  refine bcase_mk (fun h => ?_) (fun h => ?_)
  · rw [Bool.and_eq_true] at h
    have h1 := of_decide_eq_true h.1
    have h2 := of_decide_eq_true h.2
    intro b1 w2 hn2
    have x2 := hn2.ext
    refine ⟨_, one_byte hk hn2, _, x2.cell c0, _, x2.cell c1, _, x2.cell c2, _, x2.cell c3, _, x2.cell c4, ?_⟩
    intro b5 w3 hn3
    have e3 : Ext w w3 := Ext.trans e1 (Ext.trans x2 hn3.ext)
    refine ⟨_, one_byte hk hn3, ?_⟩
    refine sh_step hU e3 l (by show 1 ≤ 67108864; decide) ?_ fun w4 e4 => bcase_is rfl ⟨(), rfl, hU.ext e4, fun _ w5 e5 => ⟨(), rfl, Ext.trans e4 e5⟩⟩
    unfold showsB
    rw [byte_print (by omega) (by omega)]
    simp
  · have hnp : ¬ (32 ≤ k ∧ k < 127) := by
      rintro ⟨h1, h2⟩
      rw [decide_eq_true (show (k : Int) ≥ 32 by omega), decide_eq_true (show (k : Int) < 127 by omega)] at h
      cases h
    intro b1 w2 hn2
    have x2 := hn2.ext
    have e2 : Ext w w2 := Ext.trans e1 x2
    refine ⟨_, one_byte hk hn2, _, x2.cell c0, _, x2.cell c1, _, x2.cell c2, _, x2.cell c3, _, x2.cell c4, ?_⟩
    refine te_step hU e2 l (by show 1 ≤ 67108864; decide) fun w3 e3 => ?_
    have hok := byte_other hk hnp col l
    have hw := one_w ⟨#[UInt8.ofNat k]⟩ col l
    rw [← byte_text k hk] at hw
    generalize textC ⟨#[UInt8.ofNat k]⟩ col l = r at hok hw ⊢
    have hz : (ByteArray.mk #[UInt8.ofNat k]).size = 1 := rfl
    unfold okB6 at hok
    rw [Bool.and_eq_true, Bool.and_eq_true, List.all_eq_true] at hok
    obtain ⟨⟨o1, o2⟩, o3⟩ := hok
    have o1 := of_decide_eq_true o1
    refine bcase_mk (fun h => ?_) (fun h => ?_)
    · exfalso
      have o2 : (r.2 == 0) = (k == 10) := by simpa using o2
      rw [o1, show ((r.2 : Int) == 0) = (r.2 == 0) from by rw [Bool.eq_iff_iff, beq_iff_eq, beq_iff_eq]; omega, show ((k : Int) == 10) = (k == 10) from by rw [Bool.eq_iff_iff, beq_iff_eq, beq_iff_eq]; omega, o2] at h
      simp at h
    refine ⟨⟨0, rfl, by decide, e3⟩, ?_⟩
    rintro _ i w4 ⟨hi, e4⟩
    refine bcase_mk (fun h => ?_) (fun h => ⟨(), rfl, hU.ext e4, fun _ w5 e5 => ⟨(), rfl, Ext.trans e4 e5⟩⟩)
    have hlt : i < r.1.size := by have := of_decide_eq_true h; omega
    have hmem : r.1.data.toList.getD i 0 ∈ r.1.data.toList := by
      have hl : i < r.1.data.toList.length := by rw [size_list]; exact hlt
      rw [List.getD_eq_getElem?_getD, List.getElem?_eq_getElem hl]
      exact List.getElem_mem hl
    have hq := o3 _ hmem
    rw [Bool.and_eq_true] at hq
    have q1 := of_decide_eq_true hq.1
    have q2 := of_decide_eq_true hq.2
    refine ⟨i, rfl, hlt, bcase_mk (fun h => ?_) (fun _ => ⟨i, rfl, hlt, bcase_mk (fun h => ?_) (fun _ => ⟨inr_i64 (by omega) (by omega), i + 1, by simp, ⟨by omega, e4⟩, by omega⟩)⟩)⟩
    · exfalso; have := of_decide_eq_true h; omega
    · exfalso; have := of_decide_eq_true h; omega

/-! ### Widths add up -/
theorem ones_4 {a b c d q : Nat} : ones [a, b, c, d] q ↔ q = a ∨ q = b ∨ q = c ∨ q = d := by simp [ones]

set_option maxRecDepth 100000 in
set_option maxHeartbeats 2000000 in
theorem lawAd_ok : sLawAd.Ok Tryd.prog 18 := by
  refine lawAd_vc ⟨widc_ok, call_ok, live_ok, cutc_ok, cis_ok, trivial⟩ ?_
  rintro ⟨s, col, l, wd⟩ w ⟨hU, hD, hsm⟩ b w1 hn1 b1 w2 hn2 b2 w3 hn3 b3 w4 hn4 b4 w5 hn5
  dsimp only at hU hD hsm ⊢
  dsimp only [ptrB]
  have z1 := hn1.size; have z2 := hn2.size; have z3 := hn3.size; have z4 := hn4.size; have z5 := hn5.size
  have hut := hU.lt; have hdt := hD.lt
  have x45 := hn5.ext
  have x35 := Ext.trans hn4.ext x45
  have x25 := Ext.trans hn3.ext x35
  have x15 := Ext.trans hn2.ext x25
  have e5 : Ext w w5 := Ext.trans hn1.ext x15
  have h50 := x15.heap hn1.heap
  have h51 := x25.heap hn2.heap
  have h52 := x35.heap hn3.heap
  have h53 := x45.heap hn4.heap
  have h54 := hn5.heap
  have hca := colA_bd col
  refine ⟨⟨col, box_cell h51, bcase_mk (fun h => ⟨rfl, box_old h51, box_free h51, fun w6 hs6 => ⟨(), ?_, Fr.stored hs6⟩⟩) (fun h => ⟨col, box_cell h51, bcase_mk (fun h' => ⟨rfl, box_old h51, box_free h51, fun w6 hs6 => ⟨(), ?_, Fr.stored hs6⟩⟩) (fun h' => ⟨(), ?_, Fr.refl _ _⟩)⟩)⟩, ?_⟩
  · have h := of_decide_eq_true h
    unfold colA; rw [if_pos (.inl h)]; exact hs6.box h51
  · have h' := of_decide_eq_true h'
    unfold colA; rw [if_pos (.inr h')]; exact hs6.box h51
  · have h := of_decide_eq_false h
    have h' := of_decide_eq_false h'
    unfold colA; rw [if_neg (by omega)]; exact h51
  rintro _ _ w6 ⟨h61, hf6⟩
  have kf : ∀ {q : Nat} {o : Obj}, w5.heap[q]? = some o → q ≠ b1 → w6.heap[q]? = some o := fun {q o} h hq => (hf6.block q (heap_lt h) hq).trans h
  have h60 := kf h50 (by omega)
  have h62 := kf h52 (by omega)
  have h63 := kf h53 (by omega)
  have h64 := kf h54 (by omega)
  have e6 : Ext w w6 := Ext.fr_new e5 hf6 (fun q hq => by omega)
  generalize hA : colA col = ca at hca h61 ⊢
  obtain ⟨c0, c1, c2, c3, c4⟩ := look_at (l := l) h62
  have hncl := ncl_le s
  have hz6 := hf6.size
  refine ⟨s, box_cell h60, ca, box_cell h61, l.tab, c0, l.wide, c1, l.want, c2, l.join, c3, l.raw, c4, ⟨s, ca, l⟩, rfl, ⟨hU.ext e6, hD.ext e6, by dsimp only; omega⟩, ?_⟩
  rintro whole w7 ⟨hwh, e67⟩
  dsimp only at hwh
  intro b8 w8 hn8
  have h88 := hn8.heap
  refine ⟨rfl, box_old h88, box_free h88, fun w9 hs9 => ?_⟩
  have h98 := hs9.box h88
  have z8 := hn8.size
  have z7 := e67.size
  have e68 : Ext w6 w8 := Ext.trans e67 hn8.ext
  have e69 : Ext w6 w9 := Ext.stored e68 hs9 (by show _ ≤ b8; omega)
  have e9 := Ext.trans e6 e69
  refine ⟨s, box_cell (e69.heap h60), s, rfl, trivial, ?_⟩
  rintro v w10 ⟨hv, hvs, e910⟩
  have e610 := Ext.trans e69 e910
  have e10 := Ext.trans e6 e610
  have h108 := e910.heap h98
  refine ⟨⟨(), rfl, ⟨hU.ext e10, hD.ext e10⟩, fun _ w11 e1011 => ⟨_, box_cell (e1011.heap h108), bcase_mk (fun h => ?_) (fun h => ⟨(), e1011⟩)⟩⟩, ?_⟩
  · exfalso; have := of_decide_eq_true h; omega
  rintro _ _ w11 e1011
  have e611 := Ext.trans e610 e1011
  have e11 := Ext.trans e6 e611
  have c0' := e611.cell c0; have c1' := e611.cell c1; have c2' := e611.cell c2; have c3' := e611.cell c3; have c4' := e611.cell c4
  refine ⟨s, box_cell (e611.heap h60), wd, box_cell (e611.heap h63), l.tab, c0', l.wide, c1', l.want, c2', l.join, c3', l.raw, c4', ⟨s, wd, l⟩, rfl, ⟨hU.ext e11, hD.ext e11, by dsimp only; omega⟩, ?_⟩
  rintro cut w12 ⟨hcut, e1112⟩
  dsimp only at hcut
  intro b12 w13 hn13
  have g1 := hn13.heap
  have y1 := hn13.size
  refine ⟨rfl, box_old g1, box_free g1, fun w14 hs14 => ?_⟩
  have g2 := hs14.box g1
  have y2 := hs14.size
  intro b13 w15 hn15
  have g3 := hn15.heap
  have y3 := hn15.size
  refine ⟨rfl, box_old g3, box_free g3, fun w16 hs16 => ?_⟩
  have g4 := hs16.box g3
  have y4 := hs16.size
  intro b14 w17 hn17
  have g5 := hn17.heap
  have y5 := hn17.size
  refine ⟨rfl, box_old g5, box_free g5, fun w18 hs18 => ?_⟩
  have g6 := hs18.box g5
  have y6 := hs18.size
  intro b15 w19 hn19
  have g7 := hn19.heap
  have y7 := hn19.size
  refine ⟨rfl, box_old g7, box_free g7, fun w20 hs20 => ?_⟩
  have g8 := hs20.box g7
  have y8 := hs20.size
  have y0 := e1112.size
  have yb := e1011.size
  have ya := e910.size
  have y9 := hs9.size
  have e612 := Ext.trans e611 e1112
  have hv12 : ∀ {q : Nat} {o : Obj}, w12.heap[q]? = some o → w20.heap[q]? = some o := by
    intro q o h
    have hq := heap_lt h
    have a1 := hn13.ext.heap h
    have a2 := (hs14.other (k := q) (by show q ≠ b12; omega)).trans a1
    have a3 := hn15.ext.heap a2
    have a4 := (hs16.other (k := q) (by show q ≠ b13; omega)).trans a3
    have a5 := hn17.ext.heap a4
    have a6 := (hs18.other (k := q) (by show q ≠ b14; omega)).trans a5
    have a7 := hn19.ext.heap a6
    exact (hs20.other (k := q) (by show q ≠ b15; omega)).trans a7
  have hw12 : w.heap.size ≤ w12.heap.size := (Ext.trans e6 e612).size
  have e20 : Ext w w20 := by
    have a1 : Ext w w13 := Ext.trans (Ext.trans e6 e612) hn13.ext
    have a2 : Ext w w14 := Ext.stored a1 hs14 (by show _ ≤ b12; omega)
    have a3 : Ext w w16 := Ext.stored (Ext.trans a2 hn15.ext) hs16 (by show _ ≤ b13; omega)
    have a4 : Ext w w18 := Ext.stored (Ext.trans a3 hn17.ext) hs18 (by show _ ≤ b14; omega)
    exact Ext.stored (Ext.trans a4 hn19.ext) hs20 (by show _ ≤ b15; omega)
  have p0 := hv12 (e612.heap h60)
  have p1 := hv12 (e612.heap h61)
  have p2 := hv12 (e612.heap h62)
  have p3 := hv12 (e612.heap h63)
  have p4 := hv12 (e612.heap h64)
  have p8 := hv12 ((Ext.trans e1011 e1112).heap h108)
  have pv := hv12 ((Ext.trans e1011 e1112).heap hvs)
  have p12 : w20.heap[b12]? = some (.cells #[.int .i64 (cut : Nat)] 3) := by
    have a2 := hn15.ext.heap g2
    have a3 := (hs16.other (k := b12) (by show b12 ≠ b13; omega)).trans a2
    have a4 := hn17.ext.heap a3
    have a5 := (hs18.other (k := b12) (by show b12 ≠ b14; omega)).trans a4
    have a6 := hn19.ext.heap a5
    exact (hs20.other (k := b12) (by show b12 ≠ b15; omega)).trans a6
  have p13 : w20.heap[b13]? = some (.cells #[.int .i64 0] 3) := by
    have a4 := hn17.ext.heap g4
    have a5 := (hs18.other (k := b13) (by show b13 ≠ b14; omega)).trans a4
    have a6 := hn19.ext.heap a5
    exact (hs20.other (k := b13) (by show b13 ≠ b15; omega)).trans a6
  have p14 : w20.heap[b14]? = some (.cells #[.int .i64 0] 3) := by
    have a6 := hn19.ext.heap g6
    exact (hs20.other (k := b14) (by show b14 ≠ b15; omega)).trans a6
  have p15 := g8
  have o4 : b4 < b8 := by omega
  have o8 : b8 < v := by have := hs9.size; omega
  have o12 : v < b12 := by have := heap_lt ((Ext.trans e1011 e1112).heap hvs); omega
  have o13 : b12 < b13 := by omega
  have o14 : b13 < b14 := by omega
  have o15 : b14 < b15 := by omega
  have lt15 : b15 < w20.heap.size := heap_lt p15
  have hU20 := hU.ext e20
  have hD20 := hD.ext e20
  clear hv12 kf
  have n1 : b4 ≠ b13 := by omega
  have n2 : b4 ≠ b14 := by omega
  have n3 : b4 ≠ b15 := by omega
  have n4 : b13 ≠ b14 := by omega
  have n5 : b13 ≠ b15 := by omega
  have n6 : b14 ≠ b15 := by omega
  have nd : ∀ q, q ≠ b4 → q < b13 → ¬ ones [b4, b13, b14, b15] q := fun q h1 h2 h => by rcases ones_4.1 h with h | h | h | h <;> omega
  have dm : ∀ {q : Nat}, q = b4 ∨ q = b13 ∨ q = b14 ∨ q = b15 → ones [b4, b13, b14, b15] q := ones_4.2
  have hbase : w.heap.size ≤ b := by omega
  have hb04 : b < b1 ∧ b1 < b2 ∧ b2 < b3 ∧ b3 < b4 := by omega
  have hwhole : whole = wdU s (redC ca l) l (ncl s) := hwh
  have hcut' : cut = cutP s wd l := hcut
  refine ⟨pcL s, cC v, ones [b4, b13, b14, b15], pc_iter pv hU20 (by omega), ⟨?_, ?_⟩, ⟨rfl, ⟨_, p4⟩, p13, p14, p15⟩, ?_, ?_, ?_, ?_, ?_⟩
  · intro q hq; rcases ones_4.1 hq with rfl | rfl | rfl | rfl <;> omega
  · intro q hq
    refine ⟨cC_lt (by omega) hU20 q hq, nd q ?_ ?_⟩
    · rcases hq with h' | h' | h' <;> omega
    · rcases hq with h' | h' | h' <;> omega
  · rintro k D W W' ⟨rfl, ⟨u, ha⟩, hb, hc, hd⟩ hsz hq
    exact ⟨rfl, ⟨u, hq b4 _ (.inr (dm (.inl rfl))) ha (.inl rfl)⟩, hq b13 _ (.inr (dm (.inr (.inl rfl)))) hb (.inl rfl), hq b14 _ (.inr (dm (.inr (.inr (.inl rfl))))) hc (.inl rfl), hq b15 _ (.inr (dm (.inr (.inr (.inr rfl))))) hd (.inl rfl)⟩
  · rintro _ k D W W' ⟨rfl, ha⟩ hsz hq
    exact ⟨rfl, hq b4 _ (.inr (dm (.inl rfl))) ha (.inl rfl)⟩
  · rintro k pp D W hp ⟨rfl, ⟨u, ha⟩, hb, hc, hd⟩ hM
    have hkl : k < ncl s := by have := (List.getElem?_eq_some_iff.1 hp).1; rwa [pc_len] at this
    rw [pc_get hkl] at hp
    cases hp
    have hle := bp_le s k
    have k0 := (hM.old (heap_lt p0) (nd b (by omega) (by omega))).trans p0
    have k1 := (hM.old (heap_lt p1) (nd b1 (by omega) (by omega))).trans p1
    have k2 := (hM.old (heap_lt p2) (nd b2 (by omega) (by omega))).trans p2
    have k3 := (hM.old (heap_lt p3) (nd b3 (by omega) (by omega))).trans p3
    have k8 := (hM.old (heap_lt p8) (nd b8 (by omega) (by omega))).trans p8
    have k12 := (hM.old (heap_lt p12) (nd b12 (by omega) (by omega))).trans p12
    obtain ⟨d0, d1, d2, d3, d4⟩ := look_at (l := l) k2
    have hUW : U8 W := hU20.fr hM.fr (nd _ (by omega) (by omega)) (nd _ (by omega) (by omega))
    have hDW : DB W := hD20.fr hM.fr (nd _ (by omega) (by omega))
    have hpre : ∀ (c : Int), wideS (s.extract 0 (bp s k)) c l = wdU s (redC c l) l k := fun c => wide_pre (Nat.le_of_lt hkl) c l
    have hsz : (s.extract 0 (bp s k)).size ≤ 67108864 := by rw [size_ext hle]; omega
    have hsz2 : (s.extract (bp s k) s.size).size ≤ 67108864 := by rw [size_ext (Nat.le_refl _)]; omega
    have hwl := wdU_le s (redC ca l) l k
    have hwn := wdU_le s (redC ca l) l (ncl s)
    have hsuf := wide_suf (Nat.le_of_lt hkl) hca.1 l
    have hlast := last_le s (redC ca l) l k
    have hws : wideS s ca l = whole := hwh.symm
    intro w21 hd21
    refine ⟨s, box_cell k0, bp s k, rfl, Nat.zero_le _, hle, ca, box_cell k1, l.tab, d0, l.wide, d1, l.want, d2, l.join, d3, l.raw, d4, ⟨s.extract 0 (bp s k), ca, l⟩, rfl, ⟨hUW.ext hd21.ext, hDW.ext hd21.ext, hsz⟩, ?_⟩
    rintro a w22 ⟨hax, e2122⟩
    have hax : a = wdU s (redC ca l) l k := hax.trans (hpre ca)
    have eW22 : Ext W w22 := Ext.trans hd21.ext e2122
    refine ⟨?_, ?_⟩
    · intro w23 hd23
      refine ⟨_, box_cell (eW22.heap hc), bcase_mk (fun h => ?_) (fun h => ?_)⟩
      · have q0 := eW22.cell d0; have q1 := eW22.cell d1; have q2 := eW22.cell d2; have q3 := eW22.cell d3; have q4 := eW22.cell d4
        refine ⟨s, box_cell (eW22.heap k0), bp s k, rfl, hle, Nat.le_refl _, ca, box_cell (eW22.heap k1), inr_i64 (by omega) (by omega), l.tab, q0, l.wide, q1, l.want, q2, l.join, q3, l.raw, q4, _, box_cell (eW22.heap k8), ⟨s.extract (bp s k) s.size, ca + a, l⟩, rfl, ⟨hUW.ext (Ext.trans eW22 hd23.ext), hDW.ext (Ext.trans eW22 hd23.ext), hsz2⟩, ?_⟩
        rintro y w24 ⟨hy, e2324⟩
        dsimp only at hy
        rw [hax] at hy
        have hsum : a + y = whole := by rw [hax, hy, hsuf, hws]
        refine ⟨e2324, inr_i64 (by omega) (by omega), bcase_mk (fun h => ?_) (fun h => ⟨_, box_cell ((Ext.trans eW22 (Ext.trans hd23.ext e2324)).heap hd), bcase_mk (fun h => ?_) (fun h => ⟨(), Ext.trans hd23.ext e2324⟩)⟩)⟩
        · exfalso
          rw [show (a : Int) + (y : Int) = (whole : Int) from by omega] at h
          simp at h
        · exfalso
          have := of_decide_eq_true h; omega
      · refine ⟨_, box_cell (eW22.heap hd), bcase_mk (fun h => ?_) (fun h => ⟨(), hd23.ext⟩)⟩
        exfalso
        have := of_decide_eq_true h; omega
    rintro _ _ w23 e2223
    have eW23 : Ext W w23 := Ext.trans eW22 e2223
    have st23 := Step.ext eW23 hM.lt
    have j15 := eW23.heap hd
    refine ⟨rfl, box_old j15, box_free j15, fun w24 hs24 => ?_⟩
    have st24 := st23.trans (Step.stored hs24 (dm (.inr (.inr (.inr rfl)))) (fun q hq => (st23.dom q hq).1))
    have m15 := hs24.box j15
    have m14 := (hs24.other (k := b14) n6).trans (eW23.heap hc)
    have m13 := (hs24.other (k := b13) n5).trans (eW23.heap hb)
    have m4 := (hs24.other (k := b4) n3).trans (eW23.heap ha)
    refine ⟨_, box_cell m14, inr_i64 (by omega) (by omega), rfl, box_old m14, box_free m14, fun w25 hs25 => ?_⟩
    have st25 := st24.trans (Step.stored hs25 (dm (.inr (.inr (.inl rfl)))) (fun q hq => (st24.dom q hq).1))
    have r14 := hs25.box m14
    have r15 := (hs25.other (k := b15) n6.symm).trans m15
    have r13 := (hs25.other (k := b13) n4).trans m13
    have r4 := (hs25.other (k := b4) n2).trans m4
    intro w26 hd26
    have kp : ∀ {V : World} {q : Nat} {o : Obj}, Step (ones [b4, b13, b14, b15]) W V (ones [b4, b13, b14, b15]) → W.heap[q]? = some o → ¬ ones [b4, b13, b14, b15] q → V.heap[q]? = some o := fun {V q o} st h hq => (st.fr.block q (heap_lt h) hq).trans h
    have uV : ∀ {V : World}, Step (ones [b4, b13, b14, b15]) W V (ones [b4, b13, b14, b15]) → U8 V ∧ DB V := fun {V} st => ⟨hU20.fr (hM.step st).fr (nd _ (by omega) (by omega)) (nd _ (by omega) (by omega)), hD20.fr (hM.step st).fr (nd _ (by omega) (by omega))⟩
    obtain ⟨f0, f1, f2, f3, f4⟩ := look_at (l := l) (kp st25 k2 (nd b2 (by omega) (by omega)))
    have u25 := uV st25
    refine ⟨s, box_cell (kp st25 k0 (nd b (by omega) (by omega))), bp s k, rfl, Nat.zero_le _, hle, l.tab, f0, l.wide, f1, l.want, f2, l.join, f3, l.raw, f4, wd, box_cell (kp st25 k3 (nd b3 (by omega) (by omega))), ⟨s.extract 0 (bp s k), 0, l⟩, rfl, ⟨u25.1.ext hd26.ext, u25.2.ext hd26.ext, hsz⟩, ?_⟩
    rintro x w27 ⟨hx, e2627⟩
    have hx : x = wdU s 0 l k := by rw [← red_zero l]; exact hx.trans (hpre 0)
    have e2527 : Ext w25 w27 := Ext.trans hd26.ext e2627
    have st27 := st25.trans (Step.ext e2527 (fun q hq => (st25.dom q hq).1))
    have s14 := e2527.heap r14
    have s15 := e2527.heap r15
    have s13 := e2527.heap r13
    have s4 := e2527.heap r4
    have fin : ∀ V : World, Step (ones [b4, b13, b14, b15]) W V (ones [b4, b13, b14, b15]) → V.heap[b4]? = some (.cells #[.bool u] 4) → V.heap[b13]? = some (.cells #[.int .i64 (bestA s l wd (k + 1) : Nat)] 3) → V.heap[b14]? = some (.cells #[.int .i64 ((k : Int) + 1)] 3) → V.heap[b15]? = some (.cells #[.int .i64 (a : Nat)] 3) →
        ∃ n13 : Int, V.cell? ⟨b14, 0, none⟩ = some (.int .i64 n13) ∧ bcase (decide (n13 > 300)) (∃ s5 : ByteArray, V.cell? ⟨b, 0, none⟩ = some (.string s5) ∧ ∃ n14 : Int, V.cell? ⟨b12, 0, none⟩ = some (.int .i64 n14) ∧ ∃ g6 : ByteArray × Int, (#[.string s5, .int .i64 n14] : Array Value) = #[.string g6.1, .int .i64 g6.2] ∧ (U8 V ∧ g6.1.size ≤ 67108864) ∧
          ∀ (x6 : Bool) (V2 : World), x6 = isB g6.1 g6.2 ∧ Ext V V2 → true = true ∧ (∃ old : Value, V2.cell? ⟨b4, 0, none⟩ = some old) ∧ V2.frozen? ⟨b4, 0, none⟩ = false ∧ ∀ V3 : World, Stored V2 ⟨b4, 0, none⟩ (.bool x6) V3 → ∃ D' : Nat → Prop, Step (ones [b4, b13, b14, b15]) W V3 D' ∧ D' = ones [b4, b13, b14, b15] ∧ V3.heap[b4]? = some (.cells #[.bool true] 4))
          (∃ D' : Nat → Prop, Step (ones [b4, b13, b14, b15]) W V D' ∧ D' = ones [b4, b13, b14, b15] ∧ (∃ v : Bool, V.heap[b4]? = some (.cells #[.bool v] 4)) ∧ V.heap[b13]? = some (.cells #[.int .i64 (bestA s l wd (k + 1) : Nat)] 3) ∧ V.heap[b14]? = some (.cells #[.int .i64 ((k + 1 : Nat) : Int)] 3) ∧ V.heap[b15]? = some (.cells #[.int .i64 (lastA s (redC ca l) l (k + 1) : Nat)] 3)) := by
      intro V st t4 t13 t14 t15
      refine ⟨_, box_cell t14, bcase_mk (fun h => ?_) (fun h => ?_)⟩
      · refine ⟨s, box_cell (kp st k0 (nd b (by omega) (by omega))), _, box_cell (kp st k12 (nd b12 (by omega) (by omega))), (s, (cut : Int)), rfl, ⟨(uV st).1, by dsimp only; omega⟩, ?_⟩
        rintro x6 V2 ⟨hx6, eV⟩
        have t4' := eV.heap t4
        have st2 := st.trans (Step.ext eV (fun q hq => (st.dom q hq).1))
        refine ⟨rfl, box_old t4', box_free t4', fun V3 hs3 => ⟨_, st2.trans (Step.stored hs3 (dm (.inl rfl)) (fun q hq => (st2.dom q hq).1)), rfl, ?_⟩⟩
        have := hs3.box t4'
        rw [hx6, hcut', cut_is] at this
        exact this
      · exact ⟨_, st, rfl, ⟨u, t4⟩, t13, t14, by rw [show lastA s (redC ca l) l (k + 1) = a from hax.symm]; exact t15⟩
    refine ⟨e2627, bcase_mk (fun h => ?_) (fun h => ?_)⟩
    · have h := of_decide_eq_true h
      refine ⟨rfl, box_old s13, box_free s13, fun w28 hs28 => ?_⟩
      refine fin w28 (st27.trans (Step.stored hs28 (dm (.inr (.inl rfl))) (fun q hq => (st27.dom q hq).1))) ((hs28.other (k := b4) n1).trans s4) ?_ ((hs28.other (k := b14) n4.symm).trans s14) ((hs28.other (k := b15) n5.symm).trans s15)
      have := hs28.box s13
      simp only [bestA]
      rw [if_pos (by rw [← hx]; exact h)]
      exact this
    · have h := of_decide_eq_false h
      refine fin w27 st27 s4 ?_ s14 s15
      simp only [bestA]
      rw [if_neg (by rw [← hx]; exact h)]
      exact s13
  · rintro D W ⟨rfl, ⟨u, ha⟩, hb, hc, hd⟩ hM
    rw [lenX_eq, pc_len] at hb hc hd
    have k0 := (hM.old (heap_lt p0) (nd b (by omega) (by omega))).trans p0
    have k2 := (hM.old (heap_lt p2) (nd b2 (by omega) (by omega))).trans p2
    have k3 := (hM.old (heap_lt p3) (nd b3 (by omega) (by omega))).trans p3
    have k12 := (hM.old (heap_lt p12) (nd b12 (by omega) (by omega))).trans p12
    obtain ⟨d0, d1, d2, d3, d4⟩ := look_at (l := l) k2
    have hUW : U8 W := hU20.fr hM.fr (nd _ (by omega) (by omega)) (nd _ (by omega) (by omega))
    have hDW : DB W := hD20.fr hM.fr (nd _ (by omega) (by omega))
    have eW : Ext w W := hM.ext e20 (fun q hq => by rcases ones_4.1 hq with h | h | h | h <;> omega)
    have hbest := cut_best s l wd
    rw [← hcut'] at hbest
    intro w21 hd21
    refine ⟨s, box_cell k0, l.tab, d0, l.wide, d1, l.want, d2, l.join, d3, l.raw, d4, wd, box_cell k3, ⟨s, 0, l⟩, rfl, ⟨hUW.ext hd21.ext, hDW.ext hd21.ext, by dsimp only; omega⟩, ?_⟩
    rintro x w22 ⟨hx, e2122⟩
    have hx : x = wdU s 0 l (ncl s) := by
      have h0 : x = wdU s (redC 0 l) l (ncl s) := hx
      rwa [red_zero] at h0
    have eW22 : Ext W w22 := Ext.trans hd21.ext e2122
    have j4 := eW22.heap ha; have j13 := eW22.heap hb; have j0 := eW22.heap k0; have j12 := eW22.heap k12
    have fin : ∀ V : World, Ext w V → U8 V → V.heap[b4]? = some (.cells #[.bool u] 4) → V.heap[b]? = some (.cells #[.string s] 9) → V.heap[b12]? = some (.cells #[.int .i64 (cut : Nat)] 3) → V.heap[b13]? = some (.cells #[.int .i64 (cut : Nat)] 3) →
        ∃ n9 : Int, V.cell? ⟨b12, 0, none⟩ = some (.int .i64 n9) ∧ ∃ n10 : Int, V.cell? ⟨b13, 0, none⟩ = some (.int .i64 n10) ∧ bcase (n9 == n10) (∃ s5 : ByteArray, V.cell? ⟨b, 0, none⟩ = some (.string s5) ∧ ∃ n11 : Int, V.cell? ⟨b12, 0, none⟩ = some (.int .i64 n11) ∧ ∃ g5 : ByteArray × Int, (#[.string s5, .int .i64 n11] : Array Value) = #[.string g5.1, .int .i64 g5.2] ∧ (U8 V ∧ g5.1.size ≤ 67108864) ∧
          ∀ (x4 : Bool) (V2 : World), x4 = isB g5.1 g5.2 ∧ Ext V V2 → true = true ∧ (∃ old : Value, V2.cell? ⟨b4, 0, none⟩ = some old) ∧ V2.frozen? ⟨b4, 0, none⟩ = false ∧ ∀ V3 : World, Stored V2 ⟨b4, 0, none⟩ (.bool x4) V3 → ∃ b19 : Bool, V3.cell? ⟨b4, 0, none⟩ = some (.bool b19) ∧ ∀ W2 : World, Turn w.heap.size V3 W2 → ∃ _ : Unit, Value.bool b19 = Value.bool true ∧ Ext w W2)
          (true = true ∧ (∃ old : Value, V.cell? ⟨b4, 0, none⟩ = some old) ∧ V.frozen? ⟨b4, 0, none⟩ = false ∧ ∀ V3 : World, Stored V ⟨b4, 0, none⟩ (.bool false) V3 → ∃ b19 : Bool, V3.cell? ⟨b4, 0, none⟩ = some (.bool b19) ∧ ∀ W2 : World, Turn w.heap.size V3 W2 → ∃ _ : Unit, Value.bool b19 = Value.bool true ∧ Ext w W2) := by
      intro V eV uV t4 t0 t12 t13
      refine ⟨_, box_cell t12, _, box_cell t13, bcase_mk (fun h => ?_) (fun h => ?_)⟩
      · refine ⟨s, box_cell t0, _, box_cell t12, (s, (cut : Int)), rfl, ⟨uV, by dsimp only; omega⟩, ?_⟩
        rintro x4 V2 ⟨hx4, eV2⟩
        have t4' := eV2.heap t4
        refine ⟨rfl, box_old t4', box_free t4', fun V3 hs3 => ⟨_, box_cell (hs3.box t4'), fun W2 ht => ⟨(), ?_, Ext.turn (Ext.stored (Ext.trans eV eV2) hs3 (by show _ ≤ b4; omega)) ht⟩⟩⟩
        rw [hx4, hcut', cut_is]
      · exfalso
        simp at h
    refine ⟨e2122, bcase_mk (fun h => ?_) (fun h => ?_)⟩
    · have h := of_decide_eq_true h
      rw [hx] at h
      rw [if_pos h] at hbest
      refine ⟨s, box_cell j0, rfl, box_old j13, box_free j13, fun w23 hs23 => ?_⟩
      refine fin w23 (Ext.stored (Ext.trans eW eW22) hs23 (by show _ ≤ b13; omega)) ((hUW.ext eW22).fr (Fr.stored hs23) (by show _ ≠ b13; omega) (by show _ ≠ b13; omega)) ((hs23.other (k := b4) n1).trans j4) ((hs23.other (k := b) (by show b ≠ b13; omega)).trans j0) ((hs23.other (k := b12) (by show b12 ≠ b13; omega)).trans j12) ?_
      rw [hbest]; exact hs23.box j13
    · have h := of_decide_eq_false h
      rw [hx] at h
      rw [if_neg h] at hbest
      refine fin w22 (Ext.trans eW eW22) (hUW.ext eW22) j4 j0 j12 ?_
      rw [hbest]; exact j13
  · rintro D W ⟨rfl, ha⟩ hM
    have eW : Ext w W := hM.ext e20 (fun q hq => by rcases ones_4.1 hq with h | h | h | h <;> omega)
    exact ⟨_, box_cell ha, fun W2 ht => ⟨(), rfl, Ext.turn eW ht⟩⟩

end Go.Proofs.YthpjkgoahneldaaDoor
end

section
/-
  Chapter 6: the law ShowKnown (printed by tools/known6.py).
-/
namespace Go.Proofs.YthpjkgoahneldaaDoor
open Go Go.RowKit Vc Ut Tb Cl

theorem mk_len (n : Nat) : (mkL n).length = 2 * n := by
  unfold mkL
  induction n with
  | zero => rfl
  | succ n ih => rw [List.replicate_succ, List.flatten_cons, List.length_append, ih]; show 2 + 2 * n = 2 * (n + 1); omega
theorem mk_succ (n : Nat) : mkL (n + 1) = mkL n ++ [204, 129] := by
  unfold mkL
  rw [List.replicate_succ', List.flatten_append]; rfl
theorem mk_in {w : World} {a : Option Addr} {n : Nat} (h : CellsAt w a (u8L (mkL n))) : BytesIn w a (2 * n) (strL (mkL n)) :=
  bytesIn_of (by rw [strL_size, mk_len]) h
theorem mk_take : (u8L (mkL 32)).take 62 = u8L (mkL 31) := by
  unfold u8L
  rw [← List.map_take, show (mkL 32).take 62 = mkL 31 from by decide +kernel]
theorem kn_one : showsB (strL (mkL 32)) 0 lkZ (⟨#[226, 151, 140]⟩ ++ strL (mkL 31)) 1 = true := by decide +kernel
theorem kn_two : showsB (strL (mkL 31)) 0 lkZ (⟨#[226, 151, 140]⟩ ++ strL (mkL 31)) 1 = true := by decide +kernel
theorem kn_sz : (ByteArray.mk #[226, 151, 140]).size + (strL (mkL 31)).size ≤ 9223372036854775807 := by rw [strL_size, mk_len]; show (3 + 62 : Nat) ≤ _; decide
theorem kn_s1 : (strL (mkL 32)).size ≤ 67108864 := by rw [strL_size, mk_len]; decide
theorem kn_s2 : (strL (mkL 31)).size ≤ 67108864 := by rw [strL_size, mk_len]; decide

set_option maxRecDepth 100000 in
set_option maxHeartbeats 4000000 in
theorem lawKn_ok : (sYes UD).Ok Tryd.prog 17 := by
  refine lawKn_vc ⟨shows_ok, widc_ok, cutc_ok, plainc_ok, live_ok, trivial⟩ ?_
  rintro _ w hUD b w1 hn1 b1 w2 hn2
  have e2 : Ext w w2 := Ext.trans hn1.ext hn2.ext
  obtain ⟨c0, c1, c2, c3, c4⟩ := look_at (l := lkZ) (hn2.ext.heap hn1.heap)
  obtain ⟨r0, r1, r2, r3, r4⟩ := look_at (l := lkR) hn2.heap
  have hU : UD w2 := hUD.ext e2
  refine ⟨?_, ?_⟩
  · refine ⟨_, (Ext.refl _).cell r0, _, (Ext.refl _).cell r1, _, (Ext.refl _).cell r2, _, (Ext.refl _).cell r3, _, (Ext.refl _).cell r4, sh_step hU (Ext.refl _) lkR (by decide) (by decide +kernel) fun va0 ea0 => bcase_is rfl ?_⟩
    refine ⟨_, ea0.cell c0, _, ea0.cell c1, _, ea0.cell c2, _, ea0.cell c3, _, ea0.cell c4, sh_step hU ea0 lkZ (by decide) (by decide +kernel) fun va1 ea1 => bcase_is rfl ?_⟩
    refine sh_step hU ea1 ⟨4, false, 0, false, false⟩ (by decide) (by decide +kernel) fun va2 ea2 => bcase_is rfl ?_
    refine sh_step hU ea2 ⟨99, false, 0, false, false⟩ (by decide) (by decide +kernel) fun va3 ea3 => bcase_is rfl ?_
    refine sh_step hU ea3 ⟨16, false, 0, false, false⟩ (by decide) (by decide +kernel) fun va4 ea4 => bcase_is rfl ?_
    refine ⟨_, ea4.cell r0, _, ea4.cell r1, _, ea4.cell r2, _, ea4.cell r3, _, ea4.cell r4, sh_step hU ea4 lkR (by decide) (by decide +kernel) fun va5 ea5 => bcase_is rfl ?_⟩
    refine ⟨_, ea5.cell r0, _, ea5.cell r1, _, ea5.cell r2, _, ea5.cell r3, _, ea5.cell r4, sh_step hU ea5 lkR (by decide) (by decide +kernel) fun va6 ea6 => bcase_is rfl ?_⟩
    refine ⟨_, ea6.cell c0, _, ea6.cell c1, _, ea6.cell c2, _, ea6.cell c3, _, ea6.cell c4, sh_step hU ea6 lkZ (by decide) (by decide +kernel) fun va7 ea7 => bcase_is rfl ?_⟩
    refine ⟨_, ea7.cell c0, _, ea7.cell c1, _, ea7.cell c2, _, ea7.cell c3, _, ea7.cell c4, sh_step hU ea7 lkZ (by decide) (by decide +kernel) fun va8 ea8 => bcase_is rfl ?_⟩
    refine ⟨_, ea8.cell c0, _, ea8.cell c1, _, ea8.cell c2, _, ea8.cell c3, _, ea8.cell c4, sh_step hU ea8 lkZ (by decide) (by decide +kernel) fun va9 ea9 => bcase_is rfl ?_⟩
    exact ⟨_, ea9.cell c0, _, ea9.cell c1, _, ea9.cell c2, _, ea9.cell c3, _, ea9.cell c4, sh_step hU ea9 lkZ (by decide) (by decide +kernel) fun va10 ea10 => ⟨(), rfl, ea10⟩⟩
  rintro _ _ w3 e3
  have e03 := Ext.trans e2 e3
  have hU3 := hUD.ext e03
  replace c0 := e3.cell c0; replace c1 := e3.cell c1; replace c2 := e3.cell c2; replace c3 := e3.cell c3; replace c4 := e3.cell c4
  replace r0 := e3.cell r0; replace r1 := e3.cell r1; replace r2 := e3.cell r2; replace r3 := e3.cell r3; replace r4 := e3.cell r4
  refine ⟨?_, ?_⟩
  · refine ⟨_, (Ext.refl _).cell c0, _, (Ext.refl _).cell c1, _, (Ext.refl _).cell c2, _, (Ext.refl _).cell c3, _, (Ext.refl _).cell c4, sh_step hU3 (Ext.refl _) lkZ (by decide) (by decide +kernel) fun vb0 eb0 => bcase_is rfl ?_⟩
    refine ⟨_, eb0.cell r0, _, eb0.cell r1, _, eb0.cell r2, _, eb0.cell r3, _, eb0.cell r4, sh_step hU3 eb0 lkR (by decide) (by decide +kernel) fun vb1 eb1 => bcase_is rfl ?_⟩
    refine ⟨_, eb1.cell c0, _, eb1.cell c1, _, eb1.cell c2, _, eb1.cell c3, _, eb1.cell c4, sh_step hU3 eb1 lkZ (by decide) (by decide +kernel) fun vb2 eb2 => bcase_is rfl ?_⟩
    refine ⟨_, eb2.cell c0, _, eb2.cell c1, _, eb2.cell c2, _, eb2.cell c3, _, eb2.cell c4, sh_step hU3 eb2 lkZ (by decide) (by decide +kernel) fun vb3 eb3 => bcase_is rfl ?_⟩
    refine ⟨_, eb3.cell c0, _, eb3.cell c1, _, eb3.cell c2, _, eb3.cell c3, _, eb3.cell c4, sh_step hU3 eb3 lkZ (by decide) (by decide +kernel) fun vb4 eb4 => bcase_is rfl ?_⟩
    exact ⟨_, eb4.cell r0, _, eb4.cell r1, _, eb4.cell r2, _, eb4.cell r3, _, eb4.cell r4, sh_step hU3 eb4 lkR (by decide) (by decide +kernel) fun vb5 eb5 => ⟨(), rfl, eb5⟩⟩
  rintro _ _ w4 e4
  have e04 := Ext.trans e03 e4
  have hU4 := hUD.ext e04
  replace c0 := e4.cell c0; replace c1 := e4.cell c1; replace c2 := e4.cell c2; replace c3 := e4.cell c3; replace c4 := e4.cell c4
  replace r0 := e4.cell r0; replace r1 := e4.cell r1; replace r2 := e4.cell r2; replace r3 := e4.cell r3; replace r4 := e4.cell r4
  refine ⟨?_, ?_⟩
  · refine ⟨_, (Ext.refl _).cell c0, _, (Ext.refl _).cell c1, _, (Ext.refl _).cell c2, _, (Ext.refl _).cell c3, _, (Ext.refl _).cell c4, tx_step hU4 (Ext.refl _) lkZ (by decide) fun vd0 ed0 => bcase_is (by decide +kernel) ?_⟩
    refine ⟨_, ed0.cell c0, _, ed0.cell c1, _, ed0.cell c2, _, ed0.cell c3, _, ed0.cell c4, tx_step hU4 ed0 lkZ (by decide) fun vd1 ed1 => bcase_is (by decide +kernel) ?_⟩
    refine ⟨_, ed1.cell c0, _, ed1.cell c1, _, ed1.cell c2, _, ed1.cell c3, _, ed1.cell c4, tx_step hU4 ed1 lkZ (by decide) fun vd2 ed2 => bcase_is (by decide +kernel) ?_⟩
    refine ⟨_, ed2.cell c0, _, ed2.cell c1, _, ed2.cell c2, _, ed2.cell c3, _, ed2.cell c4, tx_step hU4 ed2 lkZ (by decide) fun vd3 ed3 => bcase_is (by decide +kernel) ?_⟩
    refine ⟨_, ed3.cell c0, _, ed3.cell c1, _, ed3.cell c2, _, ed3.cell c3, _, ed3.cell c4, tx_step hU4 ed3 lkZ (by decide) fun vd4 ed4 => bcase_is (by decide +kernel) ?_⟩
    exact pl_step hU4 ed4 (by decide) fun vd5 ed5 => ⟨(), by rw [str_eq]; exact congrArg Value.bool (by decide +kernel), ed5⟩
  rintro _ _ w5 e5
  have e05 := Ext.trans e04 e5
  replace c0 := e5.cell c0; replace c1 := e5.cell c1; replace c2 := e5.cell c2; replace c3 := e5.cell c3; replace c4 := e5.cell c4
  replace r0 := e5.cell r0; replace r1 := e5.cell r1; replace r2 := e5.cell r2; replace r3 := e5.cell r3; replace r4 := e5.cell r4
  refine ⟨⟨(0, none, 0), rfl, rfl, Nat.zero_le _, Made.nil _ _ _⟩, ?_⟩
  rintro _ ⟨n, a, c⟩ w6 ⟨hn, hm⟩
  dsimp only at hn hm ⊢
  refine bcase_mk (fun h => ?_) (fun h => ?_)
  · have hlt : n < 32 := by have := of_decide_eq_true h; omega
    obtain ⟨a', c', w7, hr, hko, hm7⟩ := hm.pushStr (P := Tryd.prog) (ty := 64) elem8 builder_str (ByteArray.mk #[204, 129]) (by show 2 * n + 2 ≤ _; omega)
    refine ⟨a', c', w7, hr, hko, inr_i64 (by omega) (by omega), (n + 1, a', c'), by simp, rfl, ⟨hlt, ?_⟩, by dsimp only; omega⟩
    dsimp only
    rw [mk_succ, u8L_app]
    exact hm7
  have hn32 : n = 32 := by have := of_decide_eq_false h; omega
  subst hn32
  have e6 : Ext w5 w6 := hm.ext
  have e06 := Ext.trans e05 e6
  have hU6 := hUD.ext e06
  replace c0 := e6.cell c0; replace c1 := e6.cell c1; replace c2 := e6.cell c2; replace c3 := e6.cell c3; replace c4 := e6.cell c4
  replace r0 := e6.cell r0; replace r1 := e6.cell r1; replace r2 := e6.cell r2; replace r3 := e6.cell r3; replace r4 := e6.cell r4
  have hcap : 62 ≤ c := by have := hm.row.le.1; omega
  have hcl := hm.row.cells
  have b64 : ∀ {V : World}, Ext w6 V → BytesIn V a (2 * 32) (strL (mkL 32)) := fun e => mk_in (n := 32) (hcl.ext e)
  have b62 : ∀ {V : World}, Ext w6 V → BytesIn V a 62 (strL (mkL 31)) := fun e => mk_in (n := 31) (by rw [← mk_take]; exact (hcl.ext e).take 62)
  refine ⟨?_, ?_⟩
  · intro w7 hd7
    have e7 : Ext w6 w7 := hd7.ext
    refine ⟨_, c0, _, c1, _, c2, _, c3, _, c4, 62, rfl, hcap, ?_, ?_⟩
    · refine ⟨_, b64 e7, Below.refl _ _, _, b62 e7, Below.refl _ _, kn_sz, ?_⟩
      refine sh_step hU6 e7 lkZ kn_s1 kn_one fun w8 e8 => bcase_is rfl ?_
      refine ⟨62, rfl, hcap, _, e8.cell c0, _, e8.cell c1, _, e8.cell c2, _, e8.cell c3, _, e8.cell c4, 62, rfl, hcap, ?_, ?_⟩
      · refine ⟨_, b62 e8, Below.refl _ _, _, b62 e8, Below.refl _ _, kn_sz, ?_⟩
        refine sh_step hU6 e8 lkZ kn_s2 kn_two fun w9 e9 => bcase_is rfl ?_
        refine ⟨_, e9.cell c0, _, e9.cell c1, _, e9.cell c2, _, e9.cell c3, _, e9.cell c4, sh_step hU6 e9 lkZ (by decide) (by decide +kernel) fun vfx0 efx0 => bcase_is rfl ?_⟩
        refine ⟨_, efx0.cell r0, _, efx0.cell r1, _, efx0.cell r2, _, efx0.cell r3, _, efx0.cell r4, sh_step hU6 efx0 lkR (by decide) (by decide +kernel) fun vfx1 efx1 => bcase_is rfl ?_⟩
        refine sh_step hU6 efx1 ⟨0, true, 0, false, false⟩ (by decide) (by decide +kernel) fun vfx2 efx2 => bcase_is rfl ?_
        exact ⟨_, efx2.cell r0, _, efx2.cell r1, _, efx2.cell r2, _, efx2.cell r3, _, efx2.cell r4, sh_step hU6 efx2 lkR (by decide) (by decide +kernel) fun vfx3 efx3 => ⟨(), rfl, efx3⟩⟩
      · refine ⟨_, b62 e8, Below.refl _ _, kn_sz, _, b62 e8, Below.refl _ _, ?_⟩
        refine sh_step hU6 e8 lkZ kn_s2 kn_two fun w9 e9 => bcase_is rfl ?_
        refine ⟨_, e9.cell c0, _, e9.cell c1, _, e9.cell c2, _, e9.cell c3, _, e9.cell c4, sh_step hU6 e9 lkZ (by decide) (by decide +kernel) fun vfy0 efy0 => bcase_is rfl ?_⟩
        refine ⟨_, efy0.cell r0, _, efy0.cell r1, _, efy0.cell r2, _, efy0.cell r3, _, efy0.cell r4, sh_step hU6 efy0 lkR (by decide) (by decide +kernel) fun vfy1 efy1 => bcase_is rfl ?_⟩
        refine sh_step hU6 efy1 ⟨0, true, 0, false, false⟩ (by decide) (by decide +kernel) fun vfy2 efy2 => bcase_is rfl ?_
        exact ⟨_, efy2.cell r0, _, efy2.cell r1, _, efy2.cell r2, _, efy2.cell r3, _, efy2.cell r4, sh_step hU6 efy2 lkR (by decide) (by decide +kernel) fun vfy3 efy3 => ⟨(), rfl, efy3⟩⟩
    · refine ⟨_, b62 e7, Below.refl _ _, kn_sz, _, b64 e7, Below.refl _ _, ?_⟩
      refine sh_step hU6 e7 lkZ kn_s1 kn_one fun w8 e8 => bcase_is rfl ?_
      refine ⟨62, rfl, hcap, _, e8.cell c0, _, e8.cell c1, _, e8.cell c2, _, e8.cell c3, _, e8.cell c4, 62, rfl, hcap, ?_, ?_⟩
      · refine ⟨_, b62 e8, Below.refl _ _, _, b62 e8, Below.refl _ _, kn_sz, ?_⟩
        refine sh_step hU6 e8 lkZ kn_s2 kn_two fun w9 e9 => bcase_is rfl ?_
        refine ⟨_, e9.cell c0, _, e9.cell c1, _, e9.cell c2, _, e9.cell c3, _, e9.cell c4, sh_step hU6 e9 lkZ (by decide) (by decide +kernel) fun vgx0 egx0 => bcase_is rfl ?_⟩
        refine ⟨_, egx0.cell r0, _, egx0.cell r1, _, egx0.cell r2, _, egx0.cell r3, _, egx0.cell r4, sh_step hU6 egx0 lkR (by decide) (by decide +kernel) fun vgx1 egx1 => bcase_is rfl ?_⟩
        refine sh_step hU6 egx1 ⟨0, true, 0, false, false⟩ (by decide) (by decide +kernel) fun vgx2 egx2 => bcase_is rfl ?_
        exact ⟨_, egx2.cell r0, _, egx2.cell r1, _, egx2.cell r2, _, egx2.cell r3, _, egx2.cell r4, sh_step hU6 egx2 lkR (by decide) (by decide +kernel) fun vgx3 egx3 => ⟨(), rfl, egx3⟩⟩
      · refine ⟨_, b62 e8, Below.refl _ _, kn_sz, _, b62 e8, Below.refl _ _, ?_⟩
        refine sh_step hU6 e8 lkZ kn_s2 kn_two fun w9 e9 => bcase_is rfl ?_
        refine ⟨_, e9.cell c0, _, e9.cell c1, _, e9.cell c2, _, e9.cell c3, _, e9.cell c4, sh_step hU6 e9 lkZ (by decide) (by decide +kernel) fun vgy0 egy0 => bcase_is rfl ?_⟩
        refine ⟨_, egy0.cell r0, _, egy0.cell r1, _, egy0.cell r2, _, egy0.cell r3, _, egy0.cell r4, sh_step hU6 egy0 lkR (by decide) (by decide +kernel) fun vgy1 egy1 => bcase_is rfl ?_⟩
        refine sh_step hU6 egy1 ⟨0, true, 0, false, false⟩ (by decide) (by decide +kernel) fun vgy2 egy2 => bcase_is rfl ?_
        exact ⟨_, egy2.cell r0, _, egy2.cell r1, _, egy2.cell r2, _, egy2.cell r3, _, egy2.cell r4, sh_step hU6 egy2 lkR (by decide) (by decide +kernel) fun vgy3 egy3 => ⟨(), rfl, egy3⟩⟩
  rintro _ _ w7 e7
  exact ⟨(), rfl, hUD.ext (Ext.trans e06 e7), fun _ w8 e8 => ⟨(), rfl, Ext.trans e06 (Ext.trans e7 e8)⟩⟩

end Go.Proofs.YthpjkgoahneldaaDoor
end
