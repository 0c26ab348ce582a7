/-
  Texts joined by program: SpI, SpSb, SpSp, SpSc, SpSd, VgSd.
-/
import Derived.Test.YthpjkgoahneldaaDoorSg06
import Derived.Test.YthpjkgoahneldaaDoorProg
import Derived.KernelRfl
set_option linter.unusedVariables false
set_option linter.unusedSimpArgs false

section
/-
  Specifications, chapter 3: the program's iterators, and what is told by them.
-/
namespace Go.Proofs.YthpjkgoahneldaaDoor
open Go Go.RowKit Vc Ut Tb Cl

def encPc (p : Nat × ByteArray) : List Value := [.int .i64 (p.1 : Int), .string p.2]
def itV (f b : Nat) : Value := .func (.func f) #[] #[.pointer (some ⟨b, 0, none⟩)]
def ones (l : List Nat) : Nat → Prop := fun q => q ∈ l
def ptrB (v : Value) : Nat := match v with | .pointer (some ⟨b, _, _⟩) => b | _ => 0

def itPc : IterSpec where
  G := ByteArray × Nat
  cap := fun g => [.pointer (some ⟨g.2, 0, none⟩)]
  xs := fun g => (pcL g.1).map encPc
  C := fun g q => q = g.2 ∨ q = 0 ∨ q = 1
  pre := fun g w => w.heap[g.2]? = some (.cells #[.string g.1] 9) ∧ U8 w ∧ g.1.size ≤ 67108864
def spItPc : List (Nat × CallSpec) := [(76, sSN nextL)]
def annItPc (g : ByteArray × Nat) (i : ItG) (W : World) : Ann where
  sp := spItPc
  yl := some (ylOf (itPc.xs g) i W)
  loops := [(1, {
    X := Nat × (Nat → Prop)
    sh := fun _ x => [(3, .int .i64 (bp g.1 x.1))]
    inv := fun _ _ x w => x.1 ≤ ncl g.1 ∧ i.J x.1 x.2 w ∧ Mid W i.D0 x.2 w
    mu := fun _ _ x _ => ncl g.1 - x.1 })]

structure GBk where
  s : ByteArray
  bl : Nat
  bs : Nat
  a : Option Addr
  c : Nat
def pcR (s : ByteArray) : List (Nat × ByteArray) := (List.range (ncl s)).map fun k => pcP s (ncl s - 1 - k)
/-- What a way back holds: its borders, its text. -/
def BkAt (g : GBk) (w : World) : Prop := w.heap[g.bl]? = some (.cells #[.slice g.a (ncl g.s + 1) g.c] 45) ∧ Row w 3 1 g.a (ncl g.s + 1) ((bordI g.s).map (Value.int .i64)) g.c ∧ w.heap[g.bs]? = some (.cells #[.string g.s] 9)
def itBk : IterSpec where
  G := GBk
  cap := fun g => [.pointer (some ⟨g.bl, 0, none⟩), .pointer (some ⟨g.bs, 0, none⟩)]
  xs := fun g => (pcR g.s).map encPc
  C := fun g q => q = g.bl ∨ q = g.bs ∨ blk g.a = some q
  pre := fun g w => BkAt g w ∧ g.s.size ≤ 67108864
def annItBk (g : GBk) (i : ItG) (W : World) : Ann where
  sp := []
  yl := some (ylOf (itBk.xs g) i W)
  loops := [(1, {
    X := Nat × (Nat → Prop)
    sh := fun _ x => [(4, .int .i64 ((ncl g.s : Int) - x.1))]
    inv := fun _ _ x w => x.1 ≤ ncl g.s ∧ i.J x.1 x.2 w ∧ Mid W i.D0 x.2 w
    mu := fun _ _ x _ => ncl g.s - x.1 })]

/-- A text's iterator. -/
def sIter (f : Nat) : CallSpec where
  G := ByteArray
  args := fun s => #[.string s]
  pre := fun s w => True
  X := Nat
  res := fun b => itV f b
  post := fun s w b w' => w.heap.size ≤ b ∧ w'.heap[b]? = some (.cells #[.string s] 9) ∧ Ext w w'
def spAllC : List (Nat × CallSpec) := [(65, sIter 101)]
def endsI (s : ByteArray) : List Int := (List.range (ncl s)).map fun i => (bp s (i + 1) : Int)
def annEnds (s : ByteArray) (w00 : World) : Ann where
  sp := spAllC
  ranges := [(3, {
    α := Nat × ByteArray
    enc := encPc
    J := fun e w0 xs k D W => ∃ a c, D = (fun q => q = ptrB (gv e 3) ∨ blk a = some q) ∧ Grow W (ptrB (gv e 3)) 45 3 a c (((endsI s).take k).map (Value.int .i64))
    Jx := fun e w0 _ _ D W => (1 : Nat) = 0 })]
def annLastC (s : ByteArray) (w00 : World) : Ann where
  sp := spAllC
  ranges := [(3, {
    α := Nat × ByteArray
    enc := encPc
    J := fun e w0 xs k D W => D = ones [ptrB (gv e 3)] ∧ W.heap[ptrB (gv e 3)]? = some (.cells #[.int .i64 (if k = 0 then 0 else ((bp s k : Int) - bp s (k - 1)))] 3)
    Jx := fun e w0 _ _ D W => (1 : Nat) = 0 })]
def annIsC (g : ByteArray × Int) (w00 : World) : Ann where
  sp := spAllC
  ranges := [(2, {
    α := Nat × ByteArray
    enc := encPc
    exs := [.ret]
    J := fun e w0 xs k D W => D = ones [ptrB (gv e 4)] ∧ (∀ j, j < k → (bp g.1 j : Int) < g.2) ∧ (∃ v, W.heap[ptrB (gv e 4)]? = some (.cells #[.bool v] 4))
    Jx := fun e w0 _ _ D W => D = ones [ptrB (gv e 4)] ∧ W.heap[ptrB (gv e 4)]? = some (.cells #[.bool (isB g.1 g.2)] 4) })]
def annAtC (g : ByteArray × Int) (w00 : World) : Ann where
  sp := spAllC
  ranges := [(3, {
    α := Nat × ByteArray
    enc := encPc
    exs := [.ret]
    J := fun e w0 xs k D W => D = ones [ptrB (gv e 4), ptrB (gv e 5)] ∧ (∀ j, j < k → bp g.1 (j + 1) ≤ clampN g.1 g.2) ∧ (∃ v u, W.heap[ptrB (gv e 4)]? = some (.cells #[.int .i64 v] 3) ∧ W.heap[ptrB (gv e 5)]? = some (.cells #[.int .i64 u] 3))
    Jx := fun e w0 _ _ D W => D = ones [ptrB (gv e 4), ptrB (gv e 5)] ∧ W.heap[ptrB (gv e 4)]? = some (.cells #[.int .i64 (atF g.1 g.2).1] 3) ∧ W.heap[ptrB (gv e 5)]? = some (.cells #[.int .i64 (atF g.1 g.2).2] 3) })]

/-- A variable that holds a list of one's own, of elements of s cells. -/
structure GrowS (W : World) (box : Nat) (t e : TypeId) (s n : Nat) (a : Option Addr) (c : Nat) (vs : List Value) : Prop where
  hb : W.heap[box]? = some (.cells #[.slice a n c] t)
  row : Row W e s a n vs c

/-- An iterator that is handed in. -/
structure GIt where
  f : Nat
  caps : Array Value
  xs : List (Nat × ByteArray)
  C : Nat → Prop
def GIt.v (g : GIt) : Value := .func (.func g.f) #[] g.caps
def GIt.ok (g : GIt) (w : World) : Prop := IterAt Tryd.prog (.func (.func g.f) #[] g.caps) (g.xs.map encPc) g.C w ∧ (∀ q, g.C q → q < w.heap.size) ∧ g.xs.length ≤ 67108864
def upP (k : Nat) (p : Nat × ByteArray) : Nat × ByteArray := (p.1 + k, p.2)

--#vci itPc_vc 101 itPc annItPc spItPc
--#vc cpieces_vc 65 (sIter 101) (annOf []) []
--#vc call_vc 55 (sIter 101) (annOf spAllC) spAllC
--#vc cis_vc 28 sIsB annIsC spAllC

end Go.Proofs.YthpjkgoahneldaaDoor
end

section
/-
  Specifications, chapter 6: how many columns a text takes, where it is cut.
-/
namespace Go.Proofs.YthpjkgoahneldaaDoor
open Go Go.RowKit Vc Ut Tb Cl

def sTxN (f : ByteArray → Int → Lk → Nat) : CallSpec where
  G := GT6
  args := fun g => #[.string g.s, .int .i64 g.col, lkV g.l]
  pre := fun g w => U8 w ∧ DB w ∧ g.s.size ≤ 67108864
  X := Nat
  res := fun x => .int .i64 x
  post := fun g w x w' => x = f g.s g.col g.l ∧ Ext w w'
def sRest : CallSpec where
  G := Int × Lk
  args := fun g => #[.int .i64 g.1, lkV g.2]
  pre := fun g _ => 0 ≤ g.1
  X := Nat
  res := fun x => .int .i64 x
  post := fun g w x w' => x = g.1.toNat % tabN g.2.tab ∧ Ext w w'
def spWidC : List (Nat × CallSpec) := [(81, sStop), (55, sIter 101), (45, sTextC)]
def redC (c : Int) (l : Lk) : Int := ((c.toNat % tabN l.tab : Nat) : Int)
def annWidC (g : GT6) (_ : World) : Ann where
  sp := spWidC
  ranges := [(4, {
    α := Nat × ByteArray
    enc := encPc
    J := fun e w0 xs k D W => D = ones [ptrB (gv e 7)] ∧ W.heap[ptrB (gv e 7)]? = some (.cells #[.int .i64 (wdU g.s (redC g.col g.l) g.l k : Nat)] 3)
    Jx := fun _ _ _ _ _ _ => (1 : Nat) = 0 })]
def annCutC (g : GT6) (_ : World) : Ann where
  sp := spWidC
  ranges := [(3, {
    α := Nat × ByteArray
    enc := encPc
    exs := [.ret]
    J := fun e w0 xs k D W => D = ones [ptrB (gv e 6), ptrB (gv e 7), ptrB (gv e 8)] ∧ (∀ j, j < k → ¬ g.col < (wdU g.s 0 g.l (j + 1) : Int)) ∧ (∃ v, W.heap[ptrB (gv e 6)]? = some (.cells #[.int .i64 v] 3)) ∧ W.heap[ptrB (gv e 7)]? = some (.cells #[.int .i64 (wdU g.s 0 g.l k : Nat)] 3) ∧ W.heap[ptrB (gv e 8)]? = some (.cells #[.int .i64 (bp g.s k : Nat)] 3)
    Jx := fun e w0 _ _ D W => D = ones [ptrB (gv e 6), ptrB (gv e 7), ptrB (gv e 8)] ∧ W.heap[ptrB (gv e 6)]? = some (.cells #[.int .i64 (cutP g.s g.col g.l : Nat)] 3) })]

/-! ### The document's -/
def spRest : List (Nat × CallSpec) := [(116, sStop)]
def spWidR : List (Nat × CallSpec) := [(56, sRAllP), (82, sRest), (46, sTextC)]
def annWidR (g : GT6) (_ : World) : Ann where
  sp := spWidR
  cuts := [(1, 2, { X := Unit, sh := fun _ _ => [(1, .int .i64 (if g.col < 0 then 0 else g.col))], inv := fun _ w0 _ w => w = w0 })]
  loops := [(6, {
    X := Nat
    sh := fun _ i => [(9, .int .i64 i), (7, .int .i64 (wdU g.s (redC g.col g.l) g.l i : Nat))]
    inv := fun _ w0 i w => i ≤ ncl g.s ∧ Ext w0 w
    mu := fun _ _ i _ => ncl g.s - i })]
def annCutR (g : GT6) (_ : World) : Ann where
  sp := spWidR
  loops := [(5, {
    X := Nat
    sh := fun _ i => [(10, .int .i64 i), (7, .int .i64 (wdU g.s 0 g.l i : Nat)), (9, .int .i64 (bp g.s i : Nat))]
    inv := fun _ w0 i w => i ≤ ncl g.s ∧ (∀ j, j < i → ¬ g.col < (wdU g.s 0 g.l (j + 1) : Int)) ∧ Ext w0 w
    mu := fun _ _ i _ => ncl g.s - i })]

--#vc widC_vc 48 (sTxN wideS) annWidC spWidC
--#vc cutC_vc 50 (sTxN cutP) annCutC spWidC
--#vc rest_vc 82 sRest (annOf spRest) spRest
--#vc widR_vc 49 (sTxN wideS) annWidR spWidR
--#vc cutR_vc 51 (sTxN cutP) annCutR spWidR

end Go.Proofs.YthpjkgoahneldaaDoor
end

section
/-
  Specifications, chapter 6: a text in plain form; the library's builder of strings.
-/
namespace Go.Proofs.YthpjkgoahneldaaDoor
open Go Go.RowKit Vc Ut Tb Cl

/-- A builder's record: unused yet, or its own. -/
def bdP (b : Nat) (p : Option Addr) : Prop := p = none ∨ p = some ⟨b, 0, none⟩
structure GBd where
  b : Nat
  p : Option Addr
  a : Option Addr
  n : Nat
  c : Nat
def sCopy : CallSpec where
  G := GBd
  args := fun g => #[.pointer (some ⟨g.b, 0, none⟩)]
  pre := fun g w => bdP g.b g.p ∧ w.heap[g.b]? = some (.cells #[.pointer g.p, .slice g.a g.n g.c] 95)
  X := Unit
  res := fun _ => .tuple #[]
  post := fun g w _ w' => w'.heap[g.b]? = some (.cells #[.pointer (some ⟨g.b, 0, none⟩), .slice g.a g.n g.c] 95) ∧ Fr (fun q => q = g.b) w w'
structure GWr where
  b : Nat
  p : Option Addr
  a : Option Addr
  c : Nat
  vs : List Value
  s : ByteArray
def sWrStr : CallSpec where
  G := GWr
  args := fun g => #[.pointer (some ⟨g.b, 0, none⟩), .string g.s]
  pre := fun g w => bdP g.b g.p ∧ w.heap[g.b]? = some (.cells #[.pointer g.p, .slice g.a g.vs.length g.c] 95) ∧ Row w 5 1 g.a g.vs.length g.vs g.c ∧ g.vs.length + g.s.size ≤ 70368744177664
  X := Option Addr × Nat × Nat
  res := fun x => .tuple #[.int .i64 x.2.2, .nilIface]
  post := fun g w x w' => x.2.2 = g.s.size ∧ w'.heap[g.b]? = some (.cells #[.pointer (some ⟨g.b, 0, none⟩), .slice x.1 (g.vs.length + g.s.size) x.2.1] 95) ∧ Row w' 5 1 x.1 (g.vs.length + g.s.size) (g.vs ++ u8L g.s.data.toList) x.2.1 ∧
    Fr (fun q => q = g.b ∨ blk g.a = some q) w w' ∧ (∀ q, blk x.1 = some q → blk g.a = some q ∨ w.heap.size ≤ q)
def spWrStr : List (Nat × CallSpec) := [(123, sCopy)]
structure GSb6 where
  b : Nat
  base : Nat
  p : Option Addr
  a : Option Addr
  c : Nat
  l : List UInt8
def sStrB : CallSpec where
  G := GSb6
  args := fun g => #[.pointer (some ⟨g.b, 0, none⟩)]
  pre := fun g w => bdP g.b g.p ∧ w.heap[g.b]? = some (.cells #[.pointer g.p, .slice g.a g.l.length g.c] 95) ∧ Row w 5 1 g.a g.l.length (u8L g.l) g.c ∧ g.base ≤ g.b ∧ (∀ q, blk g.a = some q → g.base ≤ q)
  X := ByteArray
  res := fun x => .string x
  post := fun g w x w' => x = strL g.l ∧ Below g.base w w'
def sPlainC : CallSpec where
  G := ByteArray
  args := fun s => #[.string s]
  pre := fun s w => U8 w ∧ DB w ∧ s.size ≤ 67108864
  X := ByteArray
  res := fun x => .string x
  post := fun s w x w' => x = plainS s ∧ Ext w w'
def plL (s : ByteArray) (k : Nat) : List UInt8 := (plainU s k).data.toList
def spPlC : List (Nat × CallSpec) := [(55, sIter 101), (83, sWrStr), (45, sTextC), (84, sStrB)]
/-- The builder at b holds these bytes; D are its blocks. -/
structure BdL (b : Nat) (L : List UInt8) (D : Nat → Prop) (W : World) : Prop where
  at' : ∃ p a c, bdP b p ∧ (∀ q, D q ↔ q = b ∨ blk a = some q) ∧ W.heap[b]? = some (.cells #[.pointer p, .slice a (u8L L).length c] 95) ∧ Row W 5 1 a (u8L L).length (u8L L) c
def annPlC (s : ByteArray) (_ : World) : Ann where
  sp := spPlC
  ranges := [(3, {
    α := Nat × ByteArray
    enc := encPc
    J := fun e w0 xs k D W => BdL (ptrB (gv e 3)) (plL s k) D W
    Jx := fun _ _ _ _ _ _ => (1 : Nat) = 0 })]
def spPlR : List (Nat × CallSpec) := [(56, sRAllP), (46, sTextC)]
def annPlR (s : ByteArray) (_ : World) : Ann where
  sp := spPlR
  loops := [(4, {
    X := GNm
    sh := fun _ x => [(5, .int .i64 x.j), (3, .slice x.a (u8L (plL s x.j)).length x.c)]
    inv := fun _ w0 x w => x.j ≤ ncl s ∧ Made w0 w 5 1 x.a (u8L (plL s x.j)).length (u8L (plL s x.j)) x.c
    mu := fun _ _ x _ => ncl s - x.j })]

--#vc wrStr_vc 83 sWrStr (annOf spWrStr) spWrStr
--#vc plC_vc 52 sPlainC annPlC spPlC
--#vc plR_vc 53 sPlainC annPlR spPlR

end Go.Proofs.YthpjkgoahneldaaDoor
end

section
/-
  Specifications, chapter 6: what every program must do; the laws that ask the document.
-/
namespace Go.Proofs.YthpjkgoahneldaaDoor
open Go Go.RowKit Vc Ut Tb Cl

def UD (w : World) : Prop := U8 w ∧ DB w
structure GSh where
  s : ByteArray
  col : Int
  l : Lk
  want : ByteArray
  wide : Int
def showsB (s : ByteArray) (col : Int) (l : Lk) (want : ByteArray) (wide : Int) : Bool := decide ((textC s col l).1 = want) && decide (((textC s col l).2 : Int) = wide)
def sShows : CallSpec where
  G := GSh
  args := fun g => #[.string g.s, .int .i64 g.col, lkV g.l, .string g.want, .int .i64 g.wide]
  pre := fun g w => U8 w ∧ DB w ∧ g.s.size ≤ 67108864
  X := Bool
  res := fun x => .bool x
  post := fun g w x w' => x = showsB g.s g.col g.l g.want g.wide ∧ Ext w w'
def spShows : List (Nat × CallSpec) := [(45, sTextC)]
def spLive : List (Nat × CallSpec) := [(54, sShows), (48, sTxN wideS), (50, sTxN cutP), (52, sPlainC)]
def annLive (_ : Unit) (_ : World) : Ann where
  sp := spLive
  cuts := [(2, 2, { X := Unit, sh := fun _ _ => [(2, .bool true)], inv := fun _ w0 _ w => Ext w0 w })]
def sLawT : CallSpec where
  G := GT6
  args := fun g => #[.string g.s, .int .i64 g.col, lkV g.l]
  pre := fun g w => U8 w ∧ DB w ∧ g.s.size ≤ 1048576
  X := Unit
  res := fun _ => .bool true
  post := fun g w _ w' => Ext w w'
def sLawP : CallSpec where
  G := ByteArray
  args := fun s => #[.string s]
  pre := fun s w => U8 w ∧ DB w ∧ s.size ≤ 1048576
  X := Unit
  res := fun _ => .bool true
  post := fun _ w _ w' => Ext w w'
def spLawT : List (Nat × CallSpec) := [(45, sTextC), (46, sTextC), (47, sYes UD)]
def annLawT (g : GT6) (w00 : World) : Ann where
  sp := spLawT
  loops := [(2, {
    X := Nat
    sh := fun _ i => [(7, .int .i64 i)]
    inv := fun e _ i w => i ≤ 4 ∧ (∃ x y, w.heap[ptrB (gv e 5)]? = some (.cells #[.int .i64 g.l.tab, .bool x, .int .i8 g.l.want, .bool g.l.join, .bool y] 57)) ∧ w00.heap.size ≤ ptrB (gv e 5) ∧ Ext w00 w
    mu := fun _ _ i _ => 4 - i })]
def spLawW : List (Nat × CallSpec) := [(48, sTxN wideS), (49, sTxN wideS), (47, sYes UD)]
def spLawC : List (Nat × CallSpec) := [(50, sTxN cutP), (51, sTxN cutP), (47, sYes UD)]
def spLawP : List (Nat × CallSpec) := [(52, sPlainC), (53, sPlainC), (47, sYes UD)]

--#vc shows_vc 54 sShows (annOf spShows) spShows
--#vc live_vc 47 (sYes UD) annLive spLive
--#vc lawT_vc 12 sLawT annLawT spLawT
--#vc lawW_vc 13 sLawT (annOf spLawW) spLawW
--#vc lawC_vc 14 sLawT (annOf spLawC) spLawC
--#vc lawP_vc 15 sLawP (annOf spLawP) spLawP

end Go.Proofs.YthpjkgoahneldaaDoor
end

section
/-
  Specifications, chapter 6: the laws that do not ask the document.
-/
namespace Go.Proofs.YthpjkgoahneldaaDoor
open Go Go.RowKit Vc Ut Tb Cl

structure GBy where
  b : Nat
  col : Int
  l : Lk
def sLawBy : CallSpec where
  G := GBy
  args := fun g => #[.int .u8 g.b, .int .i64 g.col, lkV g.l]
  pre := fun g w => UD w ∧ g.b < 256
  X := Unit
  res := fun _ => .bool true
  post := fun _ w _ w' => Ext w w'
def spLawBy : List (Nat × CallSpec) := [(54, sShows), (45, sTextC), (47, sYes UD)]
def annLawBy (_ : GBy) (w00 : World) : Ann where
  sp := spLawBy
  loops := [(7, {
    X := Nat
    sh := fun _ i => [(9, .int .i64 i)]
    inv := fun _ _ i w => i ≤ 100 ∧ Ext w00 w
    mu := fun _ _ i _ => 100 - i })]
def mkL (n : Nat) : List UInt8 := (List.replicate n [204, 129]).flatten
def cutTo6 (d : Nat) : CutAnn := { X := Unit, sh := fun _ _ => [(d, .bool true)], inv := fun _ w0 _ w => Ext w0 w }
def spKn6 : List (Nat × CallSpec) := [(54, sShows), (48, sTxN wideS), (50, sTxN cutP), (52, sPlainC), (47, sYes UD)]
def annKn6 (_ : Unit) (_ : World) : Ann where
  sp := spKn6
  cuts := [(3, 3, cutTo6 3), (4, 4, cutTo6 4), (5, 5, cutTo6 5), (11, 11, cutTo6 5)]
  loops := [(8, {
    X := Nat × Option Addr × Nat
    sh := fun _ x => [(7, .int .i64 x.1), (6, .slice x.2.1 (2 * x.1) x.2.2)]
    inv := fun _ w0 x w => x.1 ≤ 32 ∧ Made w0 w 5 1 x.2.1 (2 * x.1) (u8L (mkL x.1)) x.2.2
    mu := fun _ _ x _ => 32 - x.1 })]

/-! ### Widths add up -/
structure GAd where
  s : ByteArray
  col : Int
  l : Lk
  w : Int
def sLawAd : CallSpec where
  G := GAd
  args := fun g => #[.string g.s, .int .i64 g.col, lkV g.l, .int .i64 g.w]
  pre := fun g w => U8 w ∧ DB w ∧ g.s.size ≤ 1048576
  X := Unit
  res := fun _ => .bool true
  post := fun _ w _ w' => Ext w w'
def colA (c : Int) : Int := if c < 0 ∨ 1073741824 < c then 0 else c
def lastA (s : ByteArray) (c : Int) (l : Lk) : Nat → Nat
  | 0 => 0
  | k + 1 => wdU s c l k
def bestA (s : ByteArray) (l : Lk) (w : Int) : Nat → Nat
  | 0 => 0
  | k + 1 => if (wdU s 0 l k : Int) ≤ w then bp s k else bestA s l w k
def spAd : List (Nat × CallSpec) := [(48, sTxN wideS), (55, sIter 101), (47, sYes UD), (50, sTxN cutP), (28, sIsB)]
def annAd (g : GAd) (_ : World) : Ann where
  sp := spAd
  cuts := [(1, 2, { X := Unit, sh := fun _ _ => [], inv := fun e w0 _ w => w.heap[ptrB (gv e 5)]? = some (.cells #[.int .i64 (colA g.col)] 3) ∧ Fr (fun q => q = ptrB (gv e 5)) w0 w }),
    (5, 6, { X := Unit, sh := fun _ _ => [], inv := fun _ w0 _ w => Ext w0 w }),
    (14, 15, { X := Unit, sh := fun _ _ => [], inv := fun _ w0 _ w => Ext w0 w })]
  ranges := [(12, {
    α := Nat × ByteArray
    enc := encPc
    exs := [.ret]
    J := fun e w0 xs k D W => D = ones [ptrB (gv e 8), ptrB (gv e 12), ptrB (gv e 13), ptrB (gv e 14)] ∧ (∃ v, W.heap[ptrB (gv e 8)]? = some (.cells #[.bool v] 4)) ∧ W.heap[ptrB (gv e 12)]? = some (.cells #[.int .i64 (bestA g.s g.l g.w k : Nat)] 3) ∧ W.heap[ptrB (gv e 13)]? = some (.cells #[.int .i64 (k : Nat)] 3) ∧ W.heap[ptrB (gv e 14)]? = some (.cells #[.int .i64 (lastA g.s (redC (colA g.col) g.l) g.l k : Nat)] 3)
    Jx := fun e w0 _ _ D W => D = ones [ptrB (gv e 8), ptrB (gv e 12), ptrB (gv e 13), ptrB (gv e 14)] ∧ W.heap[ptrB (gv e 8)]? = some (.cells #[.bool true] 4) })]

--#vc lawBy_vc 16 sLawBy annLawBy spLawBy
--#vc lawKn_vc 17 (sYes UD) annKn6 spKn6
--#vc lawAd_vc 18 sLawAd annAd spAd

end Go.Proofs.YthpjkgoahneldaaDoor
end

section
/-
  Verification conditions, printed by a program out of the specifications beside this text: each theorem says that the condition suffices. (Lean's kernel compares the printed condition with what 'wpE' computes.)
-/
set_option linter.unusedVariables false
namespace Go.Proofs.YthpjkgoahneldaaDoor
open Go Go.RowKit Vc Ut Tb Cl

set_option maxRecDepth 1000000 in
theorem lawBy_vc (hsp : SpecsOk Tryd.prog spLawBy) (h : ∀ (g : GBy) (w : World),
UD w ∧ g.b < (256 : Nat) →
∀ (b : Nat) (w1 : World),
New w
(Obj.cells
#[Value.int IntKind.i64 g.l.tab, Value.bool g.l.wide, Value.int IntKind.i8 g.l.want, Value.bool g.l.join,
Value.bool g.l.raw]
(57 : Nat))
b w1 →
bcase (decide ((↑g.b : Int) ≥ (32 : Int)) && decide ((↑g.b : Int) < (127 : Int)))
(∀ (b1 : Nat) (w11 : World),
New w1 (Obj.cells #[Value.int IntKind.u8 (↑g.b : Int)] (5 : Nat)) b1 w11 →
∃ (str : ByteArray),
BytesIn w11 (some { block := b1, off := (0 : Nat) }) (1 : Nat) str ∧
∃ (n : Int),
w11.cell? { block := b, off := (0 : Nat) } = some (Value.int IntKind.i64 n) ∧
∃ (b2 : Bool),
w11.cell? { block := b, off := (1 : Nat) } = some (Value.bool b2) ∧
∃ (n1 : Int),
w11.cell? { block := b, off := (2 : Nat) } = some (Value.int IntKind.i8 n1) ∧
∃ (b3 : Bool),
w11.cell? { block := b, off := (3 : Nat) } = some (Value.bool b3) ∧
∃ (b4 : Bool),
w11.cell? { block := b, off := (4 : Nat) } = some (Value.bool b4) ∧
∀ (b5 : Nat) (w12 : World),
New w11 (Obj.cells #[Value.int IntKind.u8 (↑g.b : Int)] (5 : Nat)) b5 w12 →
∃ (str1 : ByteArray),
BytesIn w12 (some { block := b5, off := (0 : Nat) }) (1 : Nat) str1 ∧
∃ (g1 : GSh),
#[Value.string str, Value.int IntKind.i64 g.col,
Value.agg #[Value.int IntKind.i64 n, Value.bool b2, Value.int IntKind.i8 n1, Value.bool b3, Value.bool b4],
Value.string str1, Value.int IntKind.i64 (1 : Int)] =
#[Value.string g1.s, Value.int IntKind.i64 g1.col,
Value.agg
#[Value.int IntKind.i64 g1.l.tab, Value.bool g1.l.wide, Value.int IntKind.i8 g1.l.want, Value.bool g1.l.join,
Value.bool g1.l.raw],
Value.string g1.want, Value.int IntKind.i64 g1.wide] ∧
(U8 w12 ∧ DB w12 ∧ g1.s.size ≤ (67108864 : Nat)) ∧
∀ (x : Bool) (w' : World),
x = showsB g1.s g1.col g1.l g1.want g1.wide ∧ Ext w12 w' →
bcase x
(∃ (g2 : Unit),
(#[] : Array Value) = #[] ∧
UD w' ∧ ∀ (x1 : Unit) (w'1 : World), Ext w' w'1 → ∃ (x2 : Unit), Value.bool true = Value.bool true ∧ Ext w w'1)
(∃ (x1 : Unit), Value.bool false = Value.bool true ∧ Ext w w'))
(∀ (b1 : Nat) (w11 : World),
New w1 (Obj.cells #[Value.int IntKind.u8 (↑g.b : Int)] (5 : Nat)) b1 w11 →
∃ (str : ByteArray),
BytesIn w11 (some { block := b1, off := (0 : Nat) }) (1 : Nat) str ∧
∃ (n : Int),
w11.cell? { block := b, off := (0 : Nat) } = some (Value.int IntKind.i64 n) ∧
∃ (b2 : Bool),
w11.cell? { block := b, off := (1 : Nat) } = some (Value.bool b2) ∧
∃ (n1 : Int),
w11.cell? { block := b, off := (2 : Nat) } = some (Value.int IntKind.i8 n1) ∧
∃ (b3 : Bool),
w11.cell? { block := b, off := (3 : Nat) } = some (Value.bool b3) ∧
∃ (b4 : Bool),
w11.cell? { block := b, off := (4 : Nat) } = some (Value.bool b4) ∧
∃ (g1 : GT6),
#[Value.string str, Value.int IntKind.i64 g.col,
Value.agg #[Value.int IntKind.i64 n, Value.bool b2, Value.int IntKind.i8 n1, Value.bool b3, Value.bool b4]] =
#[Value.string g1.s, Value.int IntKind.i64 g1.col,
Value.agg
#[Value.int IntKind.i64 g1.l.tab, Value.bool g1.l.wide, Value.int IntKind.i8 g1.l.want, Value.bool g1.l.join,
Value.bool g1.l.raw]] ∧
(U8 w11 ∧ DB w11 ∧ g1.s.size ≤ (67108864 : Nat)) ∧
∀ (x : ByteArray × Nat) (w' : World),
x = textC g1.s g1.col g1.l ∧ Ext w11 w' →
bcase ((↑x.fst.size : Int) != (↑x.snd : Int) || !((↑x.snd : Int) == (0 : Int)) == ((↑g.b : Int) == (10 : Int)))
(∃ (x1 : Unit), Value.bool false = Value.bool true ∧ Ext w w')
((∃ (x1 : Nat), Value.int IntKind.i64 (0 : Int) = Value.int IntKind.i64 (↑x1 : Int) ∧ x1 ≤ (100 : Nat) ∧ Ext w w') ∧
∀ (u : Nat → Value) (x1 : Nat) (w'1 : World),
x1 ≤ (100 : Nat) ∧ Ext w w'1 →
bcase (decide ((↑x1 : Int) < (↑x.fst.size : Int)))
(∃ (k : Nat),
(↑x1 : Int) = (↑k : Int) ∧
k < x.fst.size ∧
bcase (decide ((↑(x.fst.data.toList.getD k (0 : UInt8)).toNat : Int) < (32 : Int)))
(∃ (x2 : Unit), Value.bool false = Value.bool true ∧ Ext w w'1)
(∃ (k1 : Nat),
(↑x1 : Int) = (↑k1 : Int) ∧
k1 < x.fst.size ∧
bcase (decide ((↑(x.fst.data.toList.getD k1 (0 : UInt8)).toNat : Int) > (126 : Int)))
(∃ (x2 : Unit), Value.bool false = Value.bool true ∧ Ext w w'1)
(InR IntKind.i64 ((↑x1 : Int) + (1 : Int)) ∧
∃ (y : Nat),
Value.int IntKind.i64 ((↑x1 : Int) + (1 : Int)) = Value.int IntKind.i64 (↑y : Int) ∧
(y ≤ (100 : Nat) ∧ Ext w w'1) ∧ (100 : Nat) - y < (100 : Nat) - x1)))
(∃ (g2 : Unit),
(#[] : Array Value) = #[] ∧
UD w'1 ∧ ∀ (x2 : Unit) (w'2 : World), Ext w'1 w'2 → ∃ (x3 : Unit), Value.bool true = Value.bool true ∧ Ext w w'2)))) :
    (sLawBy).Ok Tryd.prog 16 :=
  ok_of_vc sLawBy annLawBy spLawBy (fun _ _ => rfl) (fun _ _ => rfl) hsp Tryd.func16 rfl (n := 3) (fun _ => rfl) (by kernel_rfl) (vcast (by kernel_rfl) h)

set_option maxRecDepth 1000000 in
theorem lawKn_vc (hsp : SpecsOk Tryd.prog spKn6) (h : ∀ (g : Unit) (w : World),
UD w →
∀ (b : Nat) (w1 : World),
New w
(Obj.cells
#[Value.int IntKind.i64 (0 : Int), Value.bool false, Value.int IntKind.i8 (0 : Int), Value.bool false, Value.bool false]
(57 : Nat))
b w1 →
∀ (b1 : Nat) (w11 : World),
New w1
(Obj.cells
#[Value.int IntKind.i64 (0 : Int), Value.bool false, Value.int IntKind.i8 (0 : Int), Value.bool false, Value.bool true]
(57 : Nat))
b1 w11 →
(∃ (n : Int),
w11.cell? { block := b1, off := (0 : Nat) } = some (Value.int IntKind.i64 n) ∧
∃ (b2 : Bool),
w11.cell? { block := b1, off := (1 : Nat) } = some (Value.bool b2) ∧
∃ (n1 : Int),
w11.cell? { block := b1, off := (2 : Nat) } = some (Value.int IntKind.i8 n1) ∧
∃ (b3 : Bool),
w11.cell? { block := b1, off := (3 : Nat) } = some (Value.bool b3) ∧
∃ (b4 : Bool),
w11.cell? { block := b1, off := (4 : Nat) } = some (Value.bool b4) ∧
∃ (g1 : GSh),
#[Value.string (ByteArray.mk #[(195 : UInt8)]), Value.int IntKind.i64 (5 : Int),
Value.agg #[Value.int IntKind.i64 n, Value.bool b2, Value.int IntKind.i8 n1, Value.bool b3, Value.bool b4],
Value.string (ByteArray.mk #[(60 : UInt8), (99 : UInt8), (51 : UInt8), (62 : UInt8)]), Value.int IntKind.i64 (4 : Int)] =
#[Value.string g1.s, Value.int IntKind.i64 g1.col,
Value.agg
#[Value.int IntKind.i64 g1.l.tab, Value.bool g1.l.wide, Value.int IntKind.i8 g1.l.want, Value.bool g1.l.join,
Value.bool g1.l.raw],
Value.string g1.want, Value.int IntKind.i64 g1.wide] ∧
(U8 w11 ∧ DB w11 ∧ g1.s.size ≤ (67108864 : Nat)) ∧
∀ (x : Bool) (w' : World),
x = showsB g1.s g1.col g1.l g1.want g1.wide ∧ Ext w11 w' →
bcase x
(∃ (n2 : Int),
w'.cell? { block := b, off := (0 : Nat) } = some (Value.int IntKind.i64 n2) ∧
∃ (b5 : Bool),
w'.cell? { block := b, off := (1 : Nat) } = some (Value.bool b5) ∧
∃ (n3 : Int),
w'.cell? { block := b, off := (2 : Nat) } = some (Value.int IntKind.i8 n3) ∧
∃ (b6 : Bool),
w'.cell? { block := b, off := (3 : Nat) } = some (Value.bool b6) ∧
∃ (b7 : Bool),
w'.cell? { block := b, off := (4 : Nat) } = some (Value.bool b7) ∧
∃ (g2 : GSh),
#[Value.string (ByteArray.mk #[(9 : UInt8)]), Value.int IntKind.i64 (0 : Int),
Value.agg #[Value.int IntKind.i64 n2, Value.bool b5, Value.int IntKind.i8 n3, Value.bool b6, Value.bool b7],
Value.string
(ByteArray.mk #[(32 : UInt8), (32 : UInt8), (32 : UInt8), (32 : UInt8), (32 : UInt8), (32 : UInt8), (32 : UInt8), (32 : UInt8)]),
Value.int IntKind.i64 (8 : Int)] =
#[Value.string g2.s, Value.int IntKind.i64 g2.col,
Value.agg
#[Value.int IntKind.i64 g2.l.tab, Value.bool g2.l.wide, Value.int IntKind.i8 g2.l.want, Value.bool g2.l.join,
Value.bool g2.l.raw],
Value.string g2.want, Value.int IntKind.i64 g2.wide] ∧
(U8 w' ∧ DB w' ∧ g2.s.size ≤ (67108864 : Nat)) ∧
∀ (x1 : Bool) (w'1 : World),
x1 = showsB g2.s g2.col g2.l g2.want g2.wide ∧ Ext w' w'1 →
bcase x1
(∃ (g3 : GSh),
#[Value.string (ByteArray.mk #[(9 : UInt8)]), Value.int IntKind.i64 (5 : Int),
Value.agg
#[Value.int IntKind.i64 (4 : Int), Value.bool false, Value.int IntKind.i8 (0 : Int), Value.bool false,
Value.bool false],
Value.string (ByteArray.mk #[(32 : UInt8), (32 : UInt8), (32 : UInt8)]), Value.int IntKind.i64 (3 : Int)] =
#[Value.string g3.s, Value.int IntKind.i64 g3.col,
Value.agg
#[Value.int IntKind.i64 g3.l.tab, Value.bool g3.l.wide, Value.int IntKind.i8 g3.l.want, Value.bool g3.l.join,
Value.bool g3.l.raw],
Value.string g3.want, Value.int IntKind.i64 g3.wide] ∧
(U8 w'1 ∧ DB w'1 ∧ g3.s.size ≤ (67108864 : Nat)) ∧
∀ (x2 : Bool) (w'2 : World),
x2 = showsB g3.s g3.col g3.l g3.want g3.wide ∧ Ext w'1 w'2 →
bcase x2
(∃ (g4 : GSh),
#[Value.string (ByteArray.mk #[(9 : UInt8)]), Value.int IntKind.i64 (-3 : Int),
Value.agg
#[Value.int IntKind.i64 (99 : Int), Value.bool false, Value.int IntKind.i8 (0 : Int), Value.bool false,
Value.bool false],
Value.string
(ByteArray.mk #[(32 : UInt8), (32 : UInt8), (32 : UInt8), (32 : UInt8), (32 : UInt8), (32 : UInt8), (32 : UInt8), (32 : UInt8)]),
Value.int IntKind.i64 (8 : Int)] =
#[Value.string g4.s, Value.int IntKind.i64 g4.col,
Value.agg
#[Value.int IntKind.i64 g4.l.tab, Value.bool g4.l.wide, Value.int IntKind.i8 g4.l.want, Value.bool g4.l.join,
Value.bool g4.l.raw],
Value.string g4.want, Value.int IntKind.i64 g4.wide] ∧
(U8 w'2 ∧ DB w'2 ∧ g4.s.size ≤ (67108864 : Nat)) ∧
∀ (x3 : Bool) (w'3 : World),
x3 = showsB g4.s g4.col g4.l g4.want g4.wide ∧ Ext w'2 w'3 →
bcase x3
(∃ (g5 : GSh),
#[Value.string (ByteArray.mk #[(9 : UInt8)]), Value.int IntKind.i64 (16 : Int),
Value.agg
#[Value.int IntKind.i64 (16 : Int), Value.bool false, Value.int IntKind.i8 (0 : Int), Value.bool false,
Value.bool false],
Value.string
(ByteArray.mk #[(32 : UInt8), (32 : UInt8), (32 : UInt8), (32 : UInt8), (32 : UInt8), (32 : UInt8), (32 : UInt8), (32 : UInt8),
(32 : UInt8), (32 : UInt8), (32 : UInt8), (32 : UInt8), (32 : UInt8), (32 : UInt8), (32 : UInt8), (32 : UInt8)]),
Value.int IntKind.i64 (16 : Int)] =
#[Value.string g5.s, Value.int IntKind.i64 g5.col,
Value.agg
#[Value.int IntKind.i64 g5.l.tab, Value.bool g5.l.wide, Value.int IntKind.i8 g5.l.want, Value.bool g5.l.join,
Value.bool g5.l.raw],
Value.string g5.want, Value.int IntKind.i64 g5.wide] ∧
(U8 w'3 ∧ DB w'3 ∧ g5.s.size ≤ (67108864 : Nat)) ∧
∀ (x4 : Bool) (w'4 : World),
x4 = showsB g5.s g5.col g5.l g5.want g5.wide ∧ Ext w'3 w'4 →
bcase x4
(∃ (n4 : Int),
w'4.cell? { block := b1, off := (0 : Nat) } = some (Value.int IntKind.i64 n4) ∧
∃ (b8 : Bool),
w'4.cell? { block := b1, off := (1 : Nat) } = some (Value.bool b8) ∧
∃ (n5 : Int),
w'4.cell? { block := b1, off := (2 : Nat) } = some (Value.int IntKind.i8 n5) ∧
∃ (b9 : Bool),
w'4.cell? { block := b1, off := (3 : Nat) } = some (Value.bool b9) ∧
∃ (b10 : Bool),
w'4.cell? { block := b1, off := (4 : Nat) } = some (Value.bool b10) ∧
∃ (g6 : GSh),
#[Value.string (ByteArray.mk #[(10 : UInt8)]), Value.int IntKind.i64 (0 : Int),
Value.agg #[Value.int IntKind.i64 n4, Value.bool b8, Value.int IntKind.i8 n5, Value.bool b9, Value.bool b10],
Value.string (ByteArray.mk #[]), Value.int IntKind.i64 (0 : Int)] =
#[Value.string g6.s, Value.int IntKind.i64 g6.col,
Value.agg
#[Value.int IntKind.i64 g6.l.tab, Value.bool g6.l.wide, Value.int IntKind.i8 g6.l.want, Value.bool g6.l.join,
Value.bool g6.l.raw],
Value.string g6.want, Value.int IntKind.i64 g6.wide] ∧
(U8 w'4 ∧ DB w'4 ∧ g6.s.size ≤ (67108864 : Nat)) ∧
∀ (x5 : Bool) (w'5 : World),
x5 = showsB g6.s g6.col g6.l g6.want g6.wide ∧ Ext w'4 w'5 →
bcase x5
(∃ (n6 : Int),
w'5.cell? { block := b1, off := (0 : Nat) } = some (Value.int IntKind.i64 n6) ∧
∃ (b11 : Bool),
w'5.cell? { block := b1, off := (1 : Nat) } = some (Value.bool b11) ∧
∃ (n7 : Int),
w'5.cell? { block := b1, off := (2 : Nat) } = some (Value.int IntKind.i8 n7) ∧
∃ (b12 : Bool),
w'5.cell? { block := b1, off := (3 : Nat) } = some (Value.bool b12) ∧
∃ (b13 : Bool),
w'5.cell? { block := b1, off := (4 : Nat) } = some (Value.bool b13) ∧
∃ (g7 : GSh),
#[Value.string (ByteArray.mk #[(13 : UInt8), (10 : UInt8)]), Value.int IntKind.i64 (0 : Int),
Value.agg #[Value.int IntKind.i64 n6, Value.bool b11, Value.int IntKind.i8 n7, Value.bool b12, Value.bool b13],
Value.string (ByteArray.mk #[]), Value.int IntKind.i64 (0 : Int)] =
#[Value.string g7.s, Value.int IntKind.i64 g7.col,
Value.agg
#[Value.int IntKind.i64 g7.l.tab, Value.bool g7.l.wide, Value.int IntKind.i8 g7.l.want, Value.bool g7.l.join,
Value.bool g7.l.raw],
Value.string g7.want, Value.int IntKind.i64 g7.wide] ∧
(U8 w'5 ∧ DB w'5 ∧ g7.s.size ≤ (67108864 : Nat)) ∧
∀ (x6 : Bool) (w'6 : World),
x6 = showsB g7.s g7.col g7.l g7.want g7.wide ∧ Ext w'5 w'6 →
bcase x6
(∃ (n8 : Int),
w'6.cell? { block := b, off := (0 : Nat) } = some (Value.int IntKind.i64 n8) ∧
∃ (b14 : Bool),
w'6.cell? { block := b, off := (1 : Nat) } = some (Value.bool b14) ∧
∃ (n9 : Int),
w'6.cell? { block := b, off := (2 : Nat) } = some (Value.int IntKind.i8 n9) ∧
∃ (b15 : Bool),
w'6.cell? { block := b, off := (3 : Nat) } = some (Value.bool b15) ∧
∃ (b16 : Bool),
w'6.cell? { block := b, off := (4 : Nat) } = some (Value.bool b16) ∧
∃ (g8 : GSh),
#[Value.string (ByteArray.mk #[(13 : UInt8)]), Value.int IntKind.i64 (0 : Int),
Value.agg #[Value.int IntKind.i64 n8, Value.bool b14, Value.int IntKind.i8 n9, Value.bool b15, Value.bool b16],
Value.string (ByteArray.mk #[(94 : UInt8), (77 : UInt8)]), Value.int IntKind.i64 (2 : Int)] =
#[Value.string g8.s, Value.int IntKind.i64 g8.col,
Value.agg
#[Value.int IntKind.i64 g8.l.tab, Value.bool g8.l.wide, Value.int IntKind.i8 g8.l.want, Value.bool g8.l.join,
Value.bool g8.l.raw],
Value.string g8.want, Value.int IntKind.i64 g8.wide] ∧
(U8 w'6 ∧ DB w'6 ∧ g8.s.size ≤ (67108864 : Nat)) ∧
∀ (x7 : Bool) (w'7 : World),
x7 = showsB g8.s g8.col g8.l g8.want g8.wide ∧ Ext w'6 w'7 →
bcase x7
(∃ (n10 : Int),
w'7.cell? { block := b, off := (0 : Nat) } = some (Value.int IntKind.i64 n10) ∧
∃ (b17 : Bool),
w'7.cell? { block := b, off := (1 : Nat) } = some (Value.bool b17) ∧
∃ (n11 : Int),
w'7.cell? { block := b, off := (2 : Nat) } = some (Value.int IntKind.i8 n11) ∧
∃ (b18 : Bool),
w'7.cell? { block := b, off := (3 : Nat) } = some (Value.bool b18) ∧
∃ (b19 : Bool),
w'7.cell? { block := b, off := (4 : Nat) } = some (Value.bool b19) ∧
∃ (g9 : GSh),
#[Value.string (ByteArray.mk #[(127 : UInt8)]), Value.int IntKind.i64 (0 : Int),
Value.agg #[Value.int IntKind.i64 n10, Value.bool b17, Value.int IntKind.i8 n11, Value.bool b18, Value.bool b19],
Value.string (ByteArray.mk #[(94 : UInt8), (63 : UInt8)]), Value.int IntKind.i64 (2 : Int)] =
#[Value.string g9.s, Value.int IntKind.i64 g9.col,
Value.agg
#[Value.int IntKind.i64 g9.l.tab, Value.bool g9.l.wide, Value.int IntKind.i8 g9.l.want, Value.bool g9.l.join,
Value.bool g9.l.raw],
Value.string g9.want, Value.int IntKind.i64 g9.wide] ∧
(U8 w'7 ∧ DB w'7 ∧ g9.s.size ≤ (67108864 : Nat)) ∧
∀ (x8 : Bool) (w'8 : World),
x8 = showsB g9.s g9.col g9.l g9.want g9.wide ∧ Ext w'7 w'8 →
bcase x8
(∃ (n12 : Int),
w'8.cell? { block := b, off := (0 : Nat) } = some (Value.int IntKind.i64 n12) ∧
∃ (b20 : Bool),
w'8.cell? { block := b, off := (1 : Nat) } = some (Value.bool b20) ∧
∃ (n13 : Int),
w'8.cell? { block := b, off := (2 : Nat) } = some (Value.int IntKind.i8 n13) ∧
∃ (b21 : Bool),
w'8.cell? { block := b, off := (3 : Nat) } = some (Value.bool b21) ∧
∃ (b22 : Bool),
w'8.cell? { block := b, off := (4 : Nat) } = some (Value.bool b22) ∧
∃ (g10 : GSh),
#[Value.string (ByteArray.mk #[(0 : UInt8)]), Value.int IntKind.i64 (0 : Int),
Value.agg #[Value.int IntKind.i64 n12, Value.bool b20, Value.int IntKind.i8 n13, Value.bool b21, Value.bool b22],
Value.string (ByteArray.mk #[(94 : UInt8), (64 : UInt8)]), Value.int IntKind.i64 (2 : Int)] =
#[Value.string g10.s, Value.int IntKind.i64 g10.col,
Value.agg
#[Value.int IntKind.i64 g10.l.tab, Value.bool g10.l.wide, Value.int IntKind.i8 g10.l.want, Value.bool g10.l.join,
Value.bool g10.l.raw],
Value.string g10.want, Value.int IntKind.i64 g10.wide] ∧
(U8 w'8 ∧ DB w'8 ∧ g10.s.size ≤ (67108864 : Nat)) ∧
∀ (x9 : Bool) (w'9 : World),
x9 = showsB g10.s g10.col g10.l g10.want g10.wide ∧ Ext w'8 w'9 →
bcase x9
(∃ (n14 : Int),
w'9.cell? { block := b, off := (0 : Nat) } = some (Value.int IntKind.i64 n14) ∧
∃ (b23 : Bool),
w'9.cell? { block := b, off := (1 : Nat) } = some (Value.bool b23) ∧
∃ (n15 : Int),
w'9.cell? { block := b, off := (2 : Nat) } = some (Value.int IntKind.i8 n15) ∧
∃ (b24 : Bool),
w'9.cell? { block := b, off := (3 : Nat) } = some (Value.bool b24) ∧
∃ (b25 : Bool),
w'9.cell? { block := b, off := (4 : Nat) } = some (Value.bool b25) ∧
∃ (g11 : GSh),
#[Value.string (ByteArray.mk #[]), Value.int IntKind.i64 (0 : Int),
Value.agg #[Value.int IntKind.i64 n14, Value.bool b23, Value.int IntKind.i8 n15, Value.bool b24, Value.bool b25],
Value.string (ByteArray.mk #[]), Value.int IntKind.i64 (0 : Int)] =
#[Value.string g11.s, Value.int IntKind.i64 g11.col,
Value.agg
#[Value.int IntKind.i64 g11.l.tab, Value.bool g11.l.wide, Value.int IntKind.i8 g11.l.want, Value.bool g11.l.join,
Value.bool g11.l.raw],
Value.string g11.want, Value.int IntKind.i64 g11.wide] ∧
(U8 w'9 ∧ DB w'9 ∧ g11.s.size ≤ (67108864 : Nat)) ∧
∀ (x10 : Bool) (w'10 : World),
x10 = showsB g11.s g11.col g11.l g11.want g11.wide ∧ Ext w'9 w'10 →
∃ (c : Unit), Value.bool x10 = Value.bool true ∧ Ext w11 w'10)
(∃ (c : Unit), Value.bool false = Value.bool true ∧ Ext w11 w'9))
(∃ (c : Unit), Value.bool false = Value.bool true ∧ Ext w11 w'8))
(∃ (c : Unit), Value.bool false = Value.bool true ∧ Ext w11 w'7))
(∃ (c : Unit), Value.bool false = Value.bool true ∧ Ext w11 w'6))
(∃ (c : Unit), Value.bool false = Value.bool true ∧ Ext w11 w'5))
(∃ (c : Unit), Value.bool false = Value.bool true ∧ Ext w11 w'4))
(∃ (c : Unit), Value.bool false = Value.bool true ∧ Ext w11 w'3))
(∃ (c : Unit), Value.bool false = Value.bool true ∧ Ext w11 w'2))
(∃ (c : Unit), Value.bool false = Value.bool true ∧ Ext w11 w'1))
(∃ (c : Unit), Value.bool false = Value.bool true ∧ Ext w11 w')) ∧
∀ (u : Nat → Value) (c : Unit) (w' : World),
Ext w11 w' →
(∃ (n : Int),
w'.cell? { block := b, off := (0 : Nat) } = some (Value.int IntKind.i64 n) ∧
∃ (b2 : Bool),
w'.cell? { block := b, off := (1 : Nat) } = some (Value.bool b2) ∧
∃ (n1 : Int),
w'.cell? { block := b, off := (2 : Nat) } = some (Value.int IntKind.i8 n1) ∧
∃ (b3 : Bool),
w'.cell? { block := b, off := (3 : Nat) } = some (Value.bool b3) ∧
∃ (b4 : Bool),
w'.cell? { block := b, off := (4 : Nat) } = some (Value.bool b4) ∧
∃ (g1 : GSh),
#[Value.string (ByteArray.mk #[(226 : UInt8), (128 : UInt8), (174 : UInt8)]), Value.int IntKind.i64 (0 : Int),
Value.agg #[Value.int IntKind.i64 n, Value.bool b2, Value.int IntKind.i8 n1, Value.bool b3, Value.bool b4],
Value.string (ByteArray.mk #[]), Value.int IntKind.i64 (0 : Int)] =
#[Value.string g1.s, Value.int IntKind.i64 g1.col,
Value.agg
#[Value.int IntKind.i64 g1.l.tab, Value.bool g1.l.wide, Value.int IntKind.i8 g1.l.want, Value.bool g1.l.join,
Value.bool g1.l.raw],
Value.string g1.want, Value.int IntKind.i64 g1.wide] ∧
(U8 w' ∧ DB w' ∧ g1.s.size ≤ (67108864 : Nat)) ∧
∀ (x : Bool) (w'1 : World),
x = showsB g1.s g1.col g1.l g1.want g1.wide ∧ Ext w' w'1 →
bcase x
(∃ (n2 : Int),
w'1.cell? { block := b1, off := (0 : Nat) } = some (Value.int IntKind.i64 n2) ∧
∃ (b5 : Bool),
w'1.cell? { block := b1, off := (1 : Nat) } = some (Value.bool b5) ∧
∃ (n3 : Int),
w'1.cell? { block := b1, off := (2 : Nat) } = some (Value.int IntKind.i8 n3) ∧
∃ (b6 : Bool),
w'1.cell? { block := b1, off := (3 : Nat) } = some (Value.bool b6) ∧
∃ (b7 : Bool),
w'1.cell? { block := b1, off := (4 : Nat) } = some (Value.bool b7) ∧
∃ (g2 : GSh),
#[Value.string (ByteArray.mk #[(194 : UInt8), (133 : UInt8)]), Value.int IntKind.i64 (0 : Int),
Value.agg #[Value.int IntKind.i64 n2, Value.bool b5, Value.int IntKind.i8 n3, Value.bool b6, Value.bool b7],
Value.string (ByteArray.mk #[(60 : UInt8), (48 : UInt8), (48 : UInt8), (56 : UInt8), (53 : UInt8), (62 : UInt8)]),
Value.int IntKind.i64 (6 : Int)] =
#[Value.string g2.s, Value.int IntKind.i64 g2.col,
Value.agg
#[Value.int IntKind.i64 g2.l.tab, Value.bool g2.l.wide, Value.int IntKind.i8 g2.l.want, Value.bool g2.l.join,
Value.bool g2.l.raw],
Value.string g2.want, Value.int IntKind.i64 g2.wide] ∧
(U8 w'1 ∧ DB w'1 ∧ g2.s.size ≤ (67108864 : Nat)) ∧
∀ (x1 : Bool) (w'2 : World),
x1 = showsB g2.s g2.col g2.l g2.want g2.wide ∧ Ext w'1 w'2 →
bcase x1
(∃ (n4 : Int),
w'2.cell? { block := b, off := (0 : Nat) } = some (Value.int IntKind.i64 n4) ∧
∃ (b8 : Bool),
w'2.cell? { block := b, off := (1 : Nat) } = some (Value.bool b8) ∧
∃ (n5 : Int),
w'2.cell? { block := b, off := (2 : Nat) } = some (Value.int IntKind.i8 n5) ∧
∃ (b9 : Bool),
w'2.cell? { block := b, off := (3 : Nat) } = some (Value.bool b9) ∧
∃ (b10 : Bool),
w'2.cell? { block := b, off := (4 : Nat) } = some (Value.bool b10) ∧
∃ (g3 : GSh),
#[Value.string (ByteArray.mk #[(204 : UInt8), (129 : UInt8)]), Value.int IntKind.i64 (0 : Int),
Value.agg #[Value.int IntKind.i64 n4, Value.bool b8, Value.int IntKind.i8 n5, Value.bool b9, Value.bool b10],
Value.string (ByteArray.mk #[(226 : UInt8), (151 : UInt8), (140 : UInt8), (204 : UInt8), (129 : UInt8)]),
Value.int IntKind.i64 (1 : Int)] =
#[Value.string g3.s, Value.int IntKind.i64 g3.col,
Value.agg
#[Value.int IntKind.i64 g3.l.tab, Value.bool g3.l.wide, Value.int IntKind.i8 g3.l.want, Value.bool g3.l.join,
Value.bool g3.l.raw],
Value.string g3.want, Value.int IntKind.i64 g3.wide] ∧
(U8 w'2 ∧ DB w'2 ∧ g3.s.size ≤ (67108864 : Nat)) ∧
∀ (x2 : Bool) (w'3 : World),
x2 = showsB g3.s g3.col g3.l g3.want g3.wide ∧ Ext w'2 w'3 →
bcase x2
(∃ (n6 : Int),
w'3.cell? { block := b, off := (0 : Nat) } = some (Value.int IntKind.i64 n6) ∧
∃ (b11 : Bool),
w'3.cell? { block := b, off := (1 : Nat) } = some (Value.bool b11) ∧
∃ (n7 : Int),
w'3.cell? { block := b, off := (2 : Nat) } = some (Value.int IntKind.i8 n7) ∧
∃ (b12 : Bool),
w'3.cell? { block := b, off := (3 : Nat) } = some (Value.bool b12) ∧
∃ (b13 : Bool),
w'3.cell? { block := b, off := (4 : Nat) } = some (Value.bool b13) ∧
∃ (g4 : GSh),
#[Value.string (ByteArray.mk #[(226 : UInt8), (128 : UInt8), (141 : UInt8)]), Value.int IntKind.i64 (0 : Int),
Value.agg #[Value.int IntKind.i64 n6, Value.bool b11, Value.int IntKind.i8 n7, Value.bool b12, Value.bool b13],
Value.string (ByteArray.mk #[(226 : UInt8), (151 : UInt8), (140 : UInt8), (226 : UInt8), (128 : UInt8), (141 : UInt8)]),
Value.int IntKind.i64 (1 : Int)] =
#[Value.string g4.s, Value.int IntKind.i64 g4.col,
Value.agg
#[Value.int IntKind.i64 g4.l.tab, Value.bool g4.l.wide, Value.int IntKind.i8 g4.l.want, Value.bool g4.l.join,
Value.bool g4.l.raw],
Value.string g4.want, Value.int IntKind.i64 g4.wide] ∧
(U8 w'3 ∧ DB w'3 ∧ g4.s.size ≤ (67108864 : Nat)) ∧
∀ (x3 : Bool) (w'4 : World),
x3 = showsB g4.s g4.col g4.l g4.want g4.wide ∧ Ext w'3 w'4 →
bcase x3
(∃ (n8 : Int),
w'4.cell? { block := b, off := (0 : Nat) } = some (Value.int IntKind.i64 n8) ∧
∃ (b14 : Bool),
w'4.cell? { block := b, off := (1 : Nat) } = some (Value.bool b14) ∧
∃ (n9 : Int),
w'4.cell? { block := b, off := (2 : Nat) } = some (Value.int IntKind.i8 n9) ∧
∃ (b15 : Bool),
w'4.cell? { block := b, off := (3 : Nat) } = some (Value.bool b15) ∧
∃ (b16 : Bool),
w'4.cell? { block := b, off := (4 : Nat) } = some (Value.bool b16) ∧
∃ (g5 : GSh),
#[Value.string
(ByteArray.mk #[(240 : UInt8), (159 : UInt8), (135 : UInt8), (166 : UInt8), (240 : UInt8), (159 : UInt8), (135 : UInt8),
(167 : UInt8)]),
Value.int IntKind.i64 (0 : Int),
Value.agg #[Value.int IntKind.i64 n8, Value.bool b14, Value.int IntKind.i8 n9, Value.bool b15, Value.bool b16],
Value.string
(ByteArray.mk #[(240 : UInt8), (159 : UInt8), (135 : UInt8), (166 : UInt8), (240 : UInt8), (159 : UInt8), (135 : UInt8),
(167 : UInt8)]),
Value.int IntKind.i64 (2 : Int)] =
#[Value.string g5.s, Value.int IntKind.i64 g5.col,
Value.agg
#[Value.int IntKind.i64 g5.l.tab, Value.bool g5.l.wide, Value.int IntKind.i8 g5.l.want, Value.bool g5.l.join,
Value.bool g5.l.raw],
Value.string g5.want, Value.int IntKind.i64 g5.wide] ∧
(U8 w'4 ∧ DB w'4 ∧ g5.s.size ≤ (67108864 : Nat)) ∧
∀ (x4 : Bool) (w'5 : World),
x4 = showsB g5.s g5.col g5.l g5.want g5.wide ∧ Ext w'4 w'5 →
bcase x4
(∃ (n10 : Int),
w'5.cell? { block := b1, off := (0 : Nat) } = some (Value.int IntKind.i64 n10) ∧
∃ (b17 : Bool),
w'5.cell? { block := b1, off := (1 : Nat) } = some (Value.bool b17) ∧
∃ (n11 : Int),
w'5.cell? { block := b1, off := (2 : Nat) } = some (Value.int IntKind.i8 n11) ∧
∃ (b18 : Bool),
w'5.cell? { block := b1, off := (3 : Nat) } = some (Value.bool b18) ∧
∃ (b19 : Bool),
w'5.cell? { block := b1, off := (4 : Nat) } = some (Value.bool b19) ∧
∃ (g6 : GSh),
#[Value.string (ByteArray.mk #[(226 : UInt8), (128 : UInt8), (168 : UInt8)]), Value.int IntKind.i64 (0 : Int),
Value.agg #[Value.int IntKind.i64 n10, Value.bool b17, Value.int IntKind.i8 n11, Value.bool b18, Value.bool b19],
Value.string (ByteArray.mk #[(60 : UInt8), (50 : UInt8), (48 : UInt8), (50 : UInt8), (56 : UInt8), (62 : UInt8)]),
Value.int IntKind.i64 (6 : Int)] =
#[Value.string g6.s, Value.int IntKind.i64 g6.col,
Value.agg
#[Value.int IntKind.i64 g6.l.tab, Value.bool g6.l.wide, Value.int IntKind.i8 g6.l.want, Value.bool g6.l.join,
Value.bool g6.l.raw],
Value.string g6.want, Value.int IntKind.i64 g6.wide] ∧
(U8 w'5 ∧ DB w'5 ∧ g6.s.size ≤ (67108864 : Nat)) ∧
∀ (x5 : Bool) (w'6 : World),
x5 = showsB g6.s g6.col g6.l g6.want g6.wide ∧ Ext w'5 w'6 →
∃ (c1 : Unit), Value.bool x5 = Value.bool true ∧ Ext w' w'6)
(∃ (c1 : Unit), Value.bool false = Value.bool true ∧ Ext w' w'5))
(∃ (c1 : Unit), Value.bool false = Value.bool true ∧ Ext w' w'4))
(∃ (c1 : Unit), Value.bool false = Value.bool true ∧ Ext w' w'3))
(∃ (c1 : Unit), Value.bool false = Value.bool true ∧ Ext w' w'2))
(∃ (c1 : Unit), Value.bool false = Value.bool true ∧ Ext w' w'1)) ∧
∀ (u1 : Nat → Value) (c1 : Unit) (w'1 : World),
Ext w' w'1 →
(∃ (n : Int),
w'1.cell? { block := b, off := (0 : Nat) } = some (Value.int IntKind.i64 n) ∧
∃ (b2 : Bool),
w'1.cell? { block := b, off := (1 : Nat) } = some (Value.bool b2) ∧
∃ (n1 : Int),
w'1.cell? { block := b, off := (2 : Nat) } = some (Value.int IntKind.i8 n1) ∧
∃ (b3 : Bool),
w'1.cell? { block := b, off := (3 : Nat) } = some (Value.bool b3) ∧
∃ (b4 : Bool),
w'1.cell? { block := b, off := (4 : Nat) } = some (Value.bool b4) ∧
∃ (g1 : GT6),
#[Value.string (ByteArray.mk #[(9 : UInt8), (98 : UInt8)]), Value.int IntKind.i64 (1 : Int),
Value.agg #[Value.int IntKind.i64 n, Value.bool b2, Value.int IntKind.i8 n1, Value.bool b3, Value.bool b4]] =
#[Value.string g1.s, Value.int IntKind.i64 g1.col,
Value.agg
#[Value.int IntKind.i64 g1.l.tab, Value.bool g1.l.wide, Value.int IntKind.i8 g1.l.want, Value.bool g1.l.join,
Value.bool g1.l.raw]] ∧
(U8 w'1 ∧ DB w'1 ∧ g1.s.size ≤ (67108864 : Nat)) ∧
∀ (x : Nat) (w'2 : World),
x = wideS g1.s g1.col g1.l ∧ Ext w'1 w'2 →
bcase ((↑x : Int) == (8 : Int))
(∃ (n2 : Int),
w'2.cell? { block := b, off := (0 : Nat) } = some (Value.int IntKind.i64 n2) ∧
∃ (b5 : Bool),
w'2.cell? { block := b, off := (1 : Nat) } = some (Value.bool b5) ∧
∃ (n3 : Int),
w'2.cell? { block := b, off := (2 : Nat) } = some (Value.int IntKind.i8 n3) ∧
∃ (b6 : Bool),
w'2.cell? { block := b, off := (3 : Nat) } = some (Value.bool b6) ∧
∃ (b7 : Bool),
w'2.cell? { block := b, off := (4 : Nat) } = some (Value.bool b7) ∧
∃ (g2 : GT6),
#[Value.string (ByteArray.mk #[(228 : UInt8), (184 : UInt8), (150 : UInt8), (97 : UInt8)]),
Value.int IntKind.i64 (4611686018427387904 : Int),
Value.agg #[Value.int IntKind.i64 n2, Value.bool b5, Value.int IntKind.i8 n3, Value.bool b6, Value.bool b7]] =
#[Value.string g2.s, Value.int IntKind.i64 g2.col,
Value.agg
#[Value.int IntKind.i64 g2.l.tab, Value.bool g2.l.wide, Value.int IntKind.i8 g2.l.want, Value.bool g2.l.join,
Value.bool g2.l.raw]] ∧
(U8 w'2 ∧ DB w'2 ∧ g2.s.size ≤ (67108864 : Nat)) ∧
∀ (x1 : Nat) (w'3 : World),
x1 = wideS g2.s g2.col g2.l ∧ Ext w'2 w'3 →
bcase ((↑x1 : Int) == (3 : Int))
(∃ (n4 : Int),
w'3.cell? { block := b, off := (0 : Nat) } = some (Value.int IntKind.i64 n4) ∧
∃ (b8 : Bool),
w'3.cell? { block := b, off := (1 : Nat) } = some (Value.bool b8) ∧
∃ (n5 : Int),
w'3.cell? { block := b, off := (2 : Nat) } = some (Value.int IntKind.i8 n5) ∧
∃ (b9 : Bool),
w'3.cell? { block := b, off := (3 : Nat) } = some (Value.bool b9) ∧
∃ (b10 : Bool),
w'3.cell? { block := b, off := (4 : Nat) } = some (Value.bool b10) ∧
∃ (g3 : GT6),
#[Value.string (ByteArray.mk #[(97 : UInt8), (204 : UInt8), (129 : UInt8)]), Value.int IntKind.i64 (1 : Int),
Value.agg #[Value.int IntKind.i64 n4, Value.bool b8, Value.int IntKind.i8 n5, Value.bool b9, Value.bool b10]] =
#[Value.string g3.s, Value.int IntKind.i64 g3.col,
Value.agg
#[Value.int IntKind.i64 g3.l.tab, Value.bool g3.l.wide, Value.int IntKind.i8 g3.l.want, Value.bool g3.l.join,
Value.bool g3.l.raw]] ∧
(U8 w'3 ∧ DB w'3 ∧ g3.s.size ≤ (67108864 : Nat)) ∧
∀ (x2 : Nat) (w'4 : World),
x2 = cutP g3.s g3.col g3.l ∧ Ext w'3 w'4 →
bcase ((↑x2 : Int) == (3 : Int))
(∃ (n6 : Int),
w'4.cell? { block := b, off := (0 : Nat) } = some (Value.int IntKind.i64 n6) ∧
∃ (b11 : Bool),
w'4.cell? { block := b, off := (1 : Nat) } = some (Value.bool b11) ∧
∃ (n7 : Int),
w'4.cell? { block := b, off := (2 : Nat) } = some (Value.int IntKind.i8 n7) ∧
∃ (b12 : Bool),
w'4.cell? { block := b, off := (3 : Nat) } = some (Value.bool b12) ∧
∃ (b13 : Bool),
w'4.cell? { block := b, off := (4 : Nat) } = some (Value.bool b13) ∧
∃ (g4 : GT6),
#[Value.string (ByteArray.mk #[(97 : UInt8)]), Value.int IntKind.i64 (-1 : Int),
Value.agg #[Value.int IntKind.i64 n6, Value.bool b11, Value.int IntKind.i8 n7, Value.bool b12, Value.bool b13]] =
#[Value.string g4.s, Value.int IntKind.i64 g4.col,
Value.agg
#[Value.int IntKind.i64 g4.l.tab, Value.bool g4.l.wide, Value.int IntKind.i8 g4.l.want, Value.bool g4.l.join,
Value.bool g4.l.raw]] ∧
(U8 w'4 ∧ DB w'4 ∧ g4.s.size ≤ (67108864 : Nat)) ∧
∀ (x3 : Nat) (w'5 : World),
x3 = cutP g4.s g4.col g4.l ∧ Ext w'4 w'5 →
bcase ((↑x3 : Int) == (0 : Int))
(∃ (n8 : Int),
w'5.cell? { block := b, off := (0 : Nat) } = some (Value.int IntKind.i64 n8) ∧
∃ (b14 : Bool),
w'5.cell? { block := b, off := (1 : Nat) } = some (Value.bool b14) ∧
∃ (n9 : Int),
w'5.cell? { block := b, off := (2 : Nat) } = some (Value.int IntKind.i8 n9) ∧
∃ (b15 : Bool),
w'5.cell? { block := b, off := (3 : Nat) } = some (Value.bool b15) ∧
∃ (b16 : Bool),
w'5.cell? { block := b, off := (4 : Nat) } = some (Value.bool b16) ∧
∃ (g5 : GT6),
#[Value.string (ByteArray.mk #[(226 : UInt8), (128 : UInt8), (174 : UInt8), (97 : UInt8)]),
Value.int IntKind.i64 (0 : Int),
Value.agg #[Value.int IntKind.i64 n8, Value.bool b14, Value.int IntKind.i8 n9, Value.bool b15, Value.bool b16]] =
#[Value.string g5.s, Value.int IntKind.i64 g5.col,
Value.agg
#[Value.int IntKind.i64 g5.l.tab, Value.bool g5.l.wide, Value.int IntKind.i8 g5.l.want, Value.bool g5.l.join,
Value.bool g5.l.raw]] ∧
(U8 w'5 ∧ DB w'5 ∧ g5.s.size ≤ (67108864 : Nat)) ∧
∀ (x4 : Nat) (w'6 : World),
x4 = cutP g5.s g5.col g5.l ∧ Ext w'5 w'6 →
bcase ((↑x4 : Int) == (3 : Int))
(∃ (g6 : ByteArray),
#[Value.string
(ByteArray.mk #[(97 : UInt8), (10 : UInt8), (9 : UInt8), (128 : UInt8), (226 : UInt8), (128 : UInt8), (174 : UInt8), (13 : UInt8),
(10 : UInt8)])] =
#[Value.string g6] ∧
(U8 w'6 ∧ DB w'6 ∧ g6.size ≤ (67108864 : Nat)) ∧
∀ (x5 : ByteArray) (w'7 : World),
x5 = plainS g6 ∧ Ext w'6 w'7 →
∃ (c2 : Unit),
Value.bool
(x5.toList ==
(ByteArray.mk #[(97 : UInt8), (94 : UInt8), (74 : UInt8), (94 : UInt8), (73 : UInt8), (60 : UInt8), (56 : UInt8), (48 : UInt8),
(62 : UInt8), (60 : UInt8), (50 : UInt8), (48 : UInt8), (50 : UInt8), (101 : UInt8), (62 : UInt8), (94 : UInt8),
(77 : UInt8), (94 : UInt8), (74 : UInt8)]).toList) =
Value.bool true ∧
Ext w'1 w'7)
(∃ (c2 : Unit), Value.bool false = Value.bool true ∧ Ext w'1 w'6))
(∃ (c2 : Unit), Value.bool false = Value.bool true ∧ Ext w'1 w'5))
(∃ (c2 : Unit), Value.bool false = Value.bool true ∧ Ext w'1 w'4))
(∃ (c2 : Unit), Value.bool false = Value.bool true ∧ Ext w'1 w'3))
(∃ (c2 : Unit), Value.bool false = Value.bool true ∧ Ext w'1 w'2)) ∧
∀ (u2 : Nat → Value) (c2 : Unit) (w'2 : World),
Ext w'1 w'2 →
(∃ (x : Nat × Option Addr × Nat),
Value.int IntKind.i64 (0 : Int) = Value.int IntKind.i64 (↑x.fst : Int) ∧
Value.slice none (0 : Nat) (0 : Nat) = Value.slice x.snd.fst ((2 : Nat) * x.fst) x.snd.snd ∧
x.fst ≤ (32 : Nat) ∧ Made w'2 w'2 (5 : TypeId) (1 : Nat) x.snd.fst ((2 : Nat) * x.fst) (u8L (mkL x.fst)) x.snd.snd) ∧
∀ (u3 : Nat → Value) (x : Nat × Option Addr × Nat) (w'3 : World),
x.fst ≤ (32 : Nat) ∧ Made w'2 w'3 (5 : TypeId) (1 : Nat) x.snd.fst ((2 : Nat) * x.fst) (u8L (mkL x.fst)) x.snd.snd →
bcase (decide ((↑x.fst : Int) < (32 : Int)))
(∃ (a' : Option Addr),
∃ (c' : Nat),
∃ (w'4 : World),
AppRun Tryd.prog #[(64 : Nat), (9 : Nat)] (64 : Nat) (Value.slice x.snd.fst ((2 : Nat) * x.fst) x.snd.snd)
(Value.string (ByteArray.mk #[(204 : UInt8), (129 : UInt8)])) w'3 a'
((2 : Nat) * x.fst + (ByteArray.mk #[(204 : UInt8), (129 : UInt8)]).size) c' w'4 ∧
KO w'3 w'4 ∧
InR IntKind.i64 ((↑x.fst : Int) + (1 : Int)) ∧
∃ (y : Nat × Option Addr × Nat),
Value.int IntKind.i64 ((↑x.fst : Int) + (1 : Int)) = Value.int IntKind.i64 (↑y.fst : Int) ∧
Value.slice a' ((2 : Nat) * x.fst + (ByteArray.mk #[(204 : UInt8), (129 : UInt8)]).size) c' =
Value.slice y.snd.fst ((2 : Nat) * y.fst) y.snd.snd ∧
(y.fst ≤ (32 : Nat) ∧ Made w'2 w'4 (5 : TypeId) (1 : Nat) y.snd.fst ((2 : Nat) * y.fst) (u8L (mkL y.fst)) y.snd.snd) ∧
(32 : Nat) - y.fst < (32 : Nat) - x.fst)
((∀ (w12 : World),
Drew w'3 w12 →
∃ (n : Int),
w'3.cell? { block := b, off := (0 : Nat) } = some (Value.int IntKind.i64 n) ∧
∃ (b2 : Bool),
w'3.cell? { block := b, off := (1 : Nat) } = some (Value.bool b2) ∧
∃ (n1 : Int),
w'3.cell? { block := b, off := (2 : Nat) } = some (Value.int IntKind.i8 n1) ∧
∃ (b3 : Bool),
w'3.cell? { block := b, off := (3 : Nat) } = some (Value.bool b3) ∧
∃ (b4 : Bool),
w'3.cell? { block := b, off := (4 : Nat) } = some (Value.bool b4) ∧
∃ (hn : Nat),
(62 : Int) = (↑hn : Int) ∧
hn ≤ x.snd.snd ∧
(∃ (str : ByteArray),
BytesIn w12 x.snd.fst ((2 : Nat) * x.fst) str ∧
Below w12.heap.size w12 w12 ∧
∃ (str1 : ByteArray),
BytesIn w12 x.snd.fst hn str1 ∧
Below w12.heap.size w12 w12 ∧
(ByteArray.mk #[(226 : UInt8), (151 : UInt8), (140 : UInt8)]).size + str1.size ≤ (9223372036854775807 : Nat) ∧
∃ (g1 : GSh),
#[Value.string str, Value.int IntKind.i64 (0 : Int),
Value.agg #[Value.int IntKind.i64 n, Value.bool b2, Value.int IntKind.i8 n1, Value.bool b3, Value.bool b4],
Value.string ((ByteArray.mk #[(226 : UInt8), (151 : UInt8), (140 : UInt8)]) ++ str1), Value.int IntKind.i64 (1 : Int)] =
#[Value.string g1.s, Value.int IntKind.i64 g1.col,
Value.agg
#[Value.int IntKind.i64 g1.l.tab, Value.bool g1.l.wide, Value.int IntKind.i8 g1.l.want, Value.bool g1.l.join,
Value.bool g1.l.raw],
Value.string g1.want, Value.int IntKind.i64 g1.wide] ∧
(U8 w12 ∧ DB w12 ∧ g1.s.size ≤ (67108864 : Nat)) ∧
∀ (x1 : Bool) (w'4 : World),
x1 = showsB g1.s g1.col g1.l g1.want g1.wide ∧ Ext w12 w'4 →
bcase x1
(∃ (hn1 : Nat),
(62 : Int) = (↑hn1 : Int) ∧
hn1 ≤ x.snd.snd ∧
∃ (n2 : Int),
w'4.cell? { block := b, off := (0 : Nat) } = some (Value.int IntKind.i64 n2) ∧
∃ (b5 : Bool),
w'4.cell? { block := b, off := (1 : Nat) } = some (Value.bool b5) ∧
∃ (n3 : Int),
w'4.cell? { block := b, off := (2 : Nat) } = some (Value.int IntKind.i8 n3) ∧
∃ (b6 : Bool),
w'4.cell? { block := b, off := (3 : Nat) } = some (Value.bool b6) ∧
∃ (b7 : Bool),
w'4.cell? { block := b, off := (4 : Nat) } = some (Value.bool b7) ∧
∃ (hn2 : Nat),
(62 : Int) = (↑hn2 : Int) ∧
hn2 ≤ x.snd.snd ∧
(∃ (str2 : ByteArray),
BytesIn w'4 x.snd.fst hn1 str2 ∧
Below w'4.heap.size w'4 w'4 ∧
∃ (str3 : ByteArray),
BytesIn w'4 x.snd.fst hn2 str3 ∧
Below w'4.heap.size w'4 w'4 ∧
(ByteArray.mk #[(226 : UInt8), (151 : UInt8), (140 : UInt8)]).size + str3.size ≤ (9223372036854775807 : Nat) ∧
∃ (g2 : GSh),
#[Value.string str2, Value.int IntKind.i64 (0 : Int),
Value.agg #[Value.int IntKind.i64 n2, Value.bool b5, Value.int IntKind.i8 n3, Value.bool b6, Value.bool b7],
Value.string ((ByteArray.mk #[(226 : UInt8), (151 : UInt8), (140 : UInt8)]) ++ str3), Value.int IntKind.i64 (1 : Int)] =
#[Value.string g2.s, Value.int IntKind.i64 g2.col,
Value.agg
#[Value.int IntKind.i64 g2.l.tab, Value.bool g2.l.wide, Value.int IntKind.i8 g2.l.want, Value.bool g2.l.join,
Value.bool g2.l.raw],
Value.string g2.want, Value.int IntKind.i64 g2.wide] ∧
(U8 w'4 ∧ DB w'4 ∧ g2.s.size ≤ (67108864 : Nat)) ∧
∀ (x2 : Bool) (w'5 : World),
x2 = showsB g2.s g2.col g2.l g2.want g2.wide ∧ Ext w'4 w'5 →
bcase x2
(∃ (n4 : Int),
w'5.cell? { block := b, off := (0 : Nat) } = some (Value.int IntKind.i64 n4) ∧
∃ (b8 : Bool),
w'5.cell? { block := b, off := (1 : Nat) } = some (Value.bool b8) ∧
∃ (n5 : Int),
w'5.cell? { block := b, off := (2 : Nat) } = some (Value.int IntKind.i8 n5) ∧
∃ (b9 : Bool),
w'5.cell? { block := b, off := (3 : Nat) } = some (Value.bool b9) ∧
∃ (b10 : Bool),
w'5.cell? { block := b, off := (4 : Nat) } = some (Value.bool b10) ∧
∃ (g3 : GSh),
#[Value.string (ByteArray.mk #[(194 : UInt8), (169 : UInt8), (239 : UInt8), (184 : UInt8), (143 : UInt8)]),
Value.int IntKind.i64 (0 : Int),
Value.agg #[Value.int IntKind.i64 n4, Value.bool b8, Value.int IntKind.i8 n5, Value.bool b9, Value.bool b10],
Value.string (ByteArray.mk #[(194 : UInt8), (169 : UInt8), (239 : UInt8), (184 : UInt8), (143 : UInt8)]),
Value.int IntKind.i64 (2 : Int)] =
#[Value.string g3.s, Value.int IntKind.i64 g3.col,
Value.agg
#[Value.int IntKind.i64 g3.l.tab, Value.bool g3.l.wide, Value.int IntKind.i8 g3.l.want, Value.bool g3.l.join,
Value.bool g3.l.raw],
Value.string g3.want, Value.int IntKind.i64 g3.wide] ∧
(U8 w'5 ∧ DB w'5 ∧ g3.s.size ≤ (67108864 : Nat)) ∧
∀ (x3 : Bool) (w'6 : World),
x3 = showsB g3.s g3.col g3.l g3.want g3.wide ∧ Ext w'5 w'6 →
bcase x3
(∃ (n6 : Int),
w'6.cell? { block := b1, off := (0 : Nat) } = some (Value.int IntKind.i64 n6) ∧
∃ (b11 : Bool),
w'6.cell? { block := b1, off := (1 : Nat) } = some (Value.bool b11) ∧
∃ (n7 : Int),
w'6.cell? { block := b1, off := (2 : Nat) } = some (Value.int IntKind.i8 n7) ∧
∃ (b12 : Bool),
w'6.cell? { block := b1, off := (3 : Nat) } = some (Value.bool b12) ∧
∃ (b13 : Bool),
w'6.cell? { block := b1, off := (4 : Nat) } = some (Value.bool b13) ∧
∃ (g4 : GSh),
#[Value.string (ByteArray.mk #[(225 : UInt8), (133 : UInt8), (161 : UInt8)]), Value.int IntKind.i64 (0 : Int),
Value.agg #[Value.int IntKind.i64 n6, Value.bool b11, Value.int IntKind.i8 n7, Value.bool b12, Value.bool b13],
Value.string (ByteArray.mk #[]), Value.int IntKind.i64 (0 : Int)] =
#[Value.string g4.s, Value.int IntKind.i64 g4.col,
Value.agg
#[Value.int IntKind.i64 g4.l.tab, Value.bool g4.l.wide, Value.int IntKind.i8 g4.l.want, Value.bool g4.l.join,
Value.bool g4.l.raw],
Value.string g4.want, Value.int IntKind.i64 g4.wide] ∧
(U8 w'6 ∧ DB w'6 ∧ g4.s.size ≤ (67108864 : Nat)) ∧
∀ (x4 : Bool) (w'7 : World),
x4 = showsB g4.s g4.col g4.l g4.want g4.wide ∧ Ext w'6 w'7 →
bcase x4
(∃ (g5 : GSh),
#[Value.string (ByteArray.mk #[(194 : UInt8), (161 : UInt8)]), Value.int IntKind.i64 (0 : Int),
Value.agg
#[Value.int IntKind.i64 (0 : Int), Value.bool true, Value.int IntKind.i8 (0 : Int), Value.bool false, Value.bool false],
Value.string (ByteArray.mk #[(194 : UInt8), (161 : UInt8)]), Value.int IntKind.i64 (2 : Int)] =
#[Value.string g5.s, Value.int IntKind.i64 g5.col,
Value.agg
#[Value.int IntKind.i64 g5.l.tab, Value.bool g5.l.wide, Value.int IntKind.i8 g5.l.want, Value.bool g5.l.join,
Value.bool g5.l.raw],
Value.string g5.want, Value.int IntKind.i64 g5.wide] ∧
(U8 w'7 ∧ DB w'7 ∧ g5.s.size ≤ (67108864 : Nat)) ∧
∀ (x5 : Bool) (w'8 : World),
x5 = showsB g5.s g5.col g5.l g5.want g5.wide ∧ Ext w'7 w'8 →
bcase x5
(∃ (n8 : Int),
w'8.cell? { block := b1, off := (0 : Nat) } = some (Value.int IntKind.i64 n8) ∧
∃ (b14 : Bool),
w'8.cell? { block := b1, off := (1 : Nat) } = some (Value.bool b14) ∧
∃ (n9 : Int),
w'8.cell? { block := b1, off := (2 : Nat) } = some (Value.int IntKind.i8 n9) ∧
∃ (b15 : Bool),
w'8.cell? { block := b1, off := (3 : Nat) } = some (Value.bool b15) ∧
∃ (b16 : Bool),
w'8.cell? { block := b1, off := (4 : Nat) } = some (Value.bool b16) ∧
∃ (g6 : GSh),
#[Value.string (ByteArray.mk #[(239 : UInt8), (187 : UInt8), (191 : UInt8)]), Value.int IntKind.i64 (0 : Int),
Value.agg #[Value.int IntKind.i64 n8, Value.bool b14, Value.int IntKind.i8 n9, Value.bool b15, Value.bool b16],
Value.string (ByteArray.mk #[(60 : UInt8), (102 : UInt8), (101 : UInt8), (102 : UInt8), (102 : UInt8), (62 : UInt8)]),
Value.int IntKind.i64 (6 : Int)] =
#[Value.string g6.s, Value.int IntKind.i64 g6.col,
Value.agg
#[Value.int IntKind.i64 g6.l.tab, Value.bool g6.l.wide, Value.int IntKind.i8 g6.l.want, Value.bool g6.l.join,
Value.bool g6.l.raw],
Value.string g6.want, Value.int IntKind.i64 g6.wide] ∧
(U8 w'8 ∧ DB w'8 ∧ g6.s.size ≤ (67108864 : Nat)) ∧
∀ (x6 : Bool) (w'9 : World),
x6 = showsB g6.s g6.col g6.l g6.want g6.wide ∧ Ext w'8 w'9 →
∃ (c3 : Unit), Value.bool x6 = Value.bool true ∧ Ext w'3 w'9)
(∃ (c3 : Unit), Value.bool false = Value.bool true ∧ Ext w'3 w'8))
(∃ (c3 : Unit), Value.bool false = Value.bool true ∧ Ext w'3 w'7))
(∃ (c3 : Unit), Value.bool false = Value.bool true ∧ Ext w'3 w'6))
(∃ (c3 : Unit), Value.bool false = Value.bool true ∧ Ext w'3 w'5)) ∧
∃ (str2 : ByteArray),
BytesIn w'4 x.snd.fst hn2 str2 ∧
Below w'4.heap.size w'4 w'4 ∧
(ByteArray.mk #[(226 : UInt8), (151 : UInt8), (140 : UInt8)]).size + str2.size ≤ (9223372036854775807 : Nat) ∧
∃ (str3 : ByteArray),
BytesIn w'4 x.snd.fst hn1 str3 ∧
Below w'4.heap.size w'4 w'4 ∧
∃ (g2 : GSh),
#[Value.string str3, Value.int IntKind.i64 (0 : Int),
Value.agg #[Value.int IntKind.i64 n2, Value.bool b5, Value.int IntKind.i8 n3, Value.bool b6, Value.bool b7],
Value.string ((ByteArray.mk #[(226 : UInt8), (151 : UInt8), (140 : UInt8)]) ++ str2), Value.int IntKind.i64 (1 : Int)] =
#[Value.string g2.s, Value.int IntKind.i64 g2.col,
Value.agg
#[Value.int IntKind.i64 g2.l.tab, Value.bool g2.l.wide, Value.int IntKind.i8 g2.l.want, Value.bool g2.l.join,
Value.bool g2.l.raw],
Value.string g2.want, Value.int IntKind.i64 g2.wide] ∧
(U8 w'4 ∧ DB w'4 ∧ g2.s.size ≤ (67108864 : Nat)) ∧
∀ (x2 : Bool) (w'5 : World),
x2 = showsB g2.s g2.col g2.l g2.want g2.wide ∧ Ext w'4 w'5 →
bcase x2
(∃ (n4 : Int),
w'5.cell? { block := b, off := (0 : Nat) } = some (Value.int IntKind.i64 n4) ∧
∃ (b8 : Bool),
w'5.cell? { block := b, off := (1 : Nat) } = some (Value.bool b8) ∧
∃ (n5 : Int),
w'5.cell? { block := b, off := (2 : Nat) } = some (Value.int IntKind.i8 n5) ∧
∃ (b9 : Bool),
w'5.cell? { block := b, off := (3 : Nat) } = some (Value.bool b9) ∧
∃ (b10 : Bool),
w'5.cell? { block := b, off := (4 : Nat) } = some (Value.bool b10) ∧
∃ (g3 : GSh),
#[Value.string (ByteArray.mk #[(194 : UInt8), (169 : UInt8), (239 : UInt8), (184 : UInt8), (143 : UInt8)]),
Value.int IntKind.i64 (0 : Int),
Value.agg #[Value.int IntKind.i64 n4, Value.bool b8, Value.int IntKind.i8 n5, Value.bool b9, Value.bool b10],
Value.string (ByteArray.mk #[(194 : UInt8), (169 : UInt8), (239 : UInt8), (184 : UInt8), (143 : UInt8)]),
Value.int IntKind.i64 (2 : Int)] =
#[Value.string g3.s, Value.int IntKind.i64 g3.col,
Value.agg
#[Value.int IntKind.i64 g3.l.tab, Value.bool g3.l.wide, Value.int IntKind.i8 g3.l.want, Value.bool g3.l.join,
Value.bool g3.l.raw],
Value.string g3.want, Value.int IntKind.i64 g3.wide] ∧
(U8 w'5 ∧ DB w'5 ∧ g3.s.size ≤ (67108864 : Nat)) ∧
∀ (x3 : Bool) (w'6 : World),
x3 = showsB g3.s g3.col g3.l g3.want g3.wide ∧ Ext w'5 w'6 →
bcase x3
(∃ (n6 : Int),
w'6.cell? { block := b1, off := (0 : Nat) } = some (Value.int IntKind.i64 n6) ∧
∃ (b11 : Bool),
w'6.cell? { block := b1, off := (1 : Nat) } = some (Value.bool b11) ∧
∃ (n7 : Int),
w'6.cell? { block := b1, off := (2 : Nat) } = some (Value.int IntKind.i8 n7) ∧
∃ (b12 : Bool),
w'6.cell? { block := b1, off := (3 : Nat) } = some (Value.bool b12) ∧
∃ (b13 : Bool),
w'6.cell? { block := b1, off := (4 : Nat) } = some (Value.bool b13) ∧
∃ (g4 : GSh),
#[Value.string (ByteArray.mk #[(225 : UInt8), (133 : UInt8), (161 : UInt8)]), Value.int IntKind.i64 (0 : Int),
Value.agg #[Value.int IntKind.i64 n6, Value.bool b11, Value.int IntKind.i8 n7, Value.bool b12, Value.bool b13],
Value.string (ByteArray.mk #[]), Value.int IntKind.i64 (0 : Int)] =
#[Value.string g4.s, Value.int IntKind.i64 g4.col,
Value.agg
#[Value.int IntKind.i64 g4.l.tab, Value.bool g4.l.wide, Value.int IntKind.i8 g4.l.want, Value.bool g4.l.join,
Value.bool g4.l.raw],
Value.string g4.want, Value.int IntKind.i64 g4.wide] ∧
(U8 w'6 ∧ DB w'6 ∧ g4.s.size ≤ (67108864 : Nat)) ∧
∀ (x4 : Bool) (w'7 : World),
x4 = showsB g4.s g4.col g4.l g4.want g4.wide ∧ Ext w'6 w'7 →
bcase x4
(∃ (g5 : GSh),
#[Value.string (ByteArray.mk #[(194 : UInt8), (161 : UInt8)]), Value.int IntKind.i64 (0 : Int),
Value.agg
#[Value.int IntKind.i64 (0 : Int), Value.bool true, Value.int IntKind.i8 (0 : Int), Value.bool false, Value.bool false],
Value.string (ByteArray.mk #[(194 : UInt8), (161 : UInt8)]), Value.int IntKind.i64 (2 : Int)] =
#[Value.string g5.s, Value.int IntKind.i64 g5.col,
Value.agg
#[Value.int IntKind.i64 g5.l.tab, Value.bool g5.l.wide, Value.int IntKind.i8 g5.l.want, Value.bool g5.l.join,
Value.bool g5.l.raw],
Value.string g5.want, Value.int IntKind.i64 g5.wide] ∧
(U8 w'7 ∧ DB w'7 ∧ g5.s.size ≤ (67108864 : Nat)) ∧
∀ (x5 : Bool) (w'8 : World),
x5 = showsB g5.s g5.col g5.l g5.want g5.wide ∧ Ext w'7 w'8 →
bcase x5
(∃ (n8 : Int),
w'8.cell? { block := b1, off := (0 : Nat) } = some (Value.int IntKind.i64 n8) ∧
∃ (b14 : Bool),
w'8.cell? { block := b1, off := (1 : Nat) } = some (Value.bool b14) ∧
∃ (n9 : Int),
w'8.cell? { block := b1, off := (2 : Nat) } = some (Value.int IntKind.i8 n9) ∧
∃ (b15 : Bool),
w'8.cell? { block := b1, off := (3 : Nat) } = some (Value.bool b15) ∧
∃ (b16 : Bool),
w'8.cell? { block := b1, off := (4 : Nat) } = some (Value.bool b16) ∧
∃ (g6 : GSh),
#[Value.string (ByteArray.mk #[(239 : UInt8), (187 : UInt8), (191 : UInt8)]), Value.int IntKind.i64 (0 : Int),
Value.agg #[Value.int IntKind.i64 n8, Value.bool b14, Value.int IntKind.i8 n9, Value.bool b15, Value.bool b16],
Value.string (ByteArray.mk #[(60 : UInt8), (102 : UInt8), (101 : UInt8), (102 : UInt8), (102 : UInt8), (62 : UInt8)]),
Value.int IntKind.i64 (6 : Int)] =
#[Value.string g6.s, Value.int IntKind.i64 g6.col,
Value.agg
#[Value.int IntKind.i64 g6.l.tab, Value.bool g6.l.wide, Value.int IntKind.i8 g6.l.want, Value.bool g6.l.join,
Value.bool g6.l.raw],
Value.string g6.want, Value.int IntKind.i64 g6.wide] ∧
(U8 w'8 ∧ DB w'8 ∧ g6.s.size ≤ (67108864 : Nat)) ∧
∀ (x6 : Bool) (w'9 : World),
x6 = showsB g6.s g6.col g6.l g6.want g6.wide ∧ Ext w'8 w'9 →
∃ (c3 : Unit), Value.bool x6 = Value.bool true ∧ Ext w'3 w'9)
(∃ (c3 : Unit), Value.bool false = Value.bool true ∧ Ext w'3 w'8))
(∃ (c3 : Unit), Value.bool false = Value.bool true ∧ Ext w'3 w'7))
(∃ (c3 : Unit), Value.bool false = Value.bool true ∧ Ext w'3 w'6))
(∃ (c3 : Unit), Value.bool false = Value.bool true ∧ Ext w'3 w'5))
((∃ (c3 : Unit), Value.bool false = Value.bool true ∧ Ext w'3 w'4) ∧
∃ (c3 : Unit), Value.bool false = Value.bool true ∧ Ext w'3 w'4)) ∧
∃ (str : ByteArray),
BytesIn w12 x.snd.fst hn str ∧
Below w12.heap.size w12 w12 ∧
(ByteArray.mk #[(226 : UInt8), (151 : UInt8), (140 : UInt8)]).size + str.size ≤ (9223372036854775807 : Nat) ∧
∃ (str1 : ByteArray),
BytesIn w12 x.snd.fst ((2 : Nat) * x.fst) str1 ∧
Below w12.heap.size w12 w12 ∧
∃ (g1 : GSh),
#[Value.string str1, Value.int IntKind.i64 (0 : Int),
Value.agg #[Value.int IntKind.i64 n, Value.bool b2, Value.int IntKind.i8 n1, Value.bool b3, Value.bool b4],
Value.string ((ByteArray.mk #[(226 : UInt8), (151 : UInt8), (140 : UInt8)]) ++ str), Value.int IntKind.i64 (1 : Int)] =
#[Value.string g1.s, Value.int IntKind.i64 g1.col,
Value.agg
#[Value.int IntKind.i64 g1.l.tab, Value.bool g1.l.wide, Value.int IntKind.i8 g1.l.want, Value.bool g1.l.join,
Value.bool g1.l.raw],
Value.string g1.want, Value.int IntKind.i64 g1.wide] ∧
(U8 w12 ∧ DB w12 ∧ g1.s.size ≤ (67108864 : Nat)) ∧
∀ (x1 : Bool) (w'4 : World),
x1 = showsB g1.s g1.col g1.l g1.want g1.wide ∧ Ext w12 w'4 →
bcase x1
(∃ (hn1 : Nat),
(62 : Int) = (↑hn1 : Int) ∧
hn1 ≤ x.snd.snd ∧
∃ (n2 : Int),
w'4.cell? { block := b, off := (0 : Nat) } = some (Value.int IntKind.i64 n2) ∧
∃ (b5 : Bool),
w'4.cell? { block := b, off := (1 : Nat) } = some (Value.bool b5) ∧
∃ (n3 : Int),
w'4.cell? { block := b, off := (2 : Nat) } = some (Value.int IntKind.i8 n3) ∧
∃ (b6 : Bool),
w'4.cell? { block := b, off := (3 : Nat) } = some (Value.bool b6) ∧
∃ (b7 : Bool),
w'4.cell? { block := b, off := (4 : Nat) } = some (Value.bool b7) ∧
∃ (hn2 : Nat),
(62 : Int) = (↑hn2 : Int) ∧
hn2 ≤ x.snd.snd ∧
(∃ (str2 : ByteArray),
BytesIn w'4 x.snd.fst hn1 str2 ∧
Below w'4.heap.size w'4 w'4 ∧
∃ (str3 : ByteArray),
BytesIn w'4 x.snd.fst hn2 str3 ∧
Below w'4.heap.size w'4 w'4 ∧
(ByteArray.mk #[(226 : UInt8), (151 : UInt8), (140 : UInt8)]).size + str3.size ≤ (9223372036854775807 : Nat) ∧
∃ (g2 : GSh),
#[Value.string str2, Value.int IntKind.i64 (0 : Int),
Value.agg #[Value.int IntKind.i64 n2, Value.bool b5, Value.int IntKind.i8 n3, Value.bool b6, Value.bool b7],
Value.string ((ByteArray.mk #[(226 : UInt8), (151 : UInt8), (140 : UInt8)]) ++ str3), Value.int IntKind.i64 (1 : Int)] =
#[Value.string g2.s, Value.int IntKind.i64 g2.col,
Value.agg
#[Value.int IntKind.i64 g2.l.tab, Value.bool g2.l.wide, Value.int IntKind.i8 g2.l.want, Value.bool g2.l.join,
Value.bool g2.l.raw],
Value.string g2.want, Value.int IntKind.i64 g2.wide] ∧
(U8 w'4 ∧ DB w'4 ∧ g2.s.size ≤ (67108864 : Nat)) ∧
∀ (x2 : Bool) (w'5 : World),
x2 = showsB g2.s g2.col g2.l g2.want g2.wide ∧ Ext w'4 w'5 →
bcase x2
(∃ (n4 : Int),
w'5.cell? { block := b, off := (0 : Nat) } = some (Value.int IntKind.i64 n4) ∧
∃ (b8 : Bool),
w'5.cell? { block := b, off := (1 : Nat) } = some (Value.bool b8) ∧
∃ (n5 : Int),
w'5.cell? { block := b, off := (2 : Nat) } = some (Value.int IntKind.i8 n5) ∧
∃ (b9 : Bool),
w'5.cell? { block := b, off := (3 : Nat) } = some (Value.bool b9) ∧
∃ (b10 : Bool),
w'5.cell? { block := b, off := (4 : Nat) } = some (Value.bool b10) ∧
∃ (g3 : GSh),
#[Value.string (ByteArray.mk #[(194 : UInt8), (169 : UInt8), (239 : UInt8), (184 : UInt8), (143 : UInt8)]),
Value.int IntKind.i64 (0 : Int),
Value.agg #[Value.int IntKind.i64 n4, Value.bool b8, Value.int IntKind.i8 n5, Value.bool b9, Value.bool b10],
Value.string (ByteArray.mk #[(194 : UInt8), (169 : UInt8), (239 : UInt8), (184 : UInt8), (143 : UInt8)]),
Value.int IntKind.i64 (2 : Int)] =
#[Value.string g3.s, Value.int IntKind.i64 g3.col,
Value.agg
#[Value.int IntKind.i64 g3.l.tab, Value.bool g3.l.wide, Value.int IntKind.i8 g3.l.want, Value.bool g3.l.join,
Value.bool g3.l.raw],
Value.string g3.want, Value.int IntKind.i64 g3.wide] ∧
(U8 w'5 ∧ DB w'5 ∧ g3.s.size ≤ (67108864 : Nat)) ∧
∀ (x3 : Bool) (w'6 : World),
x3 = showsB g3.s g3.col g3.l g3.want g3.wide ∧ Ext w'5 w'6 →
bcase x3
(∃ (n6 : Int),
w'6.cell? { block := b1, off := (0 : Nat) } = some (Value.int IntKind.i64 n6) ∧
∃ (b11 : Bool),
w'6.cell? { block := b1, off := (1 : Nat) } = some (Value.bool b11) ∧
∃ (n7 : Int),
w'6.cell? { block := b1, off := (2 : Nat) } = some (Value.int IntKind.i8 n7) ∧
∃ (b12 : Bool),
w'6.cell? { block := b1, off := (3 : Nat) } = some (Value.bool b12) ∧
∃ (b13 : Bool),
w'6.cell? { block := b1, off := (4 : Nat) } = some (Value.bool b13) ∧
∃ (g4 : GSh),
#[Value.string (ByteArray.mk #[(225 : UInt8), (133 : UInt8), (161 : UInt8)]), Value.int IntKind.i64 (0 : Int),
Value.agg #[Value.int IntKind.i64 n6, Value.bool b11, Value.int IntKind.i8 n7, Value.bool b12, Value.bool b13],
Value.string (ByteArray.mk #[]), Value.int IntKind.i64 (0 : Int)] =
#[Value.string g4.s, Value.int IntKind.i64 g4.col,
Value.agg
#[Value.int IntKind.i64 g4.l.tab, Value.bool g4.l.wide, Value.int IntKind.i8 g4.l.want, Value.bool g4.l.join,
Value.bool g4.l.raw],
Value.string g4.want, Value.int IntKind.i64 g4.wide] ∧
(U8 w'6 ∧ DB w'6 ∧ g4.s.size ≤ (67108864 : Nat)) ∧
∀ (x4 : Bool) (w'7 : World),
x4 = showsB g4.s g4.col g4.l g4.want g4.wide ∧ Ext w'6 w'7 →
bcase x4
(∃ (g5 : GSh),
#[Value.string (ByteArray.mk #[(194 : UInt8), (161 : UInt8)]), Value.int IntKind.i64 (0 : Int),
Value.agg
#[Value.int IntKind.i64 (0 : Int), Value.bool true, Value.int IntKind.i8 (0 : Int), Value.bool false, Value.bool false],
Value.string (ByteArray.mk #[(194 : UInt8), (161 : UInt8)]), Value.int IntKind.i64 (2 : Int)] =
#[Value.string g5.s, Value.int IntKind.i64 g5.col,
Value.agg
#[Value.int IntKind.i64 g5.l.tab, Value.bool g5.l.wide, Value.int IntKind.i8 g5.l.want, Value.bool g5.l.join,
Value.bool g5.l.raw],
Value.string g5.want, Value.int IntKind.i64 g5.wide] ∧
(U8 w'7 ∧ DB w'7 ∧ g5.s.size ≤ (67108864 : Nat)) ∧
∀ (x5 : Bool) (w'8 : World),
x5 = showsB g5.s g5.col g5.l g5.want g5.wide ∧ Ext w'7 w'8 →
bcase x5
(∃ (n8 : Int),
w'8.cell? { block := b1, off := (0 : Nat) } = some (Value.int IntKind.i64 n8) ∧
∃ (b14 : Bool),
w'8.cell? { block := b1, off := (1 : Nat) } = some (Value.bool b14) ∧
∃ (n9 : Int),
w'8.cell? { block := b1, off := (2 : Nat) } = some (Value.int IntKind.i8 n9) ∧
∃ (b15 : Bool),
w'8.cell? { block := b1, off := (3 : Nat) } = some (Value.bool b15) ∧
∃ (b16 : Bool),
w'8.cell? { block := b1, off := (4 : Nat) } = some (Value.bool b16) ∧
∃ (g6 : GSh),
#[Value.string (ByteArray.mk #[(239 : UInt8), (187 : UInt8), (191 : UInt8)]), Value.int IntKind.i64 (0 : Int),
Value.agg #[Value.int IntKind.i64 n8, Value.bool b14, Value.int IntKind.i8 n9, Value.bool b15, Value.bool b16],
Value.string (ByteArray.mk #[(60 : UInt8), (102 : UInt8), (101 : UInt8), (102 : UInt8), (102 : UInt8), (62 : UInt8)]),
Value.int IntKind.i64 (6 : Int)] =
#[Value.string g6.s, Value.int IntKind.i64 g6.col,
Value.agg
#[Value.int IntKind.i64 g6.l.tab, Value.bool g6.l.wide, Value.int IntKind.i8 g6.l.want, Value.bool g6.l.join,
Value.bool g6.l.raw],
Value.string g6.want, Value.int IntKind.i64 g6.wide] ∧
(U8 w'8 ∧ DB w'8 ∧ g6.s.size ≤ (67108864 : Nat)) ∧
∀ (x6 : Bool) (w'9 : World),
x6 = showsB g6.s g6.col g6.l g6.want g6.wide ∧ Ext w'8 w'9 →
∃ (c3 : Unit), Value.bool x6 = Value.bool true ∧ Ext w'3 w'9)
(∃ (c3 : Unit), Value.bool false = Value.bool true ∧ Ext w'3 w'8))
(∃ (c3 : Unit), Value.bool false = Value.bool true ∧ Ext w'3 w'7))
(∃ (c3 : Unit), Value.bool false = Value.bool true ∧ Ext w'3 w'6))
(∃ (c3 : Unit), Value.bool false = Value.bool true ∧ Ext w'3 w'5)) ∧
∃ (str2 : ByteArray),
BytesIn w'4 x.snd.fst hn2 str2 ∧
Below w'4.heap.size w'4 w'4 ∧
(ByteArray.mk #[(226 : UInt8), (151 : UInt8), (140 : UInt8)]).size + str2.size ≤ (9223372036854775807 : Nat) ∧
∃ (str3 : ByteArray),
BytesIn w'4 x.snd.fst hn1 str3 ∧
Below w'4.heap.size w'4 w'4 ∧
∃ (g2 : GSh),
#[Value.string str3, Value.int IntKind.i64 (0 : Int),
Value.agg #[Value.int IntKind.i64 n2, Value.bool b5, Value.int IntKind.i8 n3, Value.bool b6, Value.bool b7],
Value.string ((ByteArray.mk #[(226 : UInt8), (151 : UInt8), (140 : UInt8)]) ++ str2), Value.int IntKind.i64 (1 : Int)] =
#[Value.string g2.s, Value.int IntKind.i64 g2.col,
Value.agg
#[Value.int IntKind.i64 g2.l.tab, Value.bool g2.l.wide, Value.int IntKind.i8 g2.l.want, Value.bool g2.l.join,
Value.bool g2.l.raw],
Value.string g2.want, Value.int IntKind.i64 g2.wide] ∧
(U8 w'4 ∧ DB w'4 ∧ g2.s.size ≤ (67108864 : Nat)) ∧
∀ (x2 : Bool) (w'5 : World),
x2 = showsB g2.s g2.col g2.l g2.want g2.wide ∧ Ext w'4 w'5 →
bcase x2
(∃ (n4 : Int),
w'5.cell? { block := b, off := (0 : Nat) } = some (Value.int IntKind.i64 n4) ∧
∃ (b8 : Bool),
w'5.cell? { block := b, off := (1 : Nat) } = some (Value.bool b8) ∧
∃ (n5 : Int),
w'5.cell? { block := b, off := (2 : Nat) } = some (Value.int IntKind.i8 n5) ∧
∃ (b9 : Bool),
w'5.cell? { block := b, off := (3 : Nat) } = some (Value.bool b9) ∧
∃ (b10 : Bool),
w'5.cell? { block := b, off := (4 : Nat) } = some (Value.bool b10) ∧
∃ (g3 : GSh),
#[Value.string (ByteArray.mk #[(194 : UInt8), (169 : UInt8), (239 : UInt8), (184 : UInt8), (143 : UInt8)]),
Value.int IntKind.i64 (0 : Int),
Value.agg #[Value.int IntKind.i64 n4, Value.bool b8, Value.int IntKind.i8 n5, Value.bool b9, Value.bool b10],
Value.string (ByteArray.mk #[(194 : UInt8), (169 : UInt8), (239 : UInt8), (184 : UInt8), (143 : UInt8)]),
Value.int IntKind.i64 (2 : Int)] =
#[Value.string g3.s, Value.int IntKind.i64 g3.col,
Value.agg
#[Value.int IntKind.i64 g3.l.tab, Value.bool g3.l.wide, Value.int IntKind.i8 g3.l.want, Value.bool g3.l.join,
Value.bool g3.l.raw],
Value.string g3.want, Value.int IntKind.i64 g3.wide] ∧
(U8 w'5 ∧ DB w'5 ∧ g3.s.size ≤ (67108864 : Nat)) ∧
∀ (x3 : Bool) (w'6 : World),
x3 = showsB g3.s g3.col g3.l g3.want g3.wide ∧ Ext w'5 w'6 →
bcase x3
(∃ (n6 : Int),
w'6.cell? { block := b1, off := (0 : Nat) } = some (Value.int IntKind.i64 n6) ∧
∃ (b11 : Bool),
w'6.cell? { block := b1, off := (1 : Nat) } = some (Value.bool b11) ∧
∃ (n7 : Int),
w'6.cell? { block := b1, off := (2 : Nat) } = some (Value.int IntKind.i8 n7) ∧
∃ (b12 : Bool),
w'6.cell? { block := b1, off := (3 : Nat) } = some (Value.bool b12) ∧
∃ (b13 : Bool),
w'6.cell? { block := b1, off := (4 : Nat) } = some (Value.bool b13) ∧
∃ (g4 : GSh),
#[Value.string (ByteArray.mk #[(225 : UInt8), (133 : UInt8), (161 : UInt8)]), Value.int IntKind.i64 (0 : Int),
Value.agg #[Value.int IntKind.i64 n6, Value.bool b11, Value.int IntKind.i8 n7, Value.bool b12, Value.bool b13],
Value.string (ByteArray.mk #[]), Value.int IntKind.i64 (0 : Int)] =
#[Value.string g4.s, Value.int IntKind.i64 g4.col,
Value.agg
#[Value.int IntKind.i64 g4.l.tab, Value.bool g4.l.wide, Value.int IntKind.i8 g4.l.want, Value.bool g4.l.join,
Value.bool g4.l.raw],
Value.string g4.want, Value.int IntKind.i64 g4.wide] ∧
(U8 w'6 ∧ DB w'6 ∧ g4.s.size ≤ (67108864 : Nat)) ∧
∀ (x4 : Bool) (w'7 : World),
x4 = showsB g4.s g4.col g4.l g4.want g4.wide ∧ Ext w'6 w'7 →
bcase x4
(∃ (g5 : GSh),
#[Value.string (ByteArray.mk #[(194 : UInt8), (161 : UInt8)]), Value.int IntKind.i64 (0 : Int),
Value.agg
#[Value.int IntKind.i64 (0 : Int), Value.bool true, Value.int IntKind.i8 (0 : Int), Value.bool false, Value.bool false],
Value.string (ByteArray.mk #[(194 : UInt8), (161 : UInt8)]), Value.int IntKind.i64 (2 : Int)] =
#[Value.string g5.s, Value.int IntKind.i64 g5.col,
Value.agg
#[Value.int IntKind.i64 g5.l.tab, Value.bool g5.l.wide, Value.int IntKind.i8 g5.l.want, Value.bool g5.l.join,
Value.bool g5.l.raw],
Value.string g5.want, Value.int IntKind.i64 g5.wide] ∧
(U8 w'7 ∧ DB w'7 ∧ g5.s.size ≤ (67108864 : Nat)) ∧
∀ (x5 : Bool) (w'8 : World),
x5 = showsB g5.s g5.col g5.l g5.want g5.wide ∧ Ext w'7 w'8 →
bcase x5
(∃ (n8 : Int),
w'8.cell? { block := b1, off := (0 : Nat) } = some (Value.int IntKind.i64 n8) ∧
∃ (b14 : Bool),
w'8.cell? { block := b1, off := (1 : Nat) } = some (Value.bool b14) ∧
∃ (n9 : Int),
w'8.cell? { block := b1, off := (2 : Nat) } = some (Value.int IntKind.i8 n9) ∧
∃ (b15 : Bool),
w'8.cell? { block := b1, off := (3 : Nat) } = some (Value.bool b15) ∧
∃ (b16 : Bool),
w'8.cell? { block := b1, off := (4 : Nat) } = some (Value.bool b16) ∧
∃ (g6 : GSh),
#[Value.string (ByteArray.mk #[(239 : UInt8), (187 : UInt8), (191 : UInt8)]), Value.int IntKind.i64 (0 : Int),
Value.agg #[Value.int IntKind.i64 n8, Value.bool b14, Value.int IntKind.i8 n9, Value.bool b15, Value.bool b16],
Value.string (ByteArray.mk #[(60 : UInt8), (102 : UInt8), (101 : UInt8), (102 : UInt8), (102 : UInt8), (62 : UInt8)]),
Value.int IntKind.i64 (6 : Int)] =
#[Value.string g6.s, Value.int IntKind.i64 g6.col,
Value.agg
#[Value.int IntKind.i64 g6.l.tab, Value.bool g6.l.wide, Value.int IntKind.i8 g6.l.want, Value.bool g6.l.join,
Value.bool g6.l.raw],
Value.string g6.want, Value.int IntKind.i64 g6.wide] ∧
(U8 w'8 ∧ DB w'8 ∧ g6.s.size ≤ (67108864 : Nat)) ∧
∀ (x6 : Bool) (w'9 : World),
x6 = showsB g6.s g6.col g6.l g6.want g6.wide ∧ Ext w'8 w'9 →
∃ (c3 : Unit), Value.bool x6 = Value.bool true ∧ Ext w'3 w'9)
(∃ (c3 : Unit), Value.bool false = Value.bool true ∧ Ext w'3 w'8))
(∃ (c3 : Unit), Value.bool false = Value.bool true ∧ Ext w'3 w'7))
(∃ (c3 : Unit), Value.bool false = Value.bool true ∧ Ext w'3 w'6))
(∃ (c3 : Unit), Value.bool false = Value.bool true ∧ Ext w'3 w'5))
((∃ (c3 : Unit), Value.bool false = Value.bool true ∧ Ext w'3 w'4) ∧
∃ (c3 : Unit), Value.bool false = Value.bool true ∧ Ext w'3 w'4)) ∧
∀ (u4 : Nat → Value) (c3 : Unit) (w'4 : World),
Ext w'3 w'4 →
∃ (g1 : Unit),
(#[] : Array Value) = #[] ∧
UD w'4 ∧ ∀ (x1 : Unit) (w'5 : World), Ext w'4 w'5 → ∃ (x2 : Unit), Value.bool true = Value.bool true ∧ Ext w w'5)) :
    ((sYes UD)).Ok Tryd.prog 17 :=
  ok_of_vc (sYes UD) annKn6 spKn6 (fun _ _ => rfl) (fun _ _ => rfl) hsp Tryd.func17 rfl (n := 0) (fun _ => rfl) (by kernel_rfl) (vcast (by kernel_rfl) h)

set_option maxRecDepth 1000000 in
theorem lawAd_vc (hsp : SpecsOk Tryd.prog spAd) (h : ∀ (g : GAd) (w : World),
U8 w ∧ DB w ∧ g.s.size ≤ (1048576 : Nat) →
∀ (b : Nat) (w1 : World),
New w (Obj.cells #[Value.string g.s] (9 : Nat)) b w1 →
∀ (b1 : Nat) (w11 : World),
New w1 (Obj.cells #[Value.int IntKind.i64 g.col] (3 : Nat)) b1 w11 →
∀ (b2 : Nat) (w12 : World),
New w11
(Obj.cells
#[Value.int IntKind.i64 g.l.tab, Value.bool g.l.wide, Value.int IntKind.i8 g.l.want, Value.bool g.l.join,
Value.bool g.l.raw]
(57 : Nat))
b2 w12 →
∀ (b3 : Nat) (w13 : World),
New w12 (Obj.cells #[Value.int IntKind.i64 g.w] (3 : Nat)) b3 w13 →
∀ (b4 : Nat) (w14 : World),
New w13 (Obj.cells #[Value.bool false] (4 : Nat)) b4 w14 →
(∃ (n : Int),
w14.cell? { block := b1, off := (0 : Nat) } = some (Value.int IntKind.i64 n) ∧
bcase (decide (n < (0 : Int)))
(true = true ∧
(∃ (old : Value), w14.cell? { block := b1, off := (0 : Nat) } = some old) ∧
w14.frozen? { block := b1, off := (0 : Nat) } = false ∧
∀ (w15 : World),
Stored w14 { block := b1, off := (0 : Nat) } (Value.int IntKind.i64 (0 : Int)) w15 →
∃ (c : Unit),
w15.heap[ptrB (Value.pointer (some { block := b1, off := (0 : Nat) }))]? =
some (Obj.cells #[Value.int IntKind.i64 (colA g.col)] (3 : TypeId)) ∧
Fr (fun (q : Nat) => q = ptrB (Value.pointer (some { block := b1, off := (0 : Nat) }))) w14 w15)
(∃ (n1 : Int),
w14.cell? { block := b1, off := (0 : Nat) } = some (Value.int IntKind.i64 n1) ∧
bcase (decide (n1 > (1073741824 : Int)))
(true = true ∧
(∃ (old : Value), w14.cell? { block := b1, off := (0 : Nat) } = some old) ∧
w14.frozen? { block := b1, off := (0 : Nat) } = false ∧
∀ (w15 : World),
Stored w14 { block := b1, off := (0 : Nat) } (Value.int IntKind.i64 (0 : Int)) w15 →
∃ (c : Unit),
w15.heap[ptrB (Value.pointer (some { block := b1, off := (0 : Nat) }))]? =
some (Obj.cells #[Value.int IntKind.i64 (colA g.col)] (3 : TypeId)) ∧
Fr (fun (q : Nat) => q = ptrB (Value.pointer (some { block := b1, off := (0 : Nat) }))) w14 w15)
(∃ (c : Unit),
w14.heap[ptrB (Value.pointer (some { block := b1, off := (0 : Nat) }))]? =
some (Obj.cells #[Value.int IntKind.i64 (colA g.col)] (3 : TypeId)) ∧
Fr (fun (q : Nat) => q = ptrB (Value.pointer (some { block := b1, off := (0 : Nat) }))) w14 w14))) ∧
∀ (u : Nat → Value) (c : Unit) (w' : World),
w'.heap[ptrB (Value.pointer (some { block := b1, off := (0 : Nat) }))]? =
some (Obj.cells #[Value.int IntKind.i64 (colA g.col)] (3 : TypeId)) ∧
Fr (fun (q : Nat) => q = ptrB (Value.pointer (some { block := b1, off := (0 : Nat) }))) w14 w' →
∃ (s : ByteArray),
w'.cell? { block := b, off := (0 : Nat) } = some (Value.string s) ∧
∃ (n : Int),
w'.cell? { block := b1, off := (0 : Nat) } = some (Value.int IntKind.i64 n) ∧
∃ (n1 : Int),
w'.cell? { block := b2, off := (0 : Nat) } = some (Value.int IntKind.i64 n1) ∧
∃ (b5 : Bool),
w'.cell? { block := b2, off := (1 : Nat) } = some (Value.bool b5) ∧
∃ (n2 : Int),
w'.cell? { block := b2, off := (2 : Nat) } = some (Value.int IntKind.i8 n2) ∧
∃ (b6 : Bool),
w'.cell? { block := b2, off := (3 : Nat) } = some (Value.bool b6) ∧
∃ (b7 : Bool),
w'.cell? { block := b2, off := (4 : Nat) } = some (Value.bool b7) ∧
∃ (g1 : GT6),
#[Value.string s, Value.int IntKind.i64 n,
Value.agg #[Value.int IntKind.i64 n1, Value.bool b5, Value.int IntKind.i8 n2, Value.bool b6, Value.bool b7]] =
#[Value.string g1.s, Value.int IntKind.i64 g1.col,
Value.agg
#[Value.int IntKind.i64 g1.l.tab, Value.bool g1.l.wide, Value.int IntKind.i8 g1.l.want, Value.bool g1.l.join,
Value.bool g1.l.raw]] ∧
(U8 w' ∧ DB w' ∧ g1.s.size ≤ (67108864 : Nat)) ∧
∀ (x : Nat) (w'1 : World),
x = wideS g1.s g1.col g1.l ∧ Ext w' w'1 →
∀ (b8 : Nat) (w15 : World),
New w'1 (Obj.cells #[Value.int IntKind.i64 (0 : Int)] (3 : Nat)) b8 w15 →
true = true ∧
(∃ (old : Value), w15.cell? { block := b8, off := (0 : Nat) } = some old) ∧
w15.frozen? { block := b8, off := (0 : Nat) } = false ∧
∀ (w16 : World),
Stored w15 { block := b8, off := (0 : Nat) } (Value.int IntKind.i64 (↑x : Int)) w16 →
∃ (s1 : ByteArray),
w16.cell? { block := b, off := (0 : Nat) } = some (Value.string s1) ∧
∃ (g2 : ByteArray),
#[Value.string s1] = #[Value.string g2] ∧
True ∧
∀ (x1 : Nat) (w'2 : World),
w16.heap.size ≤ x1 ∧ w'2.heap[x1]? = some (Obj.cells #[Value.string g2] (9 : TypeId)) ∧ Ext w16 w'2 →
(∃ (g3 : Unit),
(#[] : Array Value) = #[] ∧
UD w'2 ∧
∀ (x2 : Unit) (w'3 : World),
Ext w'2 w'3 →
∃ (n3 : Int),
w'3.cell? { block := b8, off := (0 : Nat) } = some (Value.int IntKind.i64 n3) ∧
bcase (decide (n3 < (0 : Int)))
(true = true ∧
(∃ (old : Value), w'3.cell? { block := b4, off := (0 : Nat) } = some old) ∧
w'3.frozen? { block := b4, off := (0 : Nat) } = false ∧
∀ (w17 : World),
Stored w'3 { block := b4, off := (0 : Nat) } (Value.bool false) w17 →
∃ (b9 : Bool),
w17.cell? { block := b4, off := (0 : Nat) } = some (Value.bool b9) ∧
∀ (w2 : World), Turn w.heap.size w17 w2 → ∃ (x3 : Unit), Value.bool b9 = Value.bool true ∧ Ext w w2)
(∃ (c1 : Unit), Ext w'2 w'3)) ∧
∀ (u1 : Nat → Value) (c1 : Unit) (w'3 : World),
Ext w'2 w'3 →
∃ (s2 : ByteArray),
w'3.cell? { block := b, off := (0 : Nat) } = some (Value.string s2) ∧
∃ (n3 : Int),
w'3.cell? { block := b3, off := (0 : Nat) } = some (Value.int IntKind.i64 n3) ∧
∃ (n4 : Int),
w'3.cell? { block := b2, off := (0 : Nat) } = some (Value.int IntKind.i64 n4) ∧
∃ (b9 : Bool),
w'3.cell? { block := b2, off := (1 : Nat) } = some (Value.bool b9) ∧
∃ (n5 : Int),
w'3.cell? { block := b2, off := (2 : Nat) } = some (Value.int IntKind.i8 n5) ∧
∃ (b10 : Bool),
w'3.cell? { block := b2, off := (3 : Nat) } = some (Value.bool b10) ∧
∃ (b11 : Bool),
w'3.cell? { block := b2, off := (4 : Nat) } = some (Value.bool b11) ∧
∃ (g3 : GT6),
#[Value.string s2, Value.int IntKind.i64 n3,
Value.agg #[Value.int IntKind.i64 n4, Value.bool b9, Value.int IntKind.i8 n5, Value.bool b10, Value.bool b11]] =
#[Value.string g3.s, Value.int IntKind.i64 g3.col,
Value.agg
#[Value.int IntKind.i64 g3.l.tab, Value.bool g3.l.wide, Value.int IntKind.i8 g3.l.want, Value.bool g3.l.join,
Value.bool g3.l.raw]] ∧
(U8 w'3 ∧ DB w'3 ∧ g3.s.size ≤ (67108864 : Nat)) ∧
∀ (x2 : Nat) (w'4 : World),
x2 = cutP g3.s g3.col g3.l ∧ Ext w'3 w'4 →
∀ (b12 : Nat) (w17 : World),
New w'4 (Obj.cells #[Value.int IntKind.i64 (0 : Int)] (3 : Nat)) b12 w17 →
true = true ∧
(∃ (old : Value), w17.cell? { block := b12, off := (0 : Nat) } = some old) ∧
w17.frozen? { block := b12, off := (0 : Nat) } = false ∧
∀ (w18 : World),
Stored w17 { block := b12, off := (0 : Nat) } (Value.int IntKind.i64 (↑x2 : Int)) w18 →
∀ (b13 : Nat) (w19 : World),
New w18 (Obj.cells #[Value.int IntKind.i64 (0 : Int)] (3 : Nat)) b13 w19 →
true = true ∧
(∃ (old : Value), w19.cell? { block := b13, off := (0 : Nat) } = some old) ∧
w19.frozen? { block := b13, off := (0 : Nat) } = false ∧
∀ (w110 : World),
Stored w19 { block := b13, off := (0 : Nat) } (Value.int IntKind.i64 (0 : Int)) w110 →
∀ (b14 : Nat) (w111 : World),
New w110 (Obj.cells #[Value.int IntKind.i64 (0 : Int)] (3 : Nat)) b14 w111 →
true = true ∧
(∃ (old : Value), w111.cell? { block := b14, off := (0 : Nat) } = some old) ∧
w111.frozen? { block := b14, off := (0 : Nat) } = false ∧
∀ (w112 : World),
Stored w111 { block := b14, off := (0 : Nat) } (Value.int IntKind.i64 (0 : Int)) w112 →
∀ (b15 : Nat) (w113 : World),
New w112 (Obj.cells #[Value.int IntKind.i64 (0 : Int)] (3 : Nat)) b15 w113 →
true = true ∧
(∃ (old : Value), w113.cell? { block := b15, off := (0 : Nat) } = some old) ∧
w113.frozen? { block := b15, off := (0 : Nat) } = false ∧
∀ (w114 : World),
Stored w113 { block := b15, off := (0 : Nat) } (Value.int IntKind.i64 (0 : Int)) w114 →
∃ (xs : List (Nat × ByteArray)),
∃ (C : Nat → Prop),
∃ (D0 : Nat → Prop),
IterAt Tryd.prog (Value.func (Fn.func (101 : Nat)) #[] #[Value.pointer (some { block := x1, off := (0 : Nat) })])
(List.map encPc xs) C w114 ∧
DomOk w114 C D0 ∧
(D0 =
ones
[ptrB (Value.pointer (some { block := b4, off := (0 : Nat) })),
ptrB (Value.pointer (some { block := b13, off := (0 : Nat) })),
ptrB (Value.pointer (some { block := b14, off := (0 : Nat) })),
ptrB (Value.pointer (some { block := b15, off := (0 : Nat) }))] ∧
(∃ (v : Bool),
w114.heap[ptrB (Value.pointer (some { block := b4, off := (0 : Nat) }))]? =
some (Obj.cells #[Value.bool v] (4 : TypeId))) ∧
w114.heap[ptrB (Value.pointer (some { block := b13, off := (0 : Nat) }))]? =
some (Obj.cells #[Value.int IntKind.i64 (↑(bestA g.s g.l g.w (0 : Nat)) : Int)] (3 : TypeId)) ∧
w114.heap[ptrB (Value.pointer (some { block := b14, off := (0 : Nat) }))]? =
some (Obj.cells #[Value.int IntKind.i64 (0 : Int)] (3 : TypeId)) ∧
w114.heap[ptrB (Value.pointer (some { block := b15, off := (0 : Nat) }))]? =
some (Obj.cells #[Value.int IntKind.i64 (↑(lastA g.s (redC (colA g.col) g.l) g.l (0 : Nat)) : Int)] (3 : TypeId))) ∧
(Stab w114.heap.size fun (k : Nat) (D : Nat → Prop) (W : World) =>
D =
ones
[ptrB (Value.pointer (some { block := b4, off := (0 : Nat) })),
ptrB (Value.pointer (some { block := b13, off := (0 : Nat) })),
ptrB (Value.pointer (some { block := b14, off := (0 : Nat) })),
ptrB (Value.pointer (some { block := b15, off := (0 : Nat) }))] ∧
(∃ (v : Bool),
W.heap[ptrB (Value.pointer (some { block := b4, off := (0 : Nat) }))]? =
some (Obj.cells #[Value.bool v] (4 : TypeId))) ∧
W.heap[ptrB (Value.pointer (some { block := b13, off := (0 : Nat) }))]? =
some (Obj.cells #[Value.int IntKind.i64 (↑(bestA g.s g.l g.w k) : Int)] (3 : TypeId)) ∧
W.heap[ptrB (Value.pointer (some { block := b14, off := (0 : Nat) }))]? =
some (Obj.cells #[Value.int IntKind.i64 (↑k : Int)] (3 : TypeId)) ∧
W.heap[ptrB (Value.pointer (some { block := b15, off := (0 : Nat) }))]? =
some (Obj.cells #[Value.int IntKind.i64 (↑(lastA g.s (redC (colA g.col) g.l) g.l k) : Int)] (3 : TypeId))) ∧
(∀ (x3 : Exit),
Stab w114.heap.size fun (x : Nat) (D : Nat → Prop) (W : World) =>
D =
ones
[ptrB (Value.pointer (some { block := b4, off := (0 : Nat) })),
ptrB (Value.pointer (some { block := b13, off := (0 : Nat) })),
ptrB (Value.pointer (some { block := b14, off := (0 : Nat) })),
ptrB (Value.pointer (some { block := b15, off := (0 : Nat) }))] ∧
W.heap[ptrB (Value.pointer (some { block := b4, off := (0 : Nat) }))]? =
some (Obj.cells #[Value.bool true] (4 : TypeId))) ∧
(∀ (k : Nat) (x3 : Nat × ByteArray) (D : Nat → Prop) (W : World),
xs[k]? = some x3 →
D =
ones
[ptrB (Value.pointer (some { block := b4, off := (0 : Nat) })),
ptrB (Value.pointer (some { block := b13, off := (0 : Nat) })),
ptrB (Value.pointer (some { block := b14, off := (0 : Nat) })),
ptrB (Value.pointer (some { block := b15, off := (0 : Nat) }))] ∧
(∃ (v : Bool),
W.heap[ptrB (Value.pointer (some { block := b4, off := (0 : Nat) }))]? =
some (Obj.cells #[Value.bool v] (4 : TypeId))) ∧
W.heap[ptrB (Value.pointer (some { block := b13, off := (0 : Nat) }))]? =
some (Obj.cells #[Value.int IntKind.i64 (↑(bestA g.s g.l g.w k) : Int)] (3 : TypeId)) ∧
W.heap[ptrB (Value.pointer (some { block := b14, off := (0 : Nat) }))]? =
some (Obj.cells #[Value.int IntKind.i64 (↑k : Int)] (3 : TypeId)) ∧
W.heap[ptrB (Value.pointer (some { block := b15, off := (0 : Nat) }))]? =
some (Obj.cells #[Value.int IntKind.i64 (↑(lastA g.s (redC (colA g.col) g.l) g.l k) : Int)] (3 : TypeId)) →
Mid w114 D0 D W →
∀ (w115 : World),
Drew W w115 →
∃ (s3 : ByteArray),
W.cell? { block := b, off := (0 : Nat) } = some (Value.string s3) ∧
∃ (k1 : Nat),
(↑x3.fst : Int) = (↑k1 : Int) ∧
(0 : Nat) ≤ k1 ∧
k1 ≤ s3.size ∧
∃ (n6 : Int),
W.cell? { block := b1, off := (0 : Nat) } = some (Value.int IntKind.i64 n6) ∧
∃ (n7 : Int),
W.cell? { block := b2, off := (0 : Nat) } = some (Value.int IntKind.i64 n7) ∧
∃ (b16 : Bool),
W.cell? { block := b2, off := (1 : Nat) } = some (Value.bool b16) ∧
∃ (n8 : Int),
W.cell? { block := b2, off := (2 : Nat) } = some (Value.int IntKind.i8 n8) ∧
∃ (b17 : Bool),
W.cell? { block := b2, off := (3 : Nat) } = some (Value.bool b17) ∧
∃ (b18 : Bool),
W.cell? { block := b2, off := (4 : Nat) } = some (Value.bool b18) ∧
∃ (g4 : GT6),
#[Value.string (s3.extract (0 : Nat) k1), Value.int IntKind.i64 n6,
Value.agg #[Value.int IntKind.i64 n7, Value.bool b16, Value.int IntKind.i8 n8, Value.bool b17, Value.bool b18]] =
#[Value.string g4.s, Value.int IntKind.i64 g4.col,
Value.agg
#[Value.int IntKind.i64 g4.l.tab, Value.bool g4.l.wide, Value.int IntKind.i8 g4.l.want, Value.bool g4.l.join,
Value.bool g4.l.raw]] ∧
(U8 w115 ∧ DB w115 ∧ g4.s.size ≤ (67108864 : Nat)) ∧
∀ (x4 : Nat) (w'5 : World),
x4 = wideS g4.s g4.col g4.l ∧ Ext w115 w'5 →
(∀ (w116 : World),
Drew w'5 w116 →
∃ (n9 : Int),
w'5.cell? { block := b14, off := (0 : Nat) } = some (Value.int IntKind.i64 n9) ∧
bcase (decide (n9 < (60 : Int)))
(∃ (s4 : ByteArray),
w'5.cell? { block := b, off := (0 : Nat) } = some (Value.string s4) ∧
∃ (k2 : Nat),
(↑x3.fst : Int) = (↑k2 : Int) ∧
k2 ≤ s4.size ∧
s4.size ≤ s4.size ∧
∃ (n10 : Int),
w'5.cell? { block := b1, off := (0 : Nat) } = some (Value.int IntKind.i64 n10) ∧
InR IntKind.i64 (n10 + (↑x4 : Int)) ∧
∃ (n11 : Int),
w'5.cell? { block := b2, off := (0 : Nat) } = some (Value.int IntKind.i64 n11) ∧
∃ (b19 : Bool),
w'5.cell? { block := b2, off := (1 : Nat) } = some (Value.bool b19) ∧
∃ (n12 : Int),
w'5.cell? { block := b2, off := (2 : Nat) } = some (Value.int IntKind.i8 n12) ∧
∃ (b20 : Bool),
w'5.cell? { block := b2, off := (3 : Nat) } = some (Value.bool b20) ∧
∃ (b21 : Bool),
w'5.cell? { block := b2, off := (4 : Nat) } = some (Value.bool b21) ∧
∃ (n13 : Int),
w'5.cell? { block := b8, off := (0 : Nat) } = some (Value.int IntKind.i64 n13) ∧
∃ (g5 : GT6),
#[Value.string (s4.extract k2 s4.size), Value.int IntKind.i64 (n10 + (↑x4 : Int)),
Value.agg #[Value.int IntKind.i64 n11, Value.bool b19, Value.int IntKind.i8 n12, Value.bool b20, Value.bool b21]] =
#[Value.string g5.s, Value.int IntKind.i64 g5.col,
Value.agg
#[Value.int IntKind.i64 g5.l.tab, Value.bool g5.l.wide, Value.int IntKind.i8 g5.l.want, Value.bool g5.l.join,
Value.bool g5.l.raw]] ∧
(U8 w116 ∧ DB w116 ∧ g5.s.size ≤ (67108864 : Nat)) ∧
∀ (x5 : Nat) (w'6 : World),
x5 = wideS g5.s g5.col g5.l ∧ Ext w116 w'6 →
Below w116.heap.size w116 w'6 ∧
InR IntKind.i64 ((↑x4 : Int) + (↑x5 : Int)) ∧
bcase ((↑x4 : Int) + (↑x5 : Int) != n13)
(true = true ∧
(∃ (old : Value), w'6.cell? { block := b4, off := (0 : Nat) } = some old) ∧
w'6.frozen? { block := b4, off := (0 : Nat) } = false ∧
∀ (w117 : World),
Stored w'6 { block := b4, off := (0 : Nat) } (Value.bool false) w117 →
∃ (D' : Nat → Prop),
Step D W w117 D' ∧
D' =
ones
[ptrB (Value.pointer (some { block := b4, off := (0 : Nat) })),
ptrB (Value.pointer (some { block := b13, off := (0 : Nat) })),
ptrB (Value.pointer (some { block := b14, off := (0 : Nat) })),
ptrB (Value.pointer (some { block := b15, off := (0 : Nat) }))] ∧
w117.heap[ptrB (Value.pointer (some { block := b4, off := (0 : Nat) }))]? =
some (Obj.cells #[Value.bool true] (4 : TypeId)))
(∃ (n14 : Int),
w'6.cell? { block := b15, off := (0 : Nat) } = some (Value.int IntKind.i64 n14) ∧
bcase (decide ((↑x4 : Int) < n14))
(true = true ∧
(∃ (old : Value), w'6.cell? { block := b4, off := (0 : Nat) } = some old) ∧
w'6.frozen? { block := b4, off := (0 : Nat) } = false ∧
∀ (w117 : World),
Stored w'6 { block := b4, off := (0 : Nat) } (Value.bool false) w117 →
∃ (D' : Nat → Prop),
Step D W w117 D' ∧
D' =
ones
[ptrB (Value.pointer (some { block := b4, off := (0 : Nat) })),
ptrB (Value.pointer (some { block := b13, off := (0 : Nat) })),
ptrB (Value.pointer (some { block := b14, off := (0 : Nat) })),
ptrB (Value.pointer (some { block := b15, off := (0 : Nat) }))] ∧
w117.heap[ptrB (Value.pointer (some { block := b4, off := (0 : Nat) }))]? =
some (Obj.cells #[Value.bool true] (4 : TypeId)))
(∃ (c2 : Unit), Ext w'5 w'6)))
(∃ (n10 : Int),
w'5.cell? { block := b15, off := (0 : Nat) } = some (Value.int IntKind.i64 n10) ∧
bcase (decide ((↑x4 : Int) < n10))
(true = true ∧
(∃ (old : Value), w116.cell? { block := b4, off := (0 : Nat) } = some old) ∧
w116.frozen? { block := b4, off := (0 : Nat) } = false ∧
∀ (w117 : World),
Stored w116 { block := b4, off := (0 : Nat) } (Value.bool false) w117 →
∃ (D' : Nat → Prop),
Step D W w117 D' ∧
D' =
ones
[ptrB (Value.pointer (some { block := b4, off := (0 : Nat) })),
ptrB (Value.pointer (some { block := b13, off := (0 : Nat) })),
ptrB (Value.pointer (some { block := b14, off := (0 : Nat) })),
ptrB (Value.pointer (some { block := b15, off := (0 : Nat) }))] ∧
w117.heap[ptrB (Value.pointer (some { block := b4, off := (0 : Nat) }))]? =
some (Obj.cells #[Value.bool true] (4 : TypeId)))
(∃ (c2 : Unit), Ext w'5 w116))) ∧
∀ (u2 : Nat → Value) (c2 : Unit) (w'6 : World),
Ext w'5 w'6 →
true = true ∧
(∃ (old : Value), w'6.cell? { block := b15, off := (0 : Nat) } = some old) ∧
w'6.frozen? { block := b15, off := (0 : Nat) } = false ∧
∀ (w116 : World),
Stored w'6 { block := b15, off := (0 : Nat) } (Value.int IntKind.i64 (↑x4 : Int)) w116 →
∃ (n9 : Int),
w116.cell? { block := b14, off := (0 : Nat) } = some (Value.int IntKind.i64 n9) ∧
InR IntKind.i64 (n9 + (1 : Int)) ∧
true = true ∧
(∃ (old : Value), w116.cell? { block := b14, off := (0 : Nat) } = some old) ∧
w116.frozen? { block := b14, off := (0 : Nat) } = false ∧
∀ (w117 : World),
Stored w116 { block := b14, off := (0 : Nat) } (Value.int IntKind.i64 (n9 + (1 : Int))) w117 →
∀ (w118 : World),
Drew w117 w118 →
∃ (s4 : ByteArray),
w117.cell? { block := b, off := (0 : Nat) } = some (Value.string s4) ∧
∃ (k2 : Nat),
(↑x3.fst : Int) = (↑k2 : Int) ∧
(0 : Nat) ≤ k2 ∧
k2 ≤ s4.size ∧
∃ (n10 : Int),
w117.cell? { block := b2, off := (0 : Nat) } = some (Value.int IntKind.i64 n10) ∧
∃ (b19 : Bool),
w117.cell? { block := b2, off := (1 : Nat) } = some (Value.bool b19) ∧
∃ (n11 : Int),
w117.cell? { block := b2, off := (2 : Nat) } = some (Value.int IntKind.i8 n11) ∧
∃ (b20 : Bool),
w117.cell? { block := b2, off := (3 : Nat) } = some (Value.bool b20) ∧
∃ (b21 : Bool),
w117.cell? { block := b2, off := (4 : Nat) } = some (Value.bool b21) ∧
∃ (n12 : Int),
w117.cell? { block := b3, off := (0 : Nat) } = some (Value.int IntKind.i64 n12) ∧
∃ (g5 : GT6),
#[Value.string (s4.extract (0 : Nat) k2), Value.int IntKind.i64 (0 : Int),
Value.agg #[Value.int IntKind.i64 n10, Value.bool b19, Value.int IntKind.i8 n11, Value.bool b20, Value.bool b21]] =
#[Value.string g5.s, Value.int IntKind.i64 g5.col,
Value.agg
#[Value.int IntKind.i64 g5.l.tab, Value.bool g5.l.wide, Value.int IntKind.i8 g5.l.want, Value.bool g5.l.join,
Value.bool g5.l.raw]] ∧
(U8 w118 ∧ DB w118 ∧ g5.s.size ≤ (67108864 : Nat)) ∧
∀ (x5 : Nat) (w'7 : World),
x5 = wideS g5.s g5.col g5.l ∧ Ext w118 w'7 →
Below w118.heap.size w118 w'7 ∧
bcase (decide ((↑x5 : Int) ≤ n12))
(true = true ∧
(∃ (old : Value), w'7.cell? { block := b13, off := (0 : Nat) } = some old) ∧
w'7.frozen? { block := b13, off := (0 : Nat) } = false ∧
∀ (w119 : World),
Stored w'7 { block := b13, off := (0 : Nat) } (Value.int IntKind.i64 (↑x3.fst : Int)) w119 →
∃ (n13 : Int),
w119.cell? { block := b14, off := (0 : Nat) } = some (Value.int IntKind.i64 n13) ∧
bcase (decide (n13 > (300 : Int)))
(∃ (s5 : ByteArray),
w119.cell? { block := b, off := (0 : Nat) } = some (Value.string s5) ∧
∃ (n14 : Int),
w119.cell? { block := b12, off := (0 : Nat) } = some (Value.int IntKind.i64 n14) ∧
∃ (g6 : ByteArray × Int),
#[Value.string s5, Value.int IntKind.i64 n14] = #[Value.string g6.fst, Value.int IntKind.i64 g6.snd] ∧
(U8 w119 ∧ g6.fst.size ≤ (67108864 : Nat)) ∧
∀ (x6 : Bool) (w'8 : World),
x6 = isB g6.fst g6.snd ∧ Ext w119 w'8 →
true = true ∧
(∃ (old : Value), w'8.cell? { block := b4, off := (0 : Nat) } = some old) ∧
w'8.frozen? { block := b4, off := (0 : Nat) } = false ∧
∀ (w120 : World),
Stored w'8 { block := b4, off := (0 : Nat) } (Value.bool x6) w120 →
∃ (D' : Nat → Prop),
Step D W w120 D' ∧
D' =
ones
[ptrB (Value.pointer (some { block := b4, off := (0 : Nat) })),
ptrB (Value.pointer (some { block := b13, off := (0 : Nat) })),
ptrB (Value.pointer (some { block := b14, off := (0 : Nat) })),
ptrB (Value.pointer (some { block := b15, off := (0 : Nat) }))] ∧
w120.heap[ptrB (Value.pointer (some { block := b4, off := (0 : Nat) }))]? =
some (Obj.cells #[Value.bool true] (4 : TypeId)))
(∃ (D' : Nat → Prop),
Step D W w119 D' ∧
D' =
ones
[ptrB (Value.pointer (some { block := b4, off := (0 : Nat) })),
ptrB (Value.pointer (some { block := b13, off := (0 : Nat) })),
ptrB (Value.pointer (some { block := b14, off := (0 : Nat) })),
ptrB (Value.pointer (some { block := b15, off := (0 : Nat) }))] ∧
(∃ (v : Bool),
w119.heap[ptrB (Value.pointer (some { block := b4, off := (0 : Nat) }))]? =
some (Obj.cells #[Value.bool v] (4 : TypeId))) ∧
w119.heap[ptrB (Value.pointer (some { block := b13, off := (0 : Nat) }))]? =
some (Obj.cells #[Value.int IntKind.i64 (↑(bestA g.s g.l g.w (k + (1 : Nat))) : Int)] (3 : TypeId)) ∧
w119.heap[ptrB (Value.pointer (some { block := b14, off := (0 : Nat) }))]? =
some (Obj.cells #[Value.int IntKind.i64 (↑(k + (1 : Nat)) : Int)] (3 : TypeId)) ∧
w119.heap[ptrB (Value.pointer (some { block := b15, off := (0 : Nat) }))]? =
some
(Obj.cells #[Value.int IntKind.i64 (↑(lastA g.s (redC (colA g.col) g.l) g.l (k + (1 : Nat))) : Int)] (3 : TypeId))))
(∃ (n13 : Int),
w'7.cell? { block := b14, off := (0 : Nat) } = some (Value.int IntKind.i64 n13) ∧
bcase (decide (n13 > (300 : Int)))
(∃ (s5 : ByteArray),
w'7.cell? { block := b, off := (0 : Nat) } = some (Value.string s5) ∧
∃ (n14 : Int),
w'7.cell? { block := b12, off := (0 : Nat) } = some (Value.int IntKind.i64 n14) ∧
∃ (g6 : ByteArray × Int),
#[Value.string s5, Value.int IntKind.i64 n14] = #[Value.string g6.fst, Value.int IntKind.i64 g6.snd] ∧
(U8 w'7 ∧ g6.fst.size ≤ (67108864 : Nat)) ∧
∀ (x6 : Bool) (w'8 : World),
x6 = isB g6.fst g6.snd ∧ Ext w'7 w'8 →
true = true ∧
(∃ (old : Value), w'8.cell? { block := b4, off := (0 : Nat) } = some old) ∧
w'8.frozen? { block := b4, off := (0 : Nat) } = false ∧
∀ (w119 : World),
Stored w'8 { block := b4, off := (0 : Nat) } (Value.bool x6) w119 →
∃ (D' : Nat → Prop),
Step D W w119 D' ∧
D' =
ones
[ptrB (Value.pointer (some { block := b4, off := (0 : Nat) })),
ptrB (Value.pointer (some { block := b13, off := (0 : Nat) })),
ptrB (Value.pointer (some { block := b14, off := (0 : Nat) })),
ptrB (Value.pointer (some { block := b15, off := (0 : Nat) }))] ∧
w119.heap[ptrB (Value.pointer (some { block := b4, off := (0 : Nat) }))]? =
some (Obj.cells #[Value.bool true] (4 : TypeId)))
(∃ (D' : Nat → Prop),
Step D W w'7 D' ∧
D' =
ones
[ptrB (Value.pointer (some { block := b4, off := (0 : Nat) })),
ptrB (Value.pointer (some { block := b13, off := (0 : Nat) })),
ptrB (Value.pointer (some { block := b14, off := (0 : Nat) })),
ptrB (Value.pointer (some { block := b15, off := (0 : Nat) }))] ∧
(∃ (v : Bool),
w'7.heap[ptrB (Value.pointer (some { block := b4, off := (0 : Nat) }))]? =
some (Obj.cells #[Value.bool v] (4 : TypeId))) ∧
w'7.heap[ptrB (Value.pointer (some { block := b13, off := (0 : Nat) }))]? =
some (Obj.cells #[Value.int IntKind.i64 (↑(bestA g.s g.l g.w (k + (1 : Nat))) : Int)] (3 : TypeId)) ∧
w'7.heap[ptrB (Value.pointer (some { block := b14, off := (0 : Nat) }))]? =
some (Obj.cells #[Value.int IntKind.i64 (↑(k + (1 : Nat)) : Int)] (3 : TypeId)) ∧
w'7.heap[ptrB (Value.pointer (some { block := b15, off := (0 : Nat) }))]? =
some
(Obj.cells #[Value.int IntKind.i64 (↑(lastA g.s (redC (colA g.col) g.l) g.l (k + (1 : Nat))) : Int)] (3 : TypeId))))) ∧
(∀ (D : Nat → Prop) (W : World),
D =
ones
[ptrB (Value.pointer (some { block := b4, off := (0 : Nat) })),
ptrB (Value.pointer (some { block := b13, off := (0 : Nat) })),
ptrB (Value.pointer (some { block := b14, off := (0 : Nat) })),
ptrB (Value.pointer (some { block := b15, off := (0 : Nat) }))] ∧
(∃ (v : Bool),
W.heap[ptrB (Value.pointer (some { block := b4, off := (0 : Nat) }))]? =
some (Obj.cells #[Value.bool v] (4 : TypeId))) ∧
W.heap[ptrB (Value.pointer (some { block := b13, off := (0 : Nat) }))]? =
some (Obj.cells #[Value.int IntKind.i64 (↑(bestA g.s g.l g.w (lenX xs)) : Int)] (3 : TypeId)) ∧
W.heap[ptrB (Value.pointer (some { block := b14, off := (0 : Nat) }))]? =
some (Obj.cells #[Value.int IntKind.i64 (↑(lenX xs) : Int)] (3 : TypeId)) ∧
W.heap[ptrB (Value.pointer (some { block := b15, off := (0 : Nat) }))]? =
some (Obj.cells #[Value.int IntKind.i64 (↑(lastA g.s (redC (colA g.col) g.l) g.l (lenX xs)) : Int)] (3 : TypeId)) →
Mid w114 D0 D W →
∀ (w115 : World),
Drew W w115 →
∃ (s3 : ByteArray),
W.cell? { block := b, off := (0 : Nat) } = some (Value.string s3) ∧
∃ (n6 : Int),
W.cell? { block := b2, off := (0 : Nat) } = some (Value.int IntKind.i64 n6) ∧
∃ (b16 : Bool),
W.cell? { block := b2, off := (1 : Nat) } = some (Value.bool b16) ∧
∃ (n7 : Int),
W.cell? { block := b2, off := (2 : Nat) } = some (Value.int IntKind.i8 n7) ∧
∃ (b17 : Bool),
W.cell? { block := b2, off := (3 : Nat) } = some (Value.bool b17) ∧
∃ (b18 : Bool),
W.cell? { block := b2, off := (4 : Nat) } = some (Value.bool b18) ∧
∃ (n8 : Int),
W.cell? { block := b3, off := (0 : Nat) } = some (Value.int IntKind.i64 n8) ∧
∃ (g4 : GT6),
#[Value.string s3, Value.int IntKind.i64 (0 : Int),
Value.agg #[Value.int IntKind.i64 n6, Value.bool b16, Value.int IntKind.i8 n7, Value.bool b17, Value.bool b18]] =
#[Value.string g4.s, Value.int IntKind.i64 g4.col,
Value.agg
#[Value.int IntKind.i64 g4.l.tab, Value.bool g4.l.wide, Value.int IntKind.i8 g4.l.want, Value.bool g4.l.join,
Value.bool g4.l.raw]] ∧
(U8 w115 ∧ DB w115 ∧ g4.s.size ≤ (67108864 : Nat)) ∧
∀ (x3 : Nat) (w'5 : World),
x3 = wideS g4.s g4.col g4.l ∧ Ext w115 w'5 →
Below w115.heap.size w115 w'5 ∧
bcase (decide ((↑x3 : Int) ≤ n8))
(∃ (s4 : ByteArray),
w'5.cell? { block := b, off := (0 : Nat) } = some (Value.string s4) ∧
true = true ∧
(∃ (old : Value), w'5.cell? { block := b13, off := (0 : Nat) } = some old) ∧
w'5.frozen? { block := b13, off := (0 : Nat) } = false ∧
∀ (w116 : World),
Stored w'5 { block := b13, off := (0 : Nat) } (Value.int IntKind.i64 (↑s4.size : Int)) w116 →
∃ (n9 : Int),
w116.cell? { block := b12, off := (0 : Nat) } = some (Value.int IntKind.i64 n9) ∧
∃ (n10 : Int),
w116.cell? { block := b13, off := (0 : Nat) } = some (Value.int IntKind.i64 n10) ∧
bcase (n9 == n10)
(∃ (s5 : ByteArray),
w116.cell? { block := b, off := (0 : Nat) } = some (Value.string s5) ∧
∃ (n11 : Int),
w116.cell? { block := b12, off := (0 : Nat) } = some (Value.int IntKind.i64 n11) ∧
∃ (g5 : ByteArray × Int),
#[Value.string s5, Value.int IntKind.i64 n11] = #[Value.string g5.fst, Value.int IntKind.i64 g5.snd] ∧
(U8 w116 ∧ g5.fst.size ≤ (67108864 : Nat)) ∧
∀ (x4 : Bool) (w'6 : World),
x4 = isB g5.fst g5.snd ∧ Ext w116 w'6 →
true = true ∧
(∃ (old : Value), w'6.cell? { block := b4, off := (0 : Nat) } = some old) ∧
w'6.frozen? { block := b4, off := (0 : Nat) } = false ∧
∀ (w117 : World),
Stored w'6 { block := b4, off := (0 : Nat) } (Value.bool x4) w117 →
∃ (b19 : Bool),
w117.cell? { block := b4, off := (0 : Nat) } = some (Value.bool b19) ∧
∀ (w2 : World), Turn w.heap.size w117 w2 → ∃ (x5 : Unit), Value.bool b19 = Value.bool true ∧ Ext w w2)
(true = true ∧
(∃ (old : Value), w116.cell? { block := b4, off := (0 : Nat) } = some old) ∧
w116.frozen? { block := b4, off := (0 : Nat) } = false ∧
∀ (w117 : World),
Stored w116 { block := b4, off := (0 : Nat) } (Value.bool false) w117 →
∃ (b19 : Bool),
w117.cell? { block := b4, off := (0 : Nat) } = some (Value.bool b19) ∧
∀ (w2 : World), Turn w.heap.size w117 w2 → ∃ (x4 : Unit), Value.bool b19 = Value.bool true ∧ Ext w w2))
(∃ (n9 : Int),
w'5.cell? { block := b12, off := (0 : Nat) } = some (Value.int IntKind.i64 n9) ∧
∃ (n10 : Int),
w'5.cell? { block := b13, off := (0 : Nat) } = some (Value.int IntKind.i64 n10) ∧
bcase (n9 == n10)
(∃ (s4 : ByteArray),
w'5.cell? { block := b, off := (0 : Nat) } = some (Value.string s4) ∧
∃ (n11 : Int),
w'5.cell? { block := b12, off := (0 : Nat) } = some (Value.int IntKind.i64 n11) ∧
∃ (g5 : ByteArray × Int),
#[Value.string s4, Value.int IntKind.i64 n11] = #[Value.string g5.fst, Value.int IntKind.i64 g5.snd] ∧
(U8 w'5 ∧ g5.fst.size ≤ (67108864 : Nat)) ∧
∀ (x4 : Bool) (w'6 : World),
x4 = isB g5.fst g5.snd ∧ Ext w'5 w'6 →
true = true ∧
(∃ (old : Value), w'6.cell? { block := b4, off := (0 : Nat) } = some old) ∧
w'6.frozen? { block := b4, off := (0 : Nat) } = false ∧
∀ (w116 : World),
Stored w'6 { block := b4, off := (0 : Nat) } (Value.bool x4) w116 →
∃ (b19 : Bool),
w116.cell? { block := b4, off := (0 : Nat) } = some (Value.bool b19) ∧
∀ (w2 : World), Turn w.heap.size w116 w2 → ∃ (x5 : Unit), Value.bool b19 = Value.bool true ∧ Ext w w2)
(true = true ∧
(∃ (old : Value), w'5.cell? { block := b4, off := (0 : Nat) } = some old) ∧
w'5.frozen? { block := b4, off := (0 : Nat) } = false ∧
∀ (w116 : World),
Stored w'5 { block := b4, off := (0 : Nat) } (Value.bool false) w116 →
∃ (b19 : Bool),
w116.cell? { block := b4, off := (0 : Nat) } = some (Value.bool b19) ∧
∀ (w2 : World), Turn w.heap.size w116 w2 → ∃ (x4 : Unit), Value.bool b19 = Value.bool true ∧ Ext w w2))) ∧
∀ (D : Nat → Prop) (W : World),
D =
ones
[ptrB (Value.pointer (some { block := b4, off := (0 : Nat) })),
ptrB (Value.pointer (some { block := b13, off := (0 : Nat) })),
ptrB (Value.pointer (some { block := b14, off := (0 : Nat) })),
ptrB (Value.pointer (some { block := b15, off := (0 : Nat) }))] ∧
W.heap[ptrB (Value.pointer (some { block := b4, off := (0 : Nat) }))]? =
some (Obj.cells #[Value.bool true] (4 : TypeId)) →
Mid w114 D0 D W →
∃ (b16 : Bool),
W.cell? { block := b4, off := (0 : Nat) } = some (Value.bool b16) ∧
∀ (w2 : World), Turn w.heap.size W w2 → ∃ (x3 : Unit), Value.bool b16 = Value.bool true ∧ Ext w w2) :
    (sLawAd).Ok Tryd.prog 18 :=
  ok_of_vc sLawAd annAd spAd (fun _ _ => rfl) (fun _ _ => rfl) hsp Tryd.func18 rfl (n := 4) (fun _ => rfl) (by kernel_rfl) (vcast (by kernel_rfl) h)

end Go.Proofs.YthpjkgoahneldaaDoor
end
