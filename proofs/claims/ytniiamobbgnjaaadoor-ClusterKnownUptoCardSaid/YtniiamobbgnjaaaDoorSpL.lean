/-
  Specifications, chapter 3: the laws' own helpers.
-/
import Derived.Test.YtniiamobbgnjaaaDoorSpI
set_option linter.unusedVariables false
set_option linter.unusedSimpArgs false
namespace Go.Proofs.YtniiamobbgnjaaaDoor
open Go Go.RowKit Vc Ut Tb Cl

/-- A variable that holds a list of one's own, of elements of s cells. -/
structure GrowS (W : World) (box : Nat) (t e : TypeId) (s n : Nat) (a : Option Addr) (c : Nat) (vs : List Value) : Prop where
  hb : W.heap[box]? = some (.cells #[.slice a n c] t)
  row : Row W e s a n vs c

/-- An iterator that is handed in. -/
structure GIt where
  f : Nat
  caps : Array Value
  xs : List (Nat × ByteArray)
  C : Nat → Prop
def GIt.v (g : GIt) : Value := .func (.func g.f) #[] g.caps
def GIt.ok (g : GIt) (w : World) : Prop := IterAt Tryd.prog (.func (.func g.f) #[] g.caps) (g.xs.map encPc) g.C w ∧ (∀ q, g.C q → q < w.heap.size) ∧ g.xs.length ≤ 67108864
structure GTold where
  it : GIt
  want : List (Nat × ByteArray)
  a : Option Addr
  c : Nat
  back : Bool
  leave : Int
def sTold : CallSpec where
  G := GTold
  args := fun g => #[.func (.func g.it.f) #[] g.it.caps, .slice g.a g.want.length g.c, .bool g.back, .int .i64 g.leave]
  pre := fun g w => g.it.ok w ∧ CellsAt w g.a (g.want.flatMap encPc) ∧ g.it.xs = (if g.back then g.want.reverse else g.want)
  X := Unit
  res := fun _ => .bool true
  post := fun _ w _ w' => Ext w w'
def annTold (g : GTold) (_ : World) : Ann where
  sp := []
  cuts := [(4, 6, { X := Unit, sh := fun _ _ => [], inv := fun e w0 _ w => Fr (ones [ptrB (gv e 9)]) w0 w ∧ ∃ v, w.heap[ptrB (gv e 9)]? = some (.cells #[.int .i64 v] 3) })]
  ranges := [(5, {
    α := Nat × ByteArray
    enc := encPc
    exs := [.exit 0]
    J := fun e w0 xs k D W => D = ones [ptrB (gv e 9)] ∧ W.heap[ptrB (gv e 9)]? = some (.cells #[.int .i64 (k : Int)] 3)
    Jx := fun e w0 _ _ D W => D = ones [ptrB (gv e 9)] ∧ ∃ v, W.heap[ptrB (gv e 9)]? = some (.cells #[.int .i64 v] 3) }), (12, {
    α := Nat × ByteArray
    enc := encPc
    J := fun e w0 xs k D W => D = ones [ptrB (gv e 9)] ∧ W.heap[ptrB (gv e 9)]? = some (.cells #[.int .i64 (k : Int)] 3)
    Jx := fun e w0 _ _ D W => (1 : Nat) = 0 })]
  loops := [(8, {
    X := Nat
    sh := fun _ t => [(10, .int .i64 t)]
    inv := fun e w0 t w => t ≤ 2 ∧ Fr (ones [ptrB (gv e 9)]) w0 w ∧ ∃ v, w.heap[ptrB (gv e 9)]? = some (.cells #[.int .i64 v] 3)
    mu := fun _ _ t _ => 2 - t })]

def sPcs : CallSpec where
  G := GIt
  args := fun g => #[.func (.func g.f) #[] g.caps]
  pre := fun g w => g.ok w
  X := Option Addr × Nat × Nat
  res := fun x => .slice x.1 x.2.1 x.2.2
  post := fun g w x w' => x.2.1 = g.xs.length ∧ Made w w' 38 2 x.1 x.2.1 (g.xs.flatMap encPc) x.2.2
def annPcs (g : GIt) (_ : World) : Ann where
  sp := []
  ranges := [(5, {
    α := Nat × ByteArray
    enc := encPc
    J := fun e w0 xs k D W => ∃ a c, D = (fun q => q = ptrB (gv e 3) ∨ blk a = some q) ∧ GrowS W (ptrB (gv e 3)) 35 38 2 k a c ((xs.take k).flatMap encPc)
    Jx := fun e w0 _ _ D W => (1 : Nat) = 0 })]

structure GRow where
  s : ByteArray
  want : List ByteArray
  a : Option Addr
  c : Nat
def rowB (s : ByteArray) (want : List ByteArray) : Bool := decide ((pcL s).map Prod.snd = want)
def sRow : CallSpec where
  G := GRow
  args := fun g => #[.string g.s, .slice g.a g.want.length g.c]
  pre := fun g w => U8 w ∧ g.s.size ≤ 67108864 ∧ CellsAt w g.a (g.want.map Value.string) ∧ g.want.length ≤ 1000000
  X := Bool
  res := fun x => .bool x
  post := fun g w x w' => x = rowB g.s g.want ∧ Ext w w'
def spRow : List (Nat × CallSpec) := [(12, sIter 47), (24, sPcs)]
def annRow (g : GRow) (_ : World) : Ann where
  sp := spRow
  loops := [(6, {
    X := Nat
    sh := fun _ i => [(7, .int .i64 i), (6, .int .i64 (bp g.s i))]
    inv := fun _ w0 i w => i ≤ ncl g.s ∧ ((pcL g.s).map Prod.snd).take i = g.want.take i ∧ Ext w0 w
    mu := fun _ _ i _ => ncl g.s - i })]

structure GPp where
  a : Option Addr
  ac : Nat
  l : List (Nat × ByteArray)
  b : Option Addr
  bc : Nat
  m : List (Nat × ByteArray)
  k : Nat
def upP (k : Nat) (p : Nat × ByteArray) : Nat × ByteArray := (p.1 + k, p.2)
def sSameP : CallSpec where
  G := GPp
  args := fun g => #[.slice g.a g.l.length g.ac, .slice g.b g.m.length g.bc, .int .i64 g.k]
  pre := fun g w => CellsAt w g.a (g.l.flatMap encPc) ∧ CellsAt w g.b (g.m.flatMap encPc) ∧ g.l.length ≤ 67108864 ∧ g.k ≤ 67108864 ∧ ∀ p ∈ g.m, p.1 ≤ 67108864
  X := Bool
  res := fun x => .bool x
  post := fun g w x w' => x = decide (g.l = g.m.map (upP g.k)) ∧ Ext w w'
def annSameP (g : GPp) (_ : World) : Ann where
  sp := []
  loops := [(4, {
    X := Nat
    sh := fun _ i => [(7, .int .i64 i)]
    inv := fun _ w0 i w => i ≤ g.l.length ∧ g.l.take i = (g.m.map (upP g.k)).take i ∧ Ext w0 w
    mu := fun _ _ i _ => g.l.length - i })]

def spSteps : List (Nat × CallSpec) := [(14, sSN nextL), (16, sSN lastL)]
def spAlive : List (Nat × CallSpec) := [(9, sYes U8), (20, sAt), (22, sIsB), (14, sSN nextL), (16, sSN lastL), (18, sSN ncl), (13, sBackC), (24, sPcs), (26, sRow)]

--#vc told_vc 11 sTold annTold []
--#vc pcs_vc 24 sPcs annPcs []
--#vc row_vc 26 sRow annRow spRow
--#vc sameP_vc 25 sSameP annSameP []
--#vc steps_vc 9 (sYes U8) (annOf spSteps) spSteps
--#vc alive_vc 19 (sYes U8) (annOf spAlive) spAlive

end Go.Proofs.YtniiamobbgnjaaaDoor
