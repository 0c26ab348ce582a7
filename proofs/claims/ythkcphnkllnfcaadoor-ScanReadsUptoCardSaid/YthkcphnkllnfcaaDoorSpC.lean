/-
  Specifications, chapter 1: iterators.
-/
import Derived.Test.YthkcphnkllnfcaaDoorSpB
import Derived.Test.YthkcphnkllnfcaaDoorProg
set_option linter.unusedVariables false
set_option linter.unusedSimpArgs false
namespace Go.Proofs.YthkcphnkllnfcaaDoor
open Go Go.RowKit Vc Ut

def encIt (p : Nat × Int) : List Value := [.int .i64 (p.1 : Int), .int .i32 p.2]
def atN (s : ByteArray) (n : Nat) : Nat × Int := (pos s n, dcR s (pos s n))
def itV (f b : Nat) : Value := .func (.func f) #[] #[.pointer (some ⟨b, 0, none⟩)]

def itAll : IterSpec where
  G := ByteArray × Nat
  cap := fun g => [.pointer (some ⟨g.2, 0, none⟩)]
  xs := fun g => ((allN g.1).map (atN g.1)).map encIt
  C := fun g q => q = g.2
  pre := fun g w => w.heap[g.2]? = some (.cells #[.string g.1] 9)
def annItAll (g : ByteArray × Nat) (i : ItG) (W : World) : Ann where
  sp := []
  yl := some (ylOf (itAll.xs g) i W)
  loops := [(1, {
    X := Nat × (Nat → Prop)
    sh := fun _ _ => []
    inv := fun e _ x w => x.1 ≤ cnt g.1 ∧ i.J x.1 x.2 w ∧ Mid W i.D0 x.2 w ∧ ∃ r, gv e 6 = .pointer (some ⟨r, 0, none⟩) ∧ W.heap.size ≤ r ∧ ¬ x.2 r ∧ w.heap[r]? = some (.stringIter g.1 (pos g.1 x.1))
    mu := fun _ _ x _ => cnt g.1 - x.1 })]

def itBack : IterSpec where
  G := ByteArray × Nat
  cap := fun g => [.pointer (some ⟨g.2, 0, none⟩)]
  xs := fun g => ((backN g.1).map (atN g.1)).map encIt
  C := fun g q => q = g.2 ∨ q = 0 ∨ q = 1
  pre := fun g w => w.heap[g.2]? = some (.cells #[.string g.1] 9) ∧ U8 w ∧ g.1.size ≤ 67108864
def spItBack : List (Nat × CallSpec) := [(56, sDec lsR lsN)]
def annItBack (g : ByteArray × Nat) (i : ItG) (W : World) : Ann where
  sp := spItBack
  yl := some (ylOf (itBack.xs g) i W)
  loops := [(1, {
    X := Nat × (Nat → Prop)
    sh := fun _ x => [(3, .int .i64 (pos g.1 (cnt g.1 - x.1)))]
    inv := fun _ _ x w => x.1 ≤ cnt g.1 ∧ i.J x.1 x.2 w ∧ Mid W i.D0 x.2 w
    mu := fun _ _ x _ => cnt g.1 - x.1 })]

/-- A text's iterator. -/
def sIter (f : Nat) : CallSpec where
  G := ByteArray
  args := fun s => #[.string s]
  pre := fun s w => True
  X := Nat
  res := fun b => itV f b
  post := fun s w b w' => w.heap.size ≤ b ∧ w'.heap[b]? = some (.cells #[.string s] 9) ∧ Ext w w'

/-- The blocks of a function's own variables. -/
def ones (l : List Nat) : Nat → Prop := fun q => q ∈ l
def ptrB (v : Value) : Nat := match v with | .pointer (some ⟨b, _, _⟩) => b | _ => 0

def spLast : List (Nat × CallSpec) := [(30, sIter 55)]
def annLast (s : ByteArray) (w00 : World) : Ann where
  sp := spLast
  frees := [(4, fun e => ones [ptrB (gv e 2), ptrB (gv e 3)])]
  ranges := [(2, {
    α := Nat × Int
    enc := encIt
    exs := [.ret]
    J := fun e w0 _ k D W => k = 0 ∧ D = ones [ptrB (gv e 2), ptrB (gv e 3)] ∧ W.heap[ptrB (gv e 2)]? = w0.heap[ptrB (gv e 2)]? ∧ W.heap[ptrB (gv e 3)]? = w0.heap[ptrB (gv e 3)]?
    Jx := fun e w0 _ _ D W => D = ones [ptrB (gv e 2), ptrB (gv e 3)] ∧ 0 < cnt s ∧ W.heap[ptrB (gv e 2)]? = some (.cells #[.int .i32 (lsR s)] 21) ∧ W.heap[ptrB (gv e 3)]? = some (.cells #[.int .i64 (lsN s)] 3) })]

/-- Does an iterator go over just these? It does. -/
structure GGoes where
  f : Nat
  b : Nat
  s : ByteArray
  l : List Nat
  C : Nat → Prop
  a : Option Addr
  c : Nat
  most : Int
def sGoes : CallSpec where
  G := GGoes
  args := fun g => #[itV g.f g.b, .slice g.a g.l.length g.c, .int .i64 g.most]
  pre := fun g w => IterAt Tryd.prog (itV g.f g.b) ((g.l.map (atN g.s)).map encIt) g.C w ∧ (∀ q, g.C q → q < w.heap.size) ∧ CellsAt w g.a (g.l.flatMap (oneV g.s)) ∧ g.l.length ≤ 67108864
  X := Unit
  res := fun _ => .bool true
  post := fun g w _ w' => Ext w w'
def annGoes (g : GGoes) (w00 : World) : Ann where
  sp := []
  ranges := [(5, {
    α := Nat × Int
    enc := encIt
    exs := [.ret]
    J := fun e w0 _ k D W => D = ones [ptrB (gv e 7), ptrB (gv e 6)] ∧ W.heap[ptrB (gv e 7)]? = some (.cells #[.int .i64 (k : Int)] 3) ∧ (∃ v, W.heap[ptrB (gv e 6)]? = some (.cells #[.bool v] 4))
    Jx := fun e w0 _ _ D W => D = ones [ptrB (gv e 7), ptrB (gv e 6)] ∧ W.heap[ptrB (gv e 6)]? = some (.cells #[.bool true] 4) })]

--#vci itAll_vc 54 itAll annItAll []
--#vci itBack_vc 55 itBack annItBack spItBack
--#vc sall_vc 29 (sIter 54) (annOf []) []
--#vc sback_vc 30 (sIter 55) (annOf []) []
--#vc last_vc 15 (sDec lsR lsN) annLast spLast
--#vc goes_vc 31 sGoes annGoes []

end Go.Proofs.YthkcphnkllnfcaaDoor
