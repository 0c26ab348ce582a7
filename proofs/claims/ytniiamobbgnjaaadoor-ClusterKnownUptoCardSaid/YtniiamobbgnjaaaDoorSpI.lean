/-
  Specifications, chapter 3: the program's iterators, and what is told by them.
-/
import Derived.Test.YtniiamobbgnjaaaDoorSpN
import Derived.Test.YtniiamobbgnjaaaDoorSpR
import Derived.Test.YtniiamobbgnjaaaDoorProg
set_option linter.unusedVariables false
set_option linter.unusedSimpArgs false
namespace Go.Proofs.YtniiamobbgnjaaaDoor
open Go Go.RowKit Vc Ut Tb Cl

def encPc (p : Nat × ByteArray) : List Value := [.int .i64 (p.1 : Int), .string p.2]
def pcP (s : ByteArray) (i : Nat) : Nat × ByteArray := (bp s i, s.extract (bp s i) (bp s (i + 1)))
def pcL (s : ByteArray) : List (Nat × ByteArray) := (List.range (ncl s)).map (pcP s)
def itV (f b : Nat) : Value := .func (.func f) #[] #[.pointer (some ⟨b, 0, none⟩)]
def ones (l : List Nat) : Nat → Prop := fun q => q ∈ l
def ptrB (v : Value) : Nat := match v with | .pointer (some ⟨b, _, _⟩) => b | _ => 0

def itPc : IterSpec where
  G := ByteArray × Nat
  cap := fun g => [.pointer (some ⟨g.2, 0, none⟩)]
  xs := fun g => (pcL g.1).map encPc
  C := fun g q => q = g.2 ∨ q = 0 ∨ q = 1
  pre := fun g w => w.heap[g.2]? = some (.cells #[.string g.1] 9) ∧ U8 w ∧ g.1.size ≤ 67108864
def spItPc : List (Nat × CallSpec) := [(14, sSN nextL)]
def annItPc (g : ByteArray × Nat) (i : ItG) (W : World) : Ann where
  sp := spItPc
  yl := some (ylOf (itPc.xs g) i W)
  loops := [(1, {
    X := Nat × (Nat → Prop)
    sh := fun _ x => [(3, .int .i64 (bp g.1 x.1))]
    inv := fun _ _ x w => x.1 ≤ ncl g.1 ∧ i.J x.1 x.2 w ∧ Mid W i.D0 x.2 w
    mu := fun _ _ x _ => ncl g.1 - x.1 })]

structure GBk where
  s : ByteArray
  bl : Nat
  bs : Nat
  a : Option Addr
  c : Nat
def pcR (s : ByteArray) : List (Nat × ByteArray) := (List.range (ncl s)).map fun k => pcP s (ncl s - 1 - k)
/-- What a way back holds: its borders, its text. -/
def BkAt (g : GBk) (w : World) : Prop := w.heap[g.bl]? = some (.cells #[.slice g.a (ncl g.s + 1) g.c] 31) ∧ Row w 3 1 g.a (ncl g.s + 1) ((bordI g.s).map (Value.int .i64)) g.c ∧ w.heap[g.bs]? = some (.cells #[.string g.s] 9)
def itBk : IterSpec where
  G := GBk
  cap := fun g => [.pointer (some ⟨g.bl, 0, none⟩), .pointer (some ⟨g.bs, 0, none⟩)]
  xs := fun g => (pcR g.s).map encPc
  C := fun g q => q = g.bl ∨ q = g.bs ∨ blk g.a = some q
  pre := fun g w => BkAt g w ∧ g.s.size ≤ 67108864
def annItBk (g : GBk) (i : ItG) (W : World) : Ann where
  sp := []
  yl := some (ylOf (itBk.xs g) i W)
  loops := [(1, {
    X := Nat × (Nat → Prop)
    sh := fun _ x => [(4, .int .i64 ((ncl g.s : Int) - x.1))]
    inv := fun _ _ x w => x.1 ≤ ncl g.s ∧ i.J x.1 x.2 w ∧ Mid W i.D0 x.2 w
    mu := fun _ _ x _ => ncl g.s - x.1 })]

/-- A text's iterator. -/
def sIter (f : Nat) : CallSpec where
  G := ByteArray
  args := fun s => #[.string s]
  pre := fun s w => True
  X := Nat
  res := fun b => itV f b
  post := fun s w b w' => w.heap.size ≤ b ∧ w'.heap[b]? = some (.cells #[.string s] 9) ∧ Ext w w'
def spAllC : List (Nat × CallSpec) := [(31, sIter 47)]
def endsI (s : ByteArray) : List Int := (List.range (ncl s)).map fun i => (bp s (i + 1) : Int)
def annEnds (s : ByteArray) (w00 : World) : Ann where
  sp := spAllC
  ranges := [(3, {
    α := Nat × ByteArray
    enc := encPc
    J := fun e w0 xs k D W => ∃ a c, D = (fun q => q = ptrB (gv e 3) ∨ blk a = some q) ∧ Grow W (ptrB (gv e 3)) 31 3 a c (((endsI s).take k).map (Value.int .i64))
    Jx := fun e w0 _ _ D W => (1 : Nat) = 0 })]
def spCnt : List (Nat × CallSpec) := [(32, sSL .i64 3 endsI)]
def annLastC (s : ByteArray) (w00 : World) : Ann where
  sp := spAllC
  ranges := [(3, {
    α := Nat × ByteArray
    enc := encPc
    J := fun e w0 xs k D W => D = ones [ptrB (gv e 3)] ∧ W.heap[ptrB (gv e 3)]? = some (.cells #[.int .i64 (if k = 0 then 0 else ((bp s k : Int) - bp s (k - 1)))] 3)
    Jx := fun e w0 _ _ D W => (1 : Nat) = 0 })]
def annIsC (g : ByteArray × Int) (w00 : World) : Ann where
  sp := spAllC
  ranges := [(2, {
    α := Nat × ByteArray
    enc := encPc
    exs := [.ret]
    J := fun e w0 xs k D W => D = ones [ptrB (gv e 4)] ∧ (∀ j, j < k → (bp g.1 j : Int) < g.2) ∧ (∃ v, W.heap[ptrB (gv e 4)]? = some (.cells #[.bool v] 4))
    Jx := fun e w0 _ _ D W => D = ones [ptrB (gv e 4)] ∧ W.heap[ptrB (gv e 4)]? = some (.cells #[.bool (isB g.1 g.2)] 4) })]
def annAtC (g : ByteArray × Int) (w00 : World) : Ann where
  sp := spAllC
  ranges := [(3, {
    α := Nat × ByteArray
    enc := encPc
    exs := [.ret]
    J := fun e w0 xs k D W => D = ones [ptrB (gv e 4), ptrB (gv e 5)] ∧ (∀ j, j < k → bp g.1 (j + 1) ≤ clampN g.1 g.2) ∧ (∃ v u, W.heap[ptrB (gv e 4)]? = some (.cells #[.int .i64 v] 3) ∧ W.heap[ptrB (gv e 5)]? = some (.cells #[.int .i64 u] 3))
    Jx := fun e w0 _ _ D W => D = ones [ptrB (gv e 4), ptrB (gv e 5)] ∧ W.heap[ptrB (gv e 4)]? = some (.cells #[.int .i64 (atF g.1 g.2).1] 3) ∧ W.heap[ptrB (gv e 5)]? = some (.cells #[.int .i64 (atF g.1 g.2).2] 3) })]
def sBackC : CallSpec where
  G := ByteArray
  args := fun s => #[.string s]
  pre := fun s w => U8 w ∧ s.size ≤ 67108864
  X := GBk
  res := fun g => .func (.func 33) #[] #[.pointer (some ⟨g.bl, 0, none⟩), .pointer (some ⟨g.bs, 0, none⟩)]
  post := fun s w g w' => g.s = s ∧ BkAt g w' ∧ w.heap.size ≤ g.bl ∧ w.heap.size ≤ g.bs ∧ (∀ q, blk g.a = some q → w.heap.size ≤ q) ∧ Ext w w'

--#vci itPc_vc 47 itPc annItPc spItPc
--#vci itBk_vc 33 itBk annItBk []
--#vc cpieces_vc 31 (sIter 47) (annOf []) []
--#vc call_vc 12 (sIter 47) (annOf spAllC) spAllC
--#vc ends_vc 32 (sSL .i64 3 endsI) annEnds spAllC
--#vc ccount_vc 18 (sSN ncl) (annOf spCnt) spCnt
--#vc clast_vc 16 (sSN lastL) annLastC spAllC
--#vc cis_vc 22 sIsB annIsC spAllC
--#vc cat_vc 20 sAt annAtC spAllC
--#vc cback_vc 13 sBackC (annOf spCnt) spCnt

end Go.Proofs.YtniiamobbgnjaaaDoor
