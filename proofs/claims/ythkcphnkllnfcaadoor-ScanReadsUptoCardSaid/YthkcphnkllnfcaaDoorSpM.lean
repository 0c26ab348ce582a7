/-
  Specifications, chapter 1: readers, the program's and the document's.
-/
import Derived.Test.YthkcphnkllnfcaaDoorSpD
set_option linter.unusedVariables false
set_option linter.unusedSimpArgs false
namespace Go.Proofs.YthkcphnkllnfcaaDoor
open Go Go.RowKit Vc Ut

def bytesV (s : ByteArray) : List Value := s.data.toList.map fun b => .int .u8 (b.toNat : Int)
/-- How many characters a reader tells of a text. -/
def fdN (s : ByteArray) : Nat := ((List.range (cnt s)).takeWhile fun n => wholeB (s.extract (pos s n) s.size)).length
def fdR (s : ByteArray) : List Int := (runes s).take (fdN s)
def fdH (s : ByteArray) : ByteArray := s.extract (pos s (fdN s)) s.size

structure GBy where
  ad : Option Addr
  c : Nat
  s : ByteArray
def sFullB : CallSpec where
  G := GBy
  args := fun g => #[.slice g.ad g.s.size g.c]
  pre := fun g w => U8 w ∧ CellsAt w g.ad (bytesV g.s)
  X := Bool
  res := fun x => .bool x
  post := fun g w x w' => x = wholeB g.s ∧ Ext w w'
def sDecB : CallSpec where
  G := GBy
  args := fun g => #[.slice g.ad g.s.size g.c]
  pre := fun g w => U8 w ∧ CellsAt w g.ad (bytesV g.s) ∧ 0 < g.s.size
  X := Int × Nat
  res := fun x => .tuple #[.int .i32 x.1, .int .i64 x.2]
  post := fun g w x w' => x.1 = nxR g.s ∧ x.2 = nxN g.s ∧ Ext w w'

/-- A reader holds these bytes. -/
structure RdIn (w : World) (rb : Nat) (ha : Option Addr) (hc : Nat) (h : ByteArray) : Prop where
  box : w.heap[rb]? = some (.cells #[.slice ha h.size hc] 71)
  cells : CellsAt w ha (bytesV h)
  le : h.size ≤ hc
/-- A list made by the call that began in w. -/
structure NewRow (w w' : World) (e : TypeId) (a : Option Addr) (n : Nat) (vs : List Value) (c : Nat) : Prop where
  row : Row w' e 1 a n vs c
  new : ∀ g, blk a = some g → w.heap.size ≤ g

structure GRd where
  rb : Nat
  ha : Option Addr
  hc : Nat
  h : ByteArray
  ad : Option Addr
  c : Nat
  b : ByteArray
def sFeed : CallSpec where
  G := GRd
  args := fun g => #[.pointer (some ⟨g.rb, 0, none⟩), .slice g.ad g.b.size g.c]
  pre := fun g w => U8 w ∧ RdIn w g.rb g.ha g.hc g.h ∧ CellsAt w g.ad (bytesV g.b) ∧ g.h.size ≤ 67108864 ∧ g.b.size ≤ 67108864
  X := (Option Addr × Nat × Nat) × Option Addr × Nat
  res := fun x => .slice x.1.1 x.1.2.1 x.1.2.2
  post := fun g w x w' => x.1.2.1 = (fdR (g.h ++ g.b)).length ∧ NewRow w w' 21 x.1.1 x.1.2.1 ((fdR (g.h ++ g.b)).map (Value.int .i32)) x.1.2.2 ∧ RdIn w' g.rb x.2.1 x.2.2 (fdH (g.h ++ g.b)) ∧ (∀ q, blk x.2.1 = some q → w.heap.size ≤ q) ∧ (∀ q, blk x.1.1 = some q → blk x.2.1 ≠ some q) ∧ Fr (fun q => q = g.rb) w w'
def spFeed : List (Nat × CallSpec) := [(57, sFullB), (58, sDecB)]
def annFeed (g : GRd) (w00 : World) : Ann where
  sp := spFeed
  loops := [(5, {
    X := Nat × (Option Addr × Nat) × (Option Addr × Nat)
    sh := fun _ x => [(5, .slice x.2.1.1 ((g.h ++ g.b).size - pos (g.h ++ g.b) x.1) x.2.1.2), (6, .slice x.2.2.1 x.1 x.2.2.2)]
    inv := fun _ w0 x w => x.1 ≤ cnt (g.h ++ g.b) ∧ (∀ j, j < x.1 → wholeB ((g.h ++ g.b).extract (pos (g.h ++ g.b) j) (g.h ++ g.b).size) = true) ∧ CellsAt w0 x.2.1.1 (bytesV ((g.h ++ g.b).extract (pos (g.h ++ g.b) x.1) (g.h ++ g.b).size)) ∧ (g.h ++ g.b).size - pos (g.h ++ g.b) x.1 ≤ x.2.1.2 ∧ Made w0 w 21 1 x.2.2.1 x.1 (((runes (g.h ++ g.b)).take x.1).map (Value.int .i32)) x.2.2.2
    mu := fun _ _ x _ => cnt (g.h ++ g.b) - x.1 })]

structure GEnd where
  rb : Nat
  ha : Option Addr
  hc : Nat
  h : ByteArray
def badsL (n : Nat) : List Int := List.replicate n 65533
def sEnd : CallSpec where
  G := GEnd
  args := fun g => #[.pointer (some ⟨g.rb, 0, none⟩)]
  pre := fun g w => RdIn w g.rb g.ha g.hc g.h ∧ g.h.size ≤ 67108864
  X := Option Addr × Nat × Nat
  res := fun x => .slice x.1 x.2.1 x.2.2
  post := fun g w x w' => x.2.1 = g.h.size ∧ NewRow w w' 21 x.1 x.2.1 ((badsL g.h.size).map (Value.int .i32)) x.2.2 ∧ w'.heap[g.rb]? = some (.cells #[.slice none 0 0] 71) ∧ Fr (fun q => q = g.rb) w w'
def annEnd (g : GEnd) (w00 : World) : Ann where
  sp := []
  loops := [(5, {
    X := Nat × Option Addr × Nat
    sh := fun _ x => [(17, .int .i64 x.1), (3, .slice x.2.1 x.1 x.2.2)]
    inv := fun _ w0 x w => x.1 ≤ g.h.size ∧ Made w00 w 21 1 x.2.1 x.1 ((badsL x.1).map (Value.int .i32)) x.2.2
    mu := fun _ _ x _ => g.h.size - x.1 })]
/-- .. tells how many bytes are held. -/
def sHeldN : CallSpec where
  G := GEnd
  args := fun g => #[.pointer (some ⟨g.rb, 0, none⟩)]
  pre := fun g w => RdIn w g.rb g.ha g.hc g.h
  X := Nat
  res := fun x => .int .i64 x
  post := fun g w x w' => x = g.h.size ∧ w' = w
def sNew : CallSpec where
  G := Unit
  args := fun _ => #[]
  pre := fun _ _ => True
  X := Nat
  res := fun b => .pointer (some ⟨b, 0, none⟩)
  post := fun _ w b w' => b = w.heap.size ∧ RdIn w' b none 0 ⟨#[]⟩ ∧ Ext w w'

/-! ### The document's -/

def RfIn (w : World) (rb : Nat) (h : ByteArray) : Prop := w.heap[rb]? = some (.cells #[.string h] 58)
structure GRf where
  rb : Nat
  h : ByteArray
  ad : Option Addr
  c : Nat
  b : ByteArray
def sRFeed : CallSpec where
  G := GRf
  args := fun g => #[.pointer (some ⟨g.rb, 0, none⟩), .slice g.ad g.b.size g.c]
  pre := fun g w => U8 w ∧ RfIn w g.rb g.h ∧ CellsAt w g.ad (bytesV g.b) ∧ (g.h ++ g.b).size ≤ 67108864
  X := Option Addr × Nat × Nat
  res := fun x => .slice x.1 x.2.1 x.2.2
  post := fun g w x w' => x.2.1 = (fdR (g.h ++ g.b)).length ∧ NewRow w w' 21 x.1 x.2.1 ((fdR (g.h ++ g.b)).map (Value.int .i32)) x.2.2 ∧ RfIn w' g.rb (fdH (g.h ++ g.b)) ∧ Fr (fun q => q = g.rb) w w'
def spRFeed : List (Nat × CallSpec) := [(19, sTest wholeB), (16, sDec nxR nxN)]
def annRFeed (g : GRf) (w00 : World) : Ann where
  sp := spRFeed
  loops := [(3, {
    X := Nat × (Option Addr × Nat)
    sh := fun _ x => [(5, .string ((g.h ++ g.b).extract (pos (g.h ++ g.b) x.1) (g.h ++ g.b).size)), (6, .slice x.2.1 x.1 x.2.2)]
    inv := fun _ w0 x w => x.1 ≤ cnt (g.h ++ g.b) ∧ (∀ j, j < x.1 → wholeB ((g.h ++ g.b).extract (pos (g.h ++ g.b) j) (g.h ++ g.b).size) = true) ∧ Made w0 w 21 1 x.2.1 x.1 (((runes (g.h ++ g.b)).take x.1).map (Value.int .i32)) x.2.2
    mu := fun _ _ x _ => cnt (g.h ++ g.b) - x.1 })]
structure GRe where
  rb : Nat
  h : ByteArray
def sREnd : CallSpec where
  G := GRe
  args := fun g => #[.pointer (some ⟨g.rb, 0, none⟩)]
  pre := fun g w => RfIn w g.rb g.h ∧ g.h.size ≤ 67108864
  X := Option Addr × Nat × Nat
  res := fun x => .slice x.1 x.2.1 x.2.2
  post := fun g w x w' => x.2.1 = g.h.size ∧ NewRow w w' 21 x.1 x.2.1 ((badsL g.h.size).map (Value.int .i32)) x.2.2 ∧ RfIn w' g.rb ⟨#[]⟩ ∧ Fr (fun q => q = g.rb) w w'
def annREnd (g : GRe) (w00 : World) : Ann where
  sp := []
  loops := [(3, {
    X := Nat × Option Addr × Nat
    sh := fun _ x => [(4, .int .i64 x.1), (3, .slice x.2.1 x.1 x.2.2)]
    inv := fun _ w0 x w => x.1 ≤ g.h.size ∧ Made w0 w 21 1 x.2.1 x.1 ((badsL x.1).map (Value.int .i32)) x.2.2
    mu := fun _ _ x _ => g.h.size - x.1 })]
def sRHeld : CallSpec where
  G := GRe
  args := fun g => #[.pointer (some ⟨g.rb, 0, none⟩)]
  pre := fun g w => RfIn w g.rb g.h
  X := Nat
  res := fun x => .int .i64 x
  post := fun g w x w' => x = g.h.size ∧ w' = w

--#vc fullB_vc 57 sFullB (annOf []) []
--#vc feed_vc 40 sFeed annFeed spFeed
--#vc end_vc 41 sEnd annEnd []
--#vc held_vc 42 sHeldN (annOf []) []
--#vc new_vc 44 sNew (annOf []) []
--#vc rfeed_vc 59 sRFeed annRFeed spRFeed
--#vc rend_vc 60 sREnd annREnd []
--#vc rheld_vc 46 sRHeld (annOf []) []

end Go.Proofs.YthkcphnkllnfcaaDoor
