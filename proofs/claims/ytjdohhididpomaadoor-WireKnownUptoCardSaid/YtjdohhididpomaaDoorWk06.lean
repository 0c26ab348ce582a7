/-
  Texts joined by program: SpRd, Pc, Sw, SpSf, SpSa, Qa.
-/
import Derived.Test.YtjdohhididpomaaDoorWk05
import Derived.Test.YtjdohhididpomaaDoorWk04
set_option linter.unusedVariables false
set_option linter.unusedSimpArgs false

section
namespace Go.Proofs.YtjdohhididpomaaDoor
open Go Go.RowKit Vc Ut Tb Cl
def spValid : List (Nat × CallSpec) := [(42, sTest validB)]
def bytesV (s : ByteArray) : List Value := s.data.toList.map fun b => .int .u8 (b.toNat : Int)
def fdN (s : ByteArray) : Nat := ((List.range (cnt s)).takeWhile fun n => wholeB (s.extract (pos s n) s.size)).length
def fdR (s : ByteArray) : List Int := (runes s).take (fdN s)
def fdH (s : ByteArray) : ByteArray := s.extract (pos s (fdN s)) s.size
structure GBy where
  ad : Option Addr
  c : Nat
  s : ByteArray
def sFullB : CallSpec where
  G := GBy
  args := fun g => #[.slice g.ad g.s.size g.c]
  pre := fun g w => U8 w ∧ CellsAt w g.ad (bytesV g.s)
  X := Bool
  res := fun x => .bool x
  post := fun g w x w' => x = wholeB g.s ∧ Ext w w'
def sDecB : CallSpec where
  G := GBy
  args := fun g => #[.slice g.ad g.s.size g.c]
  pre := fun g w => U8 w ∧ CellsAt w g.ad (bytesV g.s) ∧ 0 < g.s.size
  X := Int × Nat
  res := fun x => .tuple #[.int .i32 x.1, .int .i64 x.2]
  post := fun g w x w' => x.1 = nxR g.s ∧ x.2 = nxN g.s ∧ Ext w w'
structure RdIn (w : World) (rb : Nat) (ha : Option Addr) (hc : Nat) (h : ByteArray) : Prop where
  box : w.heap[rb]? = some (.cells #[.slice ha h.size hc] 82)
  cells : CellsAt w ha (bytesV h)
  le : h.size ≤ hc
structure NewRow (w w' : World) (e : TypeId) (a : Option Addr) (n : Nat) (vs : List Value) (c : Nat) : Prop where
  row : Row w' e 1 a n vs c
  new : ∀ g, blk a = some g → w.heap.size ≤ g
structure GRd where
  rb : Nat
  ha : Option Addr
  hc : Nat
  h : ByteArray
  ad : Option Addr
  c : Nat
  b : ByteArray
def sFeed : CallSpec where
  G := GRd
  args := fun g => #[.pointer (some ⟨g.rb, 0, none⟩), .slice g.ad g.b.size g.c]
  pre := fun g w => U8 w ∧ RdIn w g.rb g.ha g.hc g.h ∧ CellsAt w g.ad (bytesV g.b) ∧ g.h.size ≤ 67108864 ∧ g.b.size ≤ 67108864
  X := (Option Addr × Nat × Nat) × Option Addr × Nat
  res := fun x => .slice x.1.1 x.1.2.1 x.1.2.2
  post := fun g w x w' => x.1.2.1 = (fdR (g.h ++ g.b)).length ∧ NewRow w w' 21 x.1.1 x.1.2.1 ((fdR (g.h ++ g.b)).map (Value.int .i32)) x.1.2.2 ∧ RdIn w' g.rb x.2.1 x.2.2 (fdH (g.h ++ g.b)) ∧ (∀ q, blk x.2.1 = some q → w.heap.size ≤ q) ∧ (∀ q, blk x.1.1 = some q → blk x.2.1 ≠ some q) ∧ Fr (fun q => q = g.rb) w w'
def spFeed : List (Nat × CallSpec) := [(34, sFullB), (35, sDecB)]
def annFeed (g : GRd) (w00 : World) : Ann where
  sp := spFeed
  loops := [(5, {
    X := Nat × (Option Addr × Nat) × (Option Addr × Nat)
    sh := fun _ x => [(5, .slice x.2.1.1 ((g.h ++ g.b).size - pos (g.h ++ g.b) x.1) x.2.1.2), (6, .slice x.2.2.1 x.1 x.2.2.2)]
    inv := fun _ w0 x w => x.1 ≤ cnt (g.h ++ g.b) ∧ (∀ j, j < x.1 → wholeB ((g.h ++ g.b).extract (pos (g.h ++ g.b) j) (g.h ++ g.b).size) = true) ∧ CellsAt w0 x.2.1.1 (bytesV ((g.h ++ g.b).extract (pos (g.h ++ g.b) x.1) (g.h ++ g.b).size)) ∧ (g.h ++ g.b).size - pos (g.h ++ g.b) x.1 ≤ x.2.1.2 ∧ Made w0 w 21 1 x.2.2.1 x.1 (((runes (g.h ++ g.b)).take x.1).map (Value.int .i32)) x.2.2.2
    mu := fun _ _ x _ => cnt (g.h ++ g.b) - x.1 })]
structure GEnd where
  rb : Nat
  ha : Option Addr
  hc : Nat
  h : ByteArray
def badsL (n : Nat) : List Int := List.replicate n 65533
def sEnd : CallSpec where
  G := GEnd
  args := fun g => #[.pointer (some ⟨g.rb, 0, none⟩)]
  pre := fun g w => RdIn w g.rb g.ha g.hc g.h ∧ g.h.size ≤ 67108864
  X := Option Addr × Nat × Nat
  res := fun x => .slice x.1 x.2.1 x.2.2
  post := fun g w x w' => x.2.1 = g.h.size ∧ NewRow w w' 21 x.1 x.2.1 ((badsL g.h.size).map (Value.int .i32)) x.2.2 ∧ w'.heap[g.rb]? = some (.cells #[.slice none 0 0] 82) ∧ Fr (fun q => q = g.rb) w w'
def annEnd (g : GEnd) (w00 : World) : Ann where
  sp := []
  loops := [(5, {
    X := Nat × Option Addr × Nat
    sh := fun _ x => [(17, .int .i64 x.1), (3, .slice x.2.1 x.1 x.2.2)]
    inv := fun _ w0 x w => x.1 ≤ g.h.size ∧ Made w00 w 21 1 x.2.1 x.1 ((badsL x.1).map (Value.int .i32)) x.2.2
    mu := fun _ _ x _ => g.h.size - x.1 })]
def sHeldN : CallSpec where
  G := GEnd
  args := fun g => #[.pointer (some ⟨g.rb, 0, none⟩)]
  pre := fun g w => RdIn w g.rb g.ha g.hc g.h
  X := Nat
  res := fun x => .int .i64 x
  post := fun g w x w' => x = g.h.size ∧ w' = w
def sNew : CallSpec where
  G := Unit
  args := fun _ => #[]
  pre := fun _ _ => True
  X := Nat
  res := fun b => .pointer (some ⟨b, 0, none⟩)
  post := fun _ w b w' => b = w.heap.size ∧ RdIn w' b none 0 ⟨#[]⟩ ∧ Ext w w'
end Go.Proofs.YtjdohhididpomaaDoor
end

section
namespace Go.Proofs.YtjdohhididpomaaDoor
open Go Vc Ut Tb Cl
def pcP (s : ByteArray) (i : Nat) : Nat × ByteArray := (bp s i, s.extract (bp s i) (bp s (i + 1)))
def pcL (s : ByteArray) : List (Nat × ByteArray) := (List.range (ncl s)).map (pcP s)
end Go.Proofs.YtjdohhididpomaaDoor
end

section
namespace Go.Proofs.YtjdohhididpomaaDoor
open Go Vc Ut Tb Cl
structure Lk where
  tab : Int
  wide : Bool
  want : Int
  join : Bool
  raw : Bool
def lkC (l : Lk) : List Value := [.int .i64 l.tab, .bool l.wide, .int .i8 l.want, .bool l.join, .bool l.raw]
def lkV (l : Lk) : Value := .agg #[.int .i64 l.tab, .bool l.wide, .int .i8 l.want, .bool l.join, .bool l.raw]
def tabN (t : Int) : Nat := if t < 1 ∨ 16 < t then 8 else t.toNat
def stopN (c : Int) (t : Int) : Nat := tabN t - c.toNat % tabN t
def hexB (d : Nat) : UInt8 := if d < 10 then UInt8.ofNat (48 + d) else UInt8.ofNat (87 + d)
def badS (b : Nat) : ByteArray := ⟨#[60, hexB (b / 16), hexB (b % 16), 62]⟩
def blankS (n : Nat) : ByteArray := ⟨(List.replicate n 32).toArray⟩
def numS (x : Nat) : Nat → List UInt8
  | 0 => []
  | j + 1 => hexB (x / 16 ^ j % 16) :: numS x j
def strL (l : List UInt8) : ByteArray := ⟨l.toArray⟩
def digN (x : Nat) : Nat := if x < 256 then 2 else if x < 4096 then 3 else if x < 65536 then 4 else if x < 1048576 then 5 else 6
def numJ (x : Nat) : Nat := if digN x < 4 then 4 else digN x
def nameS (x : Nat) : ByteArray := (strL [60] ++ strL (numS x (numJ x))) ++ strL [62]
def secR (k : ByteArray) : Int := if 1 < cnt k then sg k 1 else 0
def fmtB (x : Int) : Bool := decide (128 ≤ x ∧ x ≤ 159) || (x == 8232 || x == 8233) || (kindR x == 1 && !joinB x)
def cutS (k : ByteArray) : ByteArray := if cnt k = 32 then k.extract 0 (pos k 31) else k
def ctlS (x : Int) : ByteArray := strL [94, if x = 127 then 63 else UInt8.ofNat (x.toNat + 64)]
def oneC (k : ByteArray) (col : Int) (l : Lk) : ByteArray × Nat :=
  if isBad k 0 = true then (badS (bt k 0), 4)
  else if sg k 0 = 9 then (blankS (stopN col l.tab), stopN col l.tab)
  else if sg k 0 = 10 ∨ secR k = 10 then (⟨#[]⟩, 0)
  else if sg k 0 < 32 ∨ sg k 0 = 127 then (ctlS (sg k 0), 2)
  else if fmtB (sg k 0) = true then (if l.raw = true then (nameS (sg k 0).toNat, (nameS (sg k 0).toNat).size) else (⟨#[]⟩, 0))
  else if kindR (sg k 0) = 2 ∨ joinB (sg k 0) = true then (⟨#[226, 151, 140]⟩ ++ cutS k, 1)
  else if (regB (sg k 0) = true ∧ regB (secR k) = true) ∨ (kindR (sg k 0) = 7 ∧ wideR (sg k 0) l.wide = 1 ∧ secR k = 65039) then (k, 2)
  else if wideR (sg k 0) l.wide = 0 then (⟨#[]⟩, 0) else (k, (wideR (sg k 0) l.wide).toNat)
def textC (c : ByteArray) (col : Int) (l : Lk) : ByteArray × Nat := if c.size = 0 then (⟨#[]⟩, 0) else oneC (pcP c 0).2 col l
def wdU (s : ByteArray) (c : Int) (l : Lk) : Nat → Nat
  | 0 => 0
  | k + 1 => wdU s c l k + (oneC (pcP s k).2 (c + wdU s c l k) l).2
def wideS (s : ByteArray) (col : Int) (l : Lk) : Nat := wdU s ((col.toNat % tabN l.tab : Nat) : Int) l (ncl s)
def cutI (s : ByteArray) (w : Int) (l : Lk) : Nat := ((List.range (ncl s)).find? fun i => decide (w < (wdU s 0 l (i + 1) : Int))).getD (ncl s)
def cutP (s : ByteArray) (w : Int) (l : Lk) : Nat := if cutI s w l < ncl s then bp s (cutI s w l) else if w < 0 then 0 else s.size
def rawL : Lk := ⟨0, false, 0, false, true⟩
def plainP (k : ByteArray) : ByteArray := if k = ⟨#[13, 10]⟩ then ⟨#[94, 77, 94, 74]⟩ else if k = ⟨#[10]⟩ then ⟨#[94, 74]⟩ else if k = ⟨#[9]⟩ then ⟨#[94, 73]⟩ else (oneC k 0 rawL).1
def plainU (s : ByteArray) : Nat → ByteArray
  | 0 => ⟨#[]⟩
  | k + 1 => plainU s k ++ plainP (pcP s k).2
def plainS (s : ByteArray) : ByteArray := plainU s (ncl s)
end Go.Proofs.YtjdohhididpomaaDoor
end

section
namespace Go.Proofs.YtjdohhididpomaaDoor
open Go Go.RowKit Vc Ut Tb Cl
def DB (w : World) : Prop := w.cell? ⟨5, 15, none⟩ = some (.int .u8 4)
def sTz (k : IntKind) : CallSpec where
  G := Unit
  args := fun _ => #[.int k 16]
  pre := fun _ w => DB w
  X := Unit
  res := fun _ => .int .i64 4
  post := fun _ w _ w' => w' = w
def sPow : CallSpec where
  G := Unit
  args := fun _ => #[.int .i64 16]
  pre := fun _ _ => True
  X := Unit
  res := fun _ => .bool true
  post := fun _ w _ w' => w' = w
def u8L (l : List UInt8) : List Value := l.map fun b => .int .u8 (b.toNat : Nat)
def sBitD (d : Nat) : CallSpec where
  G := Nat
  args := fun u => #[.slice none 0 0, .int .u64 u, .int .i64 16, .bool false, .bool false]
  pre := fun u w => DB w ∧ 16 ^ (d - 1) ≤ u ∧ u < 16 ^ d
  X := Unit × ByteArray
  res := fun x => .tuple #[.slice none 0 0, .string x.2]
  post := fun u w x w' => x.2 = strL (numS u d) ∧ Ext w w'
def sBits : CallSpec where
  G := Nat
  args := fun u => #[.slice none 0 0, .int .u64 u, .int .i64 16, .bool false, .bool false]
  pre := fun u w => DB w ∧ 16 ≤ u ∧ u < 16777216
  X := Unit × ByteArray
  res := fun x => .tuple #[.slice none 0 0, .string x.2]
  post := fun u w x w' => x.2 = strL (numS u (digN u)) ∧ Ext w w'
def spTz : List (Nat × CallSpec) := [(97, sTz .u64)]
def spBit : List (Nat × CallSpec) := [(92, sPow), (93, sTz .u64)]
def arrC (u j : Nat) : List Value := List.replicate (65 - j) (.int .u8 0) ++ u8L (numS u j)
def annBitD (d : Nat) (i : Int) (u : Nat) (w00 : World) : Ann where
  sp := spBit
  loops := [(11, {
    X := Nat
    sh := fun _ j => [(13, .int .i64 (65 - j)), (1, .int .u64 (u / 16 ^ j : Nat))]
    inv := fun e w0 j w => j + 1 ≤ d ∧ (∃ b, gv e 12 = .pointer (some ⟨b, 0, none⟩) ∧ w00.heap.size ≤ b ∧ w.heap[b]? = some (.cells (arrC u j).toArray 145)) ∧ Ext w00 w
    mu := fun _ _ j _ => d - j })]
  cuts := [(11, 14, { X := Unit, sh := fun _ _ => [(13, .int .i64 i), (1, .int .u64 (u / 16 ^ (d - 1) : Nat))], inv := fun e w0 _ w => (∃ b j, gv e 12 = .pointer (some ⟨b, 0, none⟩) ∧ w00.heap.size ≤ b ∧ j + 1 = d ∧ w.heap[b]? = some (.cells (arrC u j).toArray 145)) ∧ Ext w00 w })]
def sFmtI : CallSpec where
  G := Nat
  args := fun u => #[.int .i64 u, .int .i64 16]
  pre := fun u w => DB w ∧ 16 ≤ u ∧ u < 16777216
  X := ByteArray
  res := fun x => .string x
  post := fun u w x w' => x = strL (numS u (digN u)) ∧ Ext w w'
def spFmtI : List (Nat × CallSpec) := [(82, sBits)]
def spFmt : List (Nat × CallSpec) := [(88, sFmtI)]
def sNamed : CallSpec where
  G := Nat
  args := fun u => #[.int .i32 u]
  pre := fun u w => DB w ∧ 16 ≤ u ∧ u ≤ 1114111
  X := ByteArray
  res := fun x => .string x
  post := fun u w x w' => x = nameS u ∧ Ext w w'
def spNamed : List (Nat × CallSpec) := [(77, sFmtI)]
def annNamed (u : Nat) (_ : World) : Ann where
  sp := spNamed
  loops := [(2, {
    X := Nat
    sh := fun _ j => [(3, .string (strL (numS u j)))]
    inv := fun _ w0 j w => digN u ≤ j ∧ j ≤ numJ u ∧ w = w0
    mu := fun _ _ j _ => 4 - j })]
def sNumX : CallSpec where
  G := Nat
  args := fun u => #[.int .i32 u]
  pre := fun u w => 16 ≤ u ∧ u ≤ 1114111
  X := ByteArray
  res := fun x => .string x
  post := fun u w x w' => x = strL (numS u (numJ u)) ∧ Ext w w'
structure GNm where
  j : Nat
  a : Option Addr
  c : Nat
def annNumX (u : Nat) (w00 : World) : Ann where
  sp := []
  loops := [(3, {
    X := GNm
    sh := fun _ x => [(4, .int .i64 (u / 16 ^ x.j : Nat)), (3, .slice x.a x.j x.c)]
    inv := fun _ _ x w => x.j ≤ numJ u ∧ Made w00 w 5 1 x.a x.j (u8L (numS u x.j)) x.c
    mu := fun _ _ x _ => 10 - x.j })]
def sBlanks : CallSpec where
  G := Nat
  args := fun n => #[.int .i64 n]
  pre := fun n w => n ≤ 16
  X := ByteArray
  res := fun x => .string x
  post := fun n w x w' => x = blankS n ∧ Ext w w'
def annBlanks (n : Nat) (w00 : World) : Ann where
  sp := []
  loops := [(3, {
    X := GNm
    sh := fun _ x => [(4, .int .i64 x.j), (3, .slice x.a x.j x.c)]
    inv := fun _ _ x w => x.j ≤ n ∧ Made w00 w 5 1 x.a x.j (u8L (List.replicate x.j 32)) x.c
    mu := fun _ _ x _ => n - x.j })]
end Go.Proofs.YtjdohhididpomaaDoor
end

section
namespace Go.Proofs.YtjdohhididpomaaDoor
open Go Go.RowKit Vc Ut Tb Cl
def sStop : CallSpec where
  G := Int × Lk
  args := fun g => #[.int .i64 g.1, lkV g.2]
  pre := fun _ _ => True
  X := Nat
  res := fun x => .int .i64 x
  post := fun g w x w' => x = stopN g.1 g.2.tab ∧ Ext w w'
def sRep : CallSpec where
  G := Nat
  args := fun n => #[.string ⟨#[32]⟩, .int .i64 n]
  pre := fun n _ => n ≤ 16
  X := ByteArray
  res := fun x => .string x
  post := fun n w x w' => x = blankS n ∧ Ext w w'
structure GK6 where
  k : ByteArray
  col : Int
  l : Lk
  a : Option Addr
  c : Nat
def twoB (k : ByteArray) (l : Lk) : Bool := (regB (sg k 0) && regB (secR k)) || (kindR (sg k 0) == 7 && wideR (sg k 0) l.wide == 1 && secR k == 65039)
def lateB (x : Int) : Bool := x == 8232 || x == 8233 || (kindR x == 1 && !joinB x)
def sOneP : CallSpec where
  G := GK6
  args := fun g => #[.string g.k, .slice g.a (cnt g.k) g.c, .int .i64 g.col, lkV g.l]
  pre := fun g w => DB w ∧ g.k.size ≤ 67108864 ∧ ncl g.k = 1 ∧ isBad g.k 0 = false ∧ cnt g.k ≤ g.c ∧ CellsAt w g.a ((runes g.k).map (Value.int .i32))
  X := ByteArray × Nat
  res := fun x => .tuple #[.string x.1, .int .i64 x.2]
  post := fun g w x w' => x = oneC g.k g.col g.l ∧ Ext w w'
def sOneL (b : Bool) : CallSpec where
  G := GK6
  args := fun g => #[.string g.k, .slice g.a (cnt g.k) g.c, .int .i64 g.col, lkV g.l]
  pre := fun g w => lateB (sg g.k 0) = b ∧ sOneP.pre g w
  X := ByteArray × Nat
  res := fun x => .tuple #[.string x.1, .int .i64 x.2]
  post := fun g w x w' => x = oneC g.k g.col g.l ∧ Ext w w'
def spOneP : List (Nat × CallSpec) := [(61, sStop), (62, sRep), (38, sRuneX .i8 kindR), (63, sNamed), (64, sWide (fun w w' => Ext w w')), (65, sRB regB)]
def cutsOne (g : GK6) : List (Nat × Nat × CutAnn) :=
  [(3, 4, { X := Unit, sh := fun _ _ => [(11, .int .i32 (secR g.k))], inv := fun _ w0 _ w => w = w0 }),
    (28, 29, { X := Unit, sh := fun _ _ => [(99, .bool (twoB g.k g.l))], inv := fun _ w0 _ w => Ext w0 w })]
def annOneT (g : GK6) (_ : World) : Ann where
  sp := spOneP
  cuts := cutsOne g
def annOneF (g : GK6) (_ : World) : Ann where
  sp := spOneP
  cuts := (11, 13, { X := Unit, sh := fun _ _ => [(45, .bool (lateB (sg g.k 0)))], inv := fun _ w0 _ w => Ext w0 w }) :: cutsOne g
structure GT6 where
  s : ByteArray
  col : Int
  l : Lk
def sTextC : CallSpec where
  G := GT6
  args := fun g => #[.string g.s, .int .i64 g.col, lkV g.l]
  pre := fun g w => U8 w ∧ DB w ∧ g.s.size ≤ 67108864
  X := ByteArray × Nat
  res := fun x => .tuple #[.string x.1, .int .i64 x.2]
  post := fun g w x w' => x = textC g.s g.col g.l ∧ Ext w w'
def spTextP : List (Nat × CallSpec) := [(44, sSN nextL), (33, sDec nxR nxN), (45, sOneP)]
def sOneR : CallSpec where
  G := GK6
  args := fun g => #[.slice g.a (cnt g.k) g.c, .string g.k, .int .i64 g.col, lkV g.l]
  pre := fun g w => g.k.size ≤ 67108864 ∧ ncl g.k = 1 ∧ cnt g.k ≤ g.c ∧ CellsAt w g.a ((List.range (cnt g.k)).flatMap (sgnV g.k))
  X := ByteArray × Nat
  res := fun x => .tuple #[.string x.1, .int .i64 x.2]
  post := fun g w x w' => x = oneC g.k g.col g.l ∧ Ext w w'
end Go.Proofs.YtjdohhididpomaaDoor
end

section
namespace Go.Proofs.YtjdohhididpomaaDoor
open Go Vc Ut Tb Cl
structure Ce where
  t : ByteArray
  p : Int
  a : Int
  n : Int
  r : Bool
  st : Nat
 deriving DecidableEq
def ceV (c : Ce) : List Value := [.string c.t, .int .i8 c.p, .int .i64 c.a, .int .i64 c.n, .bool c.r, .int .u16 c.st]
def blkC (st : Nat) : Ce := ⟨⟨#[]⟩, 0, 0, 0, false, st⟩
def hlfC (st : Nat) : Ce := ⟨⟨#[]⟩, 1, 0, 0, false, st⟩
def txC (c : Ce) : ByteArray := if c.p = 0 ∧ c.t.size = 0 then ⟨#[32]⟩ else c.t
def alikeB (a b : Ce) : Bool := a.p == b.p && (a.st == b.st && decide (txC a = txC b))
def lkW (wd : Bool) : Lk := ⟨0, wd, 0, false, false⟩
def plN (s : ByteArray) (wd : Bool) : Nat := if validB s = true ∧ ncl s = 1 ∧ (textC s 0 (lkW wd)).1 = s ∧ (textC s 0 (lkW wd)).2 ≤ 2 then (textC s 0 (lkW wd)).2 else 0
structure Gr where
  w : Int
  h : Int
  cs : List Ce
  x : Int
  y : Int
def sizeB (w h : Int) : Bool := decide (0 ≤ w ∧ w ≤ 1024 ∧ 0 ≤ h ∧ h ≤ 1024)
def rgtL (w : Nat) (wd : Bool) : List Ce → Nat → Bool
  | [], _ => true
  | c :: r, i => c.p == 0 && (if plN (txC c) wd = 0 then false else if plN (txC c) wd = 2 then
      (match r with
        | [] => false
        | d :: r' => !((i + 1) % w == 0) && (d.p == 1 && (d.st == c.st && decide (d.t.size = 0))) && rgtL w wd r' (i + 2))
      else rgtL w wd r (i + 1))
def curB (g : Gr) : Bool := (g.x == -1 && g.y == -1) || decide (0 ≤ g.x ∧ g.x < g.w ∧ 0 ≤ g.y ∧ g.y < g.h)
def rightB (g : Gr) (wd : Bool) : Bool := sizeB g.w g.h && ((g.cs.length : Int) == g.w * g.h && (curB g && rgtL g.w.toNat wd g.cs 0))
def samL : List Ce → List Ce → Bool
  | [], [] => true
  | a :: l, b :: m => alikeB a b && samL l m
  | _, _ => false
def sameB (a b : Gr) : Bool := a.w == b.w && (a.h == b.h && (a.x == b.x && (a.y == b.y && samL a.cs b.cs)))
structure Gs where
  w : Nat
  h : Nat
  wd : Bool
  cs : List Ce
  x : Nat
  y : Nat
  hid : Bool
  sty : Nat
  last : Nat
  stt : Nat
  num : List Int
  asked : Bool
  void : Bool
def newG (w h : Nat) (wd : Bool) : Gs := ⟨w, h, wd, List.replicate (w * h) (blkC 0), 0, 0, false, 0, 0, 0, [], false, false⟩
def ceG (l : List Ce) (i : Nat) : Ce := l.getD i (blkC 0)
def backG (g : Gs) : Gs := if g.w ≤ g.x then { g with x := g.w - 1 } else g
def downG (g : Gs) : Gs := if g.y + 1 < g.h then { g with y := g.y + 1 } else { g with cs := g.cs.drop g.w ++ List.replicate (min g.w g.cs.length) (blkC 0) }
def layL (l : List Ce) (w i : Nat) (c : Ce) : List Ce :=
  (if (ceG l i).p = 1 then l.set (i - 1) (blkC (ceG l (i - 1)).st) else if (i + 1) % w ≠ 0 ∧ (ceG l (i + 1)).p = 1 then l.set (i + 1) (blkC (ceG l (i + 1)).st) else l).set i c
def enc1 (r : Int) : ByteArray := Utf8.encode r
def joinG (g : Gs) (r : Int) : Option Gs :=
  if g.last = 0 then none else
  if plN (txC (ceG g.cs (g.last - 1)) ++ enc1 r) g.wd < plN (txC (ceG g.cs (g.last - 1))) g.wd then none else
  if plN (txC (ceG g.cs (g.last - 1))) g.wd < plN (txC (ceG g.cs (g.last - 1)) ++ enc1 r) g.wd then
    (if g.last % g.w = 0 then some { g with last := 0 } else
      some { g with cs := (layL g.cs g.w g.last (hlfC (ceG g.cs (g.last - 1)).st)).set (g.last - 1) { ceG (layL g.cs g.w g.last (hlfC (ceG g.cs (g.last - 1)).st)) (g.last - 1) with t := txC (ceG g.cs (g.last - 1)) ++ enc1 r }, x := g.x + 1 })
  else some { g with cs := g.cs.set (g.last - 1) { ceG g.cs (g.last - 1) with t := txC (ceG g.cs (g.last - 1)) ++ enc1 r } }
def layG (g : Gs) (s : ByteArray) (n : Nat) : Gs :=
  let i := g.y * g.w + g.x
  let c1 := if n = 2 then layL g.cs g.w (i + 1) (blkC g.sty) else g.cs
  let c2 := layL c1 g.w i ⟨s, 0, 0, 0, false, g.sty⟩
  let c3 := if n = 2 then c2.set (i + 1) { ceG c2 (i + 1) with p := 1 } else c2
  { g with cs := c3, x := g.x + n, last := i + 1 }
def putG (g : Gs) (r : Int) : Gs :=
  match joinG g r with
  | some g' => g'
  | none =>
    let s := (textC (enc1 r) 0 (lkW g.wd)).1
    let n := plN s g.wd
    if n = 0 ∨ g.w < n ∨ g.h = 0 then { g with last := 0 }
    else layG (if g.w < g.x + n then downG { g with last := 0, x := 0 } else { g with last := 0 }) s n
def wearF : Nat → List Int → Nat → Nat
  | 0, _, st => st
  | _, [], st => st
  | f + 1, n :: l, st =>
    if n = -1 ∨ n = 0 then wearF f l 0
    else if n = 1 then wearF f l (st ||| 256)
    else if n = 3 then wearF f l (st ||| 512)
    else if n = 4 then wearF f l (st ||| 1024)
    else if n = 7 then wearF f l (st ||| 2048)
    else match l with
      | a :: k :: l' =>
        if n = 38 ∧ a = 5 ∧ 0 ≤ k ∧ k ≤ 255 then wearF f l' ((st / 256 * 256) ||| k.toNat)
        else if n = 48 ∧ a = 5 ∧ 0 ≤ k ∧ k ≤ 15 then wearF f l' ((st % 4096) ||| (k.toNat * 4096))
        else wearF f l st
      | _ => wearF f l st
def wearL (l : List Int) (st : Nat) : Nat := wearF l.length l st
def nmL (l : List Int) (i : Nat) : Int := l.getD i (-1)
def clampG (n : Int) (m : Nat) : Nat := (max (min n (m : Int) - 1) 0).toNat
def doesG (g : Gs) (r : Int) : Gs :=
  if g.void = true then g
  else if g.asked = true then (if nmL g.num 0 = 25 ∧ (r = 104 ∨ r = 108) then { g with hid := r == 108 } else g)
  else if r = 72 then { g with y := clampG (nmL g.num 0) g.h, x := clampG (nmL g.num 1) g.w }
  else if r = 74 ∧ nmL g.num 0 = 2 then backG { g with cs := List.replicate g.cs.length (blkC 0) }
  else if r = 109 then { g with sty := wearL g.num g.sty }
  else g
def holdG (g : Gs) (r : Int) (first : Bool) : Gs :=
  if r = 63 ∧ first = true then { g with asked := true }
  else if r = 59 then { g with num := g.num ++ [-1] }
  else if 48 ≤ r ∧ r ≤ 57 then { g with num := g.num.set (g.num.length - 1) (min (max (nmL g.num (g.num.length - 1)) 0 * 10 + (r - 48)) 9999) }
  else { g with void := true }
def freeG (g : Gs) (r : Int) : Gs :=
  if kindR r ≠ 0 then putG g r
  else if r = 27 then { g with last := 0, stt := 1 }
  else if r = 13 then { g with last := 0, x := 0 }
  else if r = 10 then downG (backG { g with last := 0 })
  else { g with last := 0 }
def takeG (g : Gs) (r : Int) : Gs :=
  if g.stt = 1 then (if r = 91 then { g with stt := 2, num := [], asked := false, void := false } else { g with stt := 0 })
  else if g.stt = 2 then
    let g1 := if g.num = [] then { g with num := [-1] } else g
    if 32 ≤ r ∧ r ≤ 63 then holdG g1 r (decide (g.num = []))
    else if 64 ≤ r ∧ r ≤ 126 then doesG { g1 with stt := 0 } r
    else freeG { g1 with stt := 0 } r
  else freeG g r
def feedG (g : Gs) (l : List Int) : Gs := l.foldl takeG g
def gridG (g : Gs) : Gr := ⟨g.w, g.h, g.cs, if g.hid = false ∧ g.cs ≠ [] then (min (g.x : Int) ((g.w : Int) - 1)) else -1, if g.hid = false ∧ g.cs ≠ [] then (g.y : Int) else -1⟩
end Go.Proofs.YtjdohhididpomaaDoor
end
