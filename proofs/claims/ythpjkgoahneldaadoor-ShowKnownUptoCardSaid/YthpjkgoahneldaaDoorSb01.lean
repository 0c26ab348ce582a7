/-
  Texts joined by program: Sw, SpSf, SpSa, SpSb, SpSp, SpSc.
-/
import Derived.Test.YthpjkgoahneldaaDoorJb06
import Derived.Test.YthpjkgoahneldaaDoorJb04
set_option linter.unusedVariables false
set_option linter.unusedSimpArgs false

section
/-
  What is shown of a cluster, in plain words.
-/
namespace Go.Proofs.YthpjkgoahneldaaDoor
open Go Vc Ut Tb Cl

/-- A look. -/
structure Lk where
  tab : Int
  wide : Bool
  want : Int
  join : Bool
  raw : Bool
def lkC (l : Lk) : List Value := [.int .i64 l.tab, .bool l.wide, .int .i8 l.want, .bool l.join, .bool l.raw]
def lkV (l : Lk) : Value := .agg #[.int .i64 l.tab, .bool l.wide, .int .i8 l.want, .bool l.join, .bool l.raw]
def tabN (t : Int) : Nat := if t < 1 ∨ 16 < t then 8 else t.toNat
/-- How many columns to the next stop. -/
def stopN (c : Int) (t : Int) : Nat := tabN t - c.toNat % tabN t
def hexB (d : Nat) : UInt8 := if d < 10 then UInt8.ofNat (48 + d) else UInt8.ofNat (87 + d)
def badS (b : Nat) : ByteArray := ⟨#[60, hexB (b / 16), hexB (b % 16), 62]⟩
def blankS (n : Nat) : ByteArray := ⟨(List.replicate n 32).toArray⟩
/-- The last j digits, the most significant first. -/
def numS (x : Nat) : Nat → List UInt8
  | 0 => []
  | j + 1 => hexB (x / 16 ^ j % 16) :: numS x j
def strL (l : List UInt8) : ByteArray := ⟨l.toArray⟩
/-- How many digits; four at least. -/
def digN (x : Nat) : Nat := if x < 256 then 2 else if x < 4096 then 3 else if x < 65536 then 4 else if x < 1048576 then 5 else 6
def numJ (x : Nat) : Nat := if digN x < 4 then 4 else digN x
def nameS (x : Nat) : ByteArray := (strL [60] ++ strL (numS x (numJ x))) ++ strL [62]
/-- A cluster's second character. -/
def secR (k : ByteArray) : Int := if 1 < cnt k then sg k 1 else 0
def fmtB (x : Int) : Bool := decide (128 ≤ x ∧ x ≤ 159) || (x == 8232 || x == 8233) || (kindR x == 1 && !joinB x)
def cutS (k : ByteArray) : ByteArray := if cnt k = 32 then k.extract 0 (pos k 31) else k
def ctlS (x : Int) : ByteArray := strL [94, if x = 127 then 63 else UInt8.ofNat (x.toNat + 64)]
/-- What is shown of a cluster, and how wide. -/
def oneC (k : ByteArray) (col : Int) (l : Lk) : ByteArray × Nat :=
  if isBad k 0 = true then (badS (bt k 0), 4)
  else if sg k 0 = 9 then (blankS (stopN col l.tab), stopN col l.tab)
  else if sg k 0 = 10 ∨ secR k = 10 then (⟨#[]⟩, 0)
  else if sg k 0 < 32 ∨ sg k 0 = 127 then (ctlS (sg k 0), 2)
  else if fmtB (sg k 0) = true then (if l.raw = true then (nameS (sg k 0).toNat, (nameS (sg k 0).toNat).size) else (⟨#[]⟩, 0))
  else if kindR (sg k 0) = 2 ∨ joinB (sg k 0) = true then (⟨#[226, 151, 140]⟩ ++ cutS k, 1)
  else if (regB (sg k 0) = true ∧ regB (secR k) = true) ∨ (kindR (sg k 0) = 7 ∧ wideR (sg k 0) l.wide = 1 ∧ secR k = 65039) then (k, 2)
  else if wideR (sg k 0) l.wide = 0 then (⟨#[]⟩, 0) else (k, (wideR (sg k 0) l.wide).toNat)
/-- .. of a text's first cluster. -/
def textC (c : ByteArray) (col : Int) (l : Lk) : ByteArray × Nat := if c.size = 0 then (⟨#[]⟩, 0) else oneC (pcP c 0).2 col l
/-- How many columns the clusters up to k take, from column c on. -/
def wdU (s : ByteArray) (c : Int) (l : Lk) : Nat → Nat
  | 0 => 0
  | k + 1 => wdU s c l k + (oneC (pcP s k).2 (c + wdU s c l k) l).2
def wideS (s : ByteArray) (col : Int) (l : Lk) : Nat := wdU s ((col.toNat % tabN l.tab : Nat) : Int) l (ncl s)
/-- The first cluster that has no place. -/
def cutI (s : ByteArray) (w : Int) (l : Lk) : Nat := ((List.range (ncl s)).find? fun i => decide (w < (wdU s 0 l (i + 1) : Int))).getD (ncl s)
def cutP (s : ByteArray) (w : Int) (l : Lk) : Nat := if cutI s w l < ncl s then bp s (cutI s w l) else if w < 0 then 0 else s.size
def rawL : Lk := ⟨0, false, 0, false, true⟩
def plainP (k : ByteArray) : ByteArray := if k = ⟨#[13, 10]⟩ then ⟨#[94, 77, 94, 74]⟩ else if k = ⟨#[10]⟩ then ⟨#[94, 74]⟩ else if k = ⟨#[9]⟩ then ⟨#[94, 73]⟩ else (oneC k 0 rawL).1
def plainU (s : ByteArray) : Nat → ByteArray
  | 0 => ⟨#[]⟩
  | k + 1 => plainU s k ++ plainP (pcP s k).2
def plainS (s : ByteArray) : ByteArray := plainU s (ncl s)

end Go.Proofs.YthpjkgoahneldaaDoor
end

section
/-
  Specifications, chapter 6: a number's hexadecimal digits, the library's and the document's.
-/
namespace Go.Proofs.YthpjkgoahneldaaDoor
open Go Go.RowKit Vc Ut Tb Cl

/-- The library's table for trailing zeros, as far as it is read here. -/
def DB (w : World) : Prop := w.cell? ⟨5, 15, none⟩ = some (.int .u8 4)
def sTz (k : IntKind) : CallSpec where
  G := Unit
  args := fun _ => #[.int k 16]
  pre := fun _ w => DB w
  X := Unit
  res := fun _ => .int .i64 4
  post := fun _ w _ w' => w' = w
def sPow : CallSpec where
  G := Unit
  args := fun _ => #[.int .i64 16]
  pre := fun _ _ => True
  X := Unit
  res := fun _ => .bool true
  post := fun _ w _ w' => w' = w
def u8L (l : List UInt8) : List Value := l.map fun b => .int .u8 (b.toNat : Nat)
/-- Digits, d of them. -/
def sBitD (d : Nat) : CallSpec where
  G := Nat
  args := fun u => #[.slice none 0 0, .int .u64 u, .int .i64 16, .bool false, .bool false]
  pre := fun u w => DB w ∧ 16 ^ (d - 1) ≤ u ∧ u < 16 ^ d
  X := Unit × ByteArray
  res := fun x => .tuple #[.slice none 0 0, .string x.2]
  post := fun u w x w' => x.2 = strL (numS u d) ∧ Ext w w'
def sBits : CallSpec where
  G := Nat
  args := fun u => #[.slice none 0 0, .int .u64 u, .int .i64 16, .bool false, .bool false]
  pre := fun u w => DB w ∧ 16 ≤ u ∧ u < 16777216
  X := Unit × ByteArray
  res := fun x => .tuple #[.slice none 0 0, .string x.2]
  post := fun u w x w' => x.2 = strL (numS u (digN u)) ∧ Ext w w'
def spTz : List (Nat × CallSpec) := [(162, sTz .u64)]
def spBit : List (Nat × CallSpec) := [(159, sPow), (160, sTz .u64)]
/-- What the array holds, j digits written. -/
def arrC (u j : Nat) : List Value := List.replicate (65 - j) (.int .u8 0) ++ u8L (numS u j)
def annBitD (d : Nat) (i : Int) (u : Nat) (w00 : World) : Ann where
  sp := spBit
  loops := [(11, {
    X := Nat
    sh := fun _ j => [(13, .int .i64 (65 - j)), (1, .int .u64 (u / 16 ^ j : Nat))]
    inv := fun e w0 j w => j + 1 ≤ d ∧ (∃ b, gv e 12 = .pointer (some ⟨b, 0, none⟩) ∧ w00.heap.size ≤ b ∧ w.heap[b]? = some (.cells (arrC u j).toArray 157)) ∧ Ext w00 w
    mu := fun _ _ j _ => d - j })]
  cuts := [(11, 14, { X := Unit, sh := fun _ _ => [(13, .int .i64 i), (1, .int .u64 (u / 16 ^ (d - 1) : Nat))], inv := fun e w0 _ w => (∃ b j, gv e 12 = .pointer (some ⟨b, 0, none⟩) ∧ w00.heap.size ≤ b ∧ j + 1 = d ∧ w.heap[b]? = some (.cells (arrC u j).toArray 157)) ∧ Ext w00 w })]
def sFmtI : CallSpec where
  G := Nat
  args := fun u => #[.int .i64 u, .int .i64 16]
  pre := fun u w => DB w ∧ 16 ≤ u ∧ u < 16777216
  X := ByteArray
  res := fun x => .string x
  post := fun u w x w' => x = strL (numS u (digN u)) ∧ Ext w w'
def spFmtI : List (Nat × CallSpec) := [(155, sBits)]
def spFmt : List (Nat × CallSpec) := [(149, sFmtI)]
/-- A character by its number. -/
def sNamed : CallSpec where
  G := Nat
  args := fun u => #[.int .i32 u]
  pre := fun u w => DB w ∧ 16 ≤ u ∧ u ≤ 1114111
  X := ByteArray
  res := fun x => .string x
  post := fun u w x w' => x = nameS u ∧ Ext w w'
def spNamed : List (Nat × CallSpec) := [(136, sFmtI)]
def annNamed (u : Nat) (_ : World) : Ann where
  sp := spNamed
  loops := [(2, {
    X := Nat
    sh := fun _ j => [(3, .string (strL (numS u j)))]
    inv := fun _ w0 j w => digN u ≤ j ∧ j ≤ numJ u ∧ w = w0
    mu := fun _ _ j _ => 4 - j })]
/-- The document's digits. -/
def sNumX : CallSpec where
  G := Nat
  args := fun u => #[.int .i32 u]
  pre := fun u w => 16 ≤ u ∧ u ≤ 1114111
  X := ByteArray
  res := fun x => .string x
  post := fun u w x w' => x = strL (numS u (numJ u)) ∧ Ext w w'
structure GNm where
  j : Nat
  a : Option Addr
  c : Nat
def annNumX (u : Nat) (w00 : World) : Ann where
  sp := []
  loops := [(3, {
    X := GNm
    sh := fun _ x => [(4, .int .i64 (u / 16 ^ x.j : Nat)), (3, .slice x.a x.j x.c)]
    inv := fun _ _ x w => x.j ≤ numJ u ∧ Made w00 w 5 1 x.a x.j (u8L (numS u x.j)) x.c
    mu := fun _ _ x _ => 10 - x.j })]
def sBlanks : CallSpec where
  G := Nat
  args := fun n => #[.int .i64 n]
  pre := fun n w => n ≤ 16
  X := ByteArray
  res := fun x => .string x
  post := fun n w x w' => x = blankS n ∧ Ext w w'
def annBlanks (n : Nat) (w00 : World) : Ann where
  sp := []
  loops := [(3, {
    X := GNm
    sh := fun _ x => [(4, .int .i64 x.j), (3, .slice x.a x.j x.c)]
    inv := fun _ _ x w => x.j ≤ n ∧ Made w00 w 5 1 x.a x.j (u8L (List.replicate x.j 32)) x.c
    mu := fun _ _ x _ => n - x.j })]

--#vc tz64_vc 162 (sTz .u64) (annOf []) []
--#vc tz_vc 160 (sTz .u64) (annOf spTz) spTz
--#vc pow_vc 159 sPow (annOf []) []
--#vc bit2_vc 155 (sBitD 2) (annBitD 2 64) spBit
--#vc bit3_vc 155 (sBitD 3) (annBitD 3 63) spBit
--#vc bit4_vc 155 (sBitD 4) (annBitD 4 62) spBit
--#vc bit5_vc 155 (sBitD 5) (annBitD 5 61) spBit
--#vc bit6_vc 155 (sBitD 6) (annBitD 6 60) spBit
--#vc fmtI_vc 149 sFmtI (annOf spFmtI) spFmtI
--#vc fmt_vc 136 sFmtI (annOf spFmt) spFmt
--#vc named_vc 113 sNamed annNamed spNamed
--#vc numX_vc 119 sNumX annNumX []
--#vc blanks_vc 117 sBlanks annBlanks []

end Go.Proofs.YthpjkgoahneldaaDoor
end

section
/-
  Specifications, chapter 6: what is shown of a cluster, the program's and the document's.
-/
namespace Go.Proofs.YthpjkgoahneldaaDoor
open Go Go.RowKit Vc Ut Tb Cl

def sStop : CallSpec where
  G := Int × Lk
  args := fun g => #[.int .i64 g.1, lkV g.2]
  pre := fun _ _ => True
  X := Nat
  res := fun x => .int .i64 x
  post := fun g w x w' => x = stopN g.1 g.2.tab ∧ Ext w w'
def sRep : CallSpec where
  G := Nat
  args := fun n => #[.string ⟨#[32]⟩, .int .i64 n]
  pre := fun n _ => n ≤ 16
  X := ByteArray
  res := fun x => .string x
  post := fun n w x w' => x = blankS n ∧ Ext w w'
/-- A cluster of one kind of bytes: whole, not bad. -/
structure GK6 where
  k : ByteArray
  col : Int
  l : Lk
  a : Option Addr
  c : Nat
/-- Two columns, whatever the table says. -/
def twoB (k : ByteArray) (l : Lk) : Bool := (regB (sg k 0) && regB (secR k)) || (kindR (sg k 0) == 7 && wideR (sg k 0) l.wide == 1 && secR k == 65039)
/-- The late tests for signs of format. -/
def lateB (x : Int) : Bool := x == 8232 || x == 8233 || (kindR x == 1 && !joinB x)
def sOneP : CallSpec where
  G := GK6
  args := fun g => #[.string g.k, .slice g.a (cnt g.k) g.c, .int .i64 g.col, lkV g.l]
  pre := fun g w => DB w ∧ g.k.size ≤ 67108864 ∧ ncl g.k = 1 ∧ isBad g.k 0 = false ∧ cnt g.k ≤ g.c ∧ CellsAt w g.a ((runes g.k).map (Value.int .i32))
  X := ByteArray × Nat
  res := fun x => .tuple #[.string x.1, .int .i64 x.2]
  post := fun g w x w' => x = oneC g.k g.col g.l ∧ Ext w w'
/-- .. where it is known what the late tests say. -/
def sOneL (b : Bool) : CallSpec where
  G := GK6
  args := fun g => #[.string g.k, .slice g.a (cnt g.k) g.c, .int .i64 g.col, lkV g.l]
  pre := fun g w => lateB (sg g.k 0) = b ∧ sOneP.pre g w
  X := ByteArray × Nat
  res := fun x => .tuple #[.string x.1, .int .i64 x.2]
  post := fun g w x w' => x = oneC g.k g.col g.l ∧ Ext w w'
def spOneP : List (Nat × CallSpec) := [(81, sStop), (112, sRep), (75, sRuneX .i8 kindR), (113, sNamed), (114, sWide (fun w w' => Ext w w')), (115, sRB regB)]
def cutsOne (g : GK6) : List (Nat × Nat × CutAnn) :=
  [(3, 4, { X := Unit, sh := fun _ _ => [(11, .int .i32 (secR g.k))], inv := fun _ w0 _ w => w = w0 }),
    (28, 29, { X := Unit, sh := fun _ _ => [(99, .bool (twoB g.k g.l))], inv := fun _ w0 _ w => Ext w0 w })]
def annOneT (g : GK6) (_ : World) : Ann where
  sp := spOneP
  cuts := cutsOne g
def annOneF (g : GK6) (_ : World) : Ann where
  sp := spOneP
  cuts := (11, 13, { X := Unit, sh := fun _ _ => [(45, .bool (lateB (sg g.k 0)))], inv := fun _ w0 _ w => Ext w0 w }) :: cutsOne g
structure GT6 where
  s : ByteArray
  col : Int
  l : Lk
def sTextC : CallSpec where
  G := GT6
  args := fun g => #[.string g.s, .int .i64 g.col, lkV g.l]
  pre := fun g w => U8 w ∧ DB w ∧ g.s.size ≤ 67108864
  X := ByteArray × Nat
  res := fun x => .tuple #[.string x.1, .int .i64 x.2]
  post := fun g w x w' => x = textC g.s g.col g.l ∧ Ext w w'
def spTextP : List (Nat × CallSpec) := [(76, sSN nextL), (63, sDec nxR nxN), (77, sOneP)]

/-! ### The document's -/
def sOneR : CallSpec where
  G := GK6
  args := fun g => #[.slice g.a (cnt g.k) g.c, .string g.k, .int .i64 g.col, lkV g.l]
  pre := fun g w => g.k.size ≤ 67108864 ∧ ncl g.k = 1 ∧ cnt g.k ≤ g.c ∧ CellsAt w g.a ((List.range (cnt g.k)).flatMap (sgnV g.k))
  X := ByteArray × Nat
  res := fun x => .tuple #[.string x.1, .int .i64 x.2]
  post := fun g w x w' => x = oneC g.k g.col g.l ∧ Ext w w'
def spOneR : List (Nat × CallSpec) := [(116, sStop), (117, sBlanks), (102, sRune .i8 kindR), (118, sRB joinB), (119, sNumX), (120, sLS runesBytes), (121, sRB regB), (122, sWide (fun w w' => w' = w))]
def annOneR (g : GK6) (_ : World) : Ann where
  sp := spOneR
  cuts := [(14, 14, { X := Unit, sh := fun _ _ => [(83, .bool (fmtB (sg g.k 0)))], inv := fun _ w0 _ w => Ext w0 w }),
    (19, 19, { X := Unit, sh := fun _ _ => [(100, .bool (kindR (sg g.k 0) == 2 || joinB (sg g.k 0)))], inv := fun _ w0 _ w => Ext w0 w }),
    (21, 21, { X := Unit, sh := fun _ _ => [(1, .string (cutS g.k))], inv := fun _ w0 _ w => w = w0 }),
    (23, 23, { X := Unit, sh := fun _ _ => [(130, .bool (regB (sg g.k 0) && regB (secR g.k)))], inv := fun _ w0 _ w => Ext w0 w }),
    (26, 26, { X := Unit, sh := fun _ _ => [(153, .bool (kindR (sg g.k 0) == 7 && wideR (sg g.k 0) g.l.wide == 1 && secR g.k == 65039))], inv := fun _ w0 _ w => Ext w0 w })]
def spTextR : List (Nat × CallSpec) := [(78, sSN nextL), (80, sSigns), (79, sOneR)]

--#vc stop_vc 81 sStop (annOf []) []
--#vc flag_vc 115 (sRB regB) (annOf []) []
--#vc oneT_vc 77 (sOneL true) annOneT spOneP
--#vc oneF_vc 77 (sOneL false) annOneF spOneP
--#vc textP_vc 45 sTextC (annOf spTextP) spTextP
--#vc tab_vc 116 sStop (annOf []) []
--#vc oneR_vc 79 sOneR annOneR spOneR
--#vc textR_vc 46 sTextC (annOf spTextR) spTextR

end Go.Proofs.YthpjkgoahneldaaDoor
end

section
/-
  Specifications, chapter 6: how many columns a text takes, where it is cut.
-/
namespace Go.Proofs.YthpjkgoahneldaaDoor
open Go Go.RowKit Vc Ut Tb Cl

def sTxN (f : ByteArray → Int → Lk → Nat) : CallSpec where
  G := GT6
  args := fun g => #[.string g.s, .int .i64 g.col, lkV g.l]
  pre := fun g w => U8 w ∧ DB w ∧ g.s.size ≤ 67108864
  X := Nat
  res := fun x => .int .i64 x
  post := fun g w x w' => x = f g.s g.col g.l ∧ Ext w w'
def sRest : CallSpec where
  G := Int × Lk
  args := fun g => #[.int .i64 g.1, lkV g.2]
  pre := fun g _ => 0 ≤ g.1
  X := Nat
  res := fun x => .int .i64 x
  post := fun g w x w' => x = g.1.toNat % tabN g.2.tab ∧ Ext w w'
def spWidC : List (Nat × CallSpec) := [(81, sStop), (55, sIter 101), (45, sTextC)]
def redC (c : Int) (l : Lk) : Int := ((c.toNat % tabN l.tab : Nat) : Int)
def annWidC (g : GT6) (_ : World) : Ann where
  sp := spWidC
  ranges := [(4, {
    α := Nat × ByteArray
    enc := encPc
    J := fun e w0 xs k D W => D = ones [ptrB (gv e 7)] ∧ W.heap[ptrB (gv e 7)]? = some (.cells #[.int .i64 (wdU g.s (redC g.col g.l) g.l k : Nat)] 3)
    Jx := fun _ _ _ _ _ _ => (1 : Nat) = 0 })]
def annCutC (g : GT6) (_ : World) : Ann where
  sp := spWidC
  ranges := [(3, {
    α := Nat × ByteArray
    enc := encPc
    exs := [.ret]
    J := fun e w0 xs k D W => D = ones [ptrB (gv e 6), ptrB (gv e 7), ptrB (gv e 8)] ∧ (∀ j, j < k → ¬ g.col < (wdU g.s 0 g.l (j + 1) : Int)) ∧ (∃ v, W.heap[ptrB (gv e 6)]? = some (.cells #[.int .i64 v] 3)) ∧ W.heap[ptrB (gv e 7)]? = some (.cells #[.int .i64 (wdU g.s 0 g.l k : Nat)] 3) ∧ W.heap[ptrB (gv e 8)]? = some (.cells #[.int .i64 (bp g.s k : Nat)] 3)
    Jx := fun e w0 _ _ D W => D = ones [ptrB (gv e 6), ptrB (gv e 7), ptrB (gv e 8)] ∧ W.heap[ptrB (gv e 6)]? = some (.cells #[.int .i64 (cutP g.s g.col g.l : Nat)] 3) })]

/-! ### The document's -/
def spRest : List (Nat × CallSpec) := [(116, sStop)]
def spWidR : List (Nat × CallSpec) := [(56, sRAllP), (82, sRest), (46, sTextC)]
def annWidR (g : GT6) (_ : World) : Ann where
  sp := spWidR
  cuts := [(1, 2, { X := Unit, sh := fun _ _ => [(1, .int .i64 (if g.col < 0 then 0 else g.col))], inv := fun _ w0 _ w => w = w0 })]
  loops := [(6, {
    X := Nat
    sh := fun _ i => [(9, .int .i64 i), (7, .int .i64 (wdU g.s (redC g.col g.l) g.l i : Nat))]
    inv := fun _ w0 i w => i ≤ ncl g.s ∧ Ext w0 w
    mu := fun _ _ i _ => ncl g.s - i })]
def annCutR (g : GT6) (_ : World) : Ann where
  sp := spWidR
  loops := [(5, {
    X := Nat
    sh := fun _ i => [(10, .int .i64 i), (7, .int .i64 (wdU g.s 0 g.l i : Nat)), (9, .int .i64 (bp g.s i : Nat))]
    inv := fun _ w0 i w => i ≤ ncl g.s ∧ (∀ j, j < i → ¬ g.col < (wdU g.s 0 g.l (j + 1) : Int)) ∧ Ext w0 w
    mu := fun _ _ i _ => ncl g.s - i })]

--#vc widC_vc 48 (sTxN wideS) annWidC spWidC
--#vc cutC_vc 50 (sTxN cutP) annCutC spWidC
--#vc rest_vc 82 sRest (annOf spRest) spRest
--#vc widR_vc 49 (sTxN wideS) annWidR spWidR
--#vc cutR_vc 51 (sTxN cutP) annCutR spWidR

end Go.Proofs.YthpjkgoahneldaaDoor
end

section
/-
  Specifications, chapter 6: a text in plain form; the library's builder of strings.
-/
namespace Go.Proofs.YthpjkgoahneldaaDoor
open Go Go.RowKit Vc Ut Tb Cl

/-- A builder's record: unused yet, or its own. -/
def bdP (b : Nat) (p : Option Addr) : Prop := p = none ∨ p = some ⟨b, 0, none⟩
structure GBd where
  b : Nat
  p : Option Addr
  a : Option Addr
  n : Nat
  c : Nat
def sCopy : CallSpec where
  G := GBd
  args := fun g => #[.pointer (some ⟨g.b, 0, none⟩)]
  pre := fun g w => bdP g.b g.p ∧ w.heap[g.b]? = some (.cells #[.pointer g.p, .slice g.a g.n g.c] 95)
  X := Unit
  res := fun _ => .tuple #[]
  post := fun g w _ w' => w'.heap[g.b]? = some (.cells #[.pointer (some ⟨g.b, 0, none⟩), .slice g.a g.n g.c] 95) ∧ Fr (fun q => q = g.b) w w'
structure GWr where
  b : Nat
  p : Option Addr
  a : Option Addr
  c : Nat
  vs : List Value
  s : ByteArray
def sWrStr : CallSpec where
  G := GWr
  args := fun g => #[.pointer (some ⟨g.b, 0, none⟩), .string g.s]
  pre := fun g w => bdP g.b g.p ∧ w.heap[g.b]? = some (.cells #[.pointer g.p, .slice g.a g.vs.length g.c] 95) ∧ Row w 5 1 g.a g.vs.length g.vs g.c ∧ g.vs.length + g.s.size ≤ 70368744177664
  X := Option Addr × Nat × Nat
  res := fun x => .tuple #[.int .i64 x.2.2, .nilIface]
  post := fun g w x w' => x.2.2 = g.s.size ∧ w'.heap[g.b]? = some (.cells #[.pointer (some ⟨g.b, 0, none⟩), .slice x.1 (g.vs.length + g.s.size) x.2.1] 95) ∧ Row w' 5 1 x.1 (g.vs.length + g.s.size) (g.vs ++ u8L g.s.data.toList) x.2.1 ∧
    Fr (fun q => q = g.b ∨ blk g.a = some q) w w' ∧ (∀ q, blk x.1 = some q → blk g.a = some q ∨ w.heap.size ≤ q)
def spWrStr : List (Nat × CallSpec) := [(123, sCopy)]
structure GSb6 where
  b : Nat
  base : Nat
  p : Option Addr
  a : Option Addr
  c : Nat
  l : List UInt8
def sStrB : CallSpec where
  G := GSb6
  args := fun g => #[.pointer (some ⟨g.b, 0, none⟩)]
  pre := fun g w => bdP g.b g.p ∧ w.heap[g.b]? = some (.cells #[.pointer g.p, .slice g.a g.l.length g.c] 95) ∧ Row w 5 1 g.a g.l.length (u8L g.l) g.c ∧ g.base ≤ g.b ∧ (∀ q, blk g.a = some q → g.base ≤ q)
  X := ByteArray
  res := fun x => .string x
  post := fun g w x w' => x = strL g.l ∧ Below g.base w w'
def sPlainC : CallSpec where
  G := ByteArray
  args := fun s => #[.string s]
  pre := fun s w => U8 w ∧ DB w ∧ s.size ≤ 67108864
  X := ByteArray
  res := fun x => .string x
  post := fun s w x w' => x = plainS s ∧ Ext w w'
def plL (s : ByteArray) (k : Nat) : List UInt8 := (plainU s k).data.toList
def spPlC : List (Nat × CallSpec) := [(55, sIter 101), (83, sWrStr), (45, sTextC), (84, sStrB)]
/-- The builder at b holds these bytes; D are its blocks. -/
structure BdL (b : Nat) (L : List UInt8) (D : Nat → Prop) (W : World) : Prop where
  at' : ∃ p a c, bdP b p ∧ (∀ q, D q ↔ q = b ∨ blk a = some q) ∧ W.heap[b]? = some (.cells #[.pointer p, .slice a (u8L L).length c] 95) ∧ Row W 5 1 a (u8L L).length (u8L L) c
def annPlC (s : ByteArray) (_ : World) : Ann where
  sp := spPlC
  ranges := [(3, {
    α := Nat × ByteArray
    enc := encPc
    J := fun e w0 xs k D W => BdL (ptrB (gv e 3)) (plL s k) D W
    Jx := fun _ _ _ _ _ _ => (1 : Nat) = 0 })]
def spPlR : List (Nat × CallSpec) := [(56, sRAllP), (46, sTextC)]
def annPlR (s : ByteArray) (_ : World) : Ann where
  sp := spPlR
  loops := [(4, {
    X := GNm
    sh := fun _ x => [(5, .int .i64 x.j), (3, .slice x.a (u8L (plL s x.j)).length x.c)]
    inv := fun _ w0 x w => x.j ≤ ncl s ∧ Made w0 w 5 1 x.a (u8L (plL s x.j)).length (u8L (plL s x.j)) x.c
    mu := fun _ _ x _ => ncl s - x.j })]

--#vc wrStr_vc 83 sWrStr (annOf spWrStr) spWrStr
--#vc plC_vc 52 sPlainC annPlC spPlC
--#vc plR_vc 53 sPlainC annPlR spPlR

end Go.Proofs.YthpjkgoahneldaaDoor
end

section
/-
  Specifications, chapter 6: what every program must do; the laws that ask the document.
-/
namespace Go.Proofs.YthpjkgoahneldaaDoor
open Go Go.RowKit Vc Ut Tb Cl

def UD (w : World) : Prop := U8 w ∧ DB w
structure GSh where
  s : ByteArray
  col : Int
  l : Lk
  want : ByteArray
  wide : Int
def showsB (s : ByteArray) (col : Int) (l : Lk) (want : ByteArray) (wide : Int) : Bool := decide ((textC s col l).1 = want) && decide (((textC s col l).2 : Int) = wide)
def sShows : CallSpec where
  G := GSh
  args := fun g => #[.string g.s, .int .i64 g.col, lkV g.l, .string g.want, .int .i64 g.wide]
  pre := fun g w => U8 w ∧ DB w ∧ g.s.size ≤ 67108864
  X := Bool
  res := fun x => .bool x
  post := fun g w x w' => x = showsB g.s g.col g.l g.want g.wide ∧ Ext w w'
def spShows : List (Nat × CallSpec) := [(45, sTextC)]
def spLive : List (Nat × CallSpec) := [(54, sShows), (48, sTxN wideS), (50, sTxN cutP), (52, sPlainC)]
def annLive (_ : Unit) (_ : World) : Ann where
  sp := spLive
  cuts := [(2, 2, { X := Unit, sh := fun _ _ => [(2, .bool true)], inv := fun _ w0 _ w => Ext w0 w })]
def sLawT : CallSpec where
  G := GT6
  args := fun g => #[.string g.s, .int .i64 g.col, lkV g.l]
  pre := fun g w => U8 w ∧ DB w ∧ g.s.size ≤ 1048576
  X := Unit
  res := fun _ => .bool true
  post := fun g w _ w' => Ext w w'
def sLawP : CallSpec where
  G := ByteArray
  args := fun s => #[.string s]
  pre := fun s w => U8 w ∧ DB w ∧ s.size ≤ 1048576
  X := Unit
  res := fun _ => .bool true
  post := fun _ w _ w' => Ext w w'
def spLawT : List (Nat × CallSpec) := [(45, sTextC), (46, sTextC), (47, sYes UD)]
def annLawT (g : GT6) (w00 : World) : Ann where
  sp := spLawT
  loops := [(2, {
    X := Nat
    sh := fun _ i => [(7, .int .i64 i)]
    inv := fun e _ i w => i ≤ 4 ∧ (∃ x y, w.heap[ptrB (gv e 5)]? = some (.cells #[.int .i64 g.l.tab, .bool x, .int .i8 g.l.want, .bool g.l.join, .bool y] 57)) ∧ w00.heap.size ≤ ptrB (gv e 5) ∧ Ext w00 w
    mu := fun _ _ i _ => 4 - i })]
def spLawW : List (Nat × CallSpec) := [(48, sTxN wideS), (49, sTxN wideS), (47, sYes UD)]
def spLawC : List (Nat × CallSpec) := [(50, sTxN cutP), (51, sTxN cutP), (47, sYes UD)]
def spLawP : List (Nat × CallSpec) := [(52, sPlainC), (53, sPlainC), (47, sYes UD)]

--#vc shows_vc 54 sShows (annOf spShows) spShows
--#vc live_vc 47 (sYes UD) annLive spLive
--#vc lawT_vc 12 sLawT annLawT spLawT
--#vc lawW_vc 13 sLawT (annOf spLawW) spLawW
--#vc lawC_vc 14 sLawT (annOf spLawC) spLawC
--#vc lawP_vc 15 sLawP (annOf spLawP) spLawP

end Go.Proofs.YthpjkgoahneldaaDoor
end
