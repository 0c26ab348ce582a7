/-
  Texts joined by program: SpN, Pc, Sw, SpSf, SpSa, SpR.
-/
import Derived.Test.YthpjkgoahneldaaDoorSg05
import Derived.Test.YthpjkgoahneldaaDoorSg04
import Derived.Test.YthpjkgoahneldaaDoorSg03
set_option linter.unusedVariables false
set_option linter.unusedSimpArgs false

section
/-
  Specifications, chapter 3: the program's step, the document's lists.
-/
namespace Go.Proofs.YthpjkgoahneldaaDoor
open Go Go.RowKit Vc Ut Tb Cl

def nextL (s : ByteArray) : Nat := bp s 1
def lastL (s : ByteArray) : Nat := s.size - bp s (ncl s - 1)
def spCNext : List (Nat × CallSpec) := [(63, sDec nxR nxN), (107, sRB aloneB), (75, sRuneX .i8 kindR), (108, sRB joinB), (109, sRB regB), (110, sRB picB), (111, sTwoB sylB)]
def annCNext (s : ByteArray) (_ : World) : Ann where
  sp := spCNext
  cuts := [(12, 11, { X := Nat, sh := fun _ _ => [], inv := fun e w0 n w => gi e 6 = (n : Int) ∧ goB s 0 n = true ∧ Ext w0 w })]
  jumps := [(1, {
    X := Nat
    sh := fun _ n => [(3, .int .i32 (sg s 0)), (4, .int .i32 (sg s (n - 1))), (6, .int .i64 n), (7, .int .i64 (pos s n))]
    inv := fun _ w0 n w => 1 ≤ n ∧ n ≤ cnt s ∧ n ≤ 32 ∧ 0 < s.size ∧ goN s 0 (33 - n) n = firstN s 0 ∧ Ext w0 w
    mu := fun _ _ n _ => 40 - n }), (0, {
    X := Unit
    sh := fun _ _ => [(3, .int .i32 (sg s 0)), (7, .int .i64 (pos s 1))]
    inv := fun _ w0 _ w => 0 < s.size ∧ (isBad s 0 = true ∨ aloneB (sg s 0) = true) ∧ Ext w0 w
    mu := fun _ _ _ _ => 0 })]

/-- A sign of the document's list. -/
def sgnV (s : ByteArray) (k : Nat) : List Value := [.int .i32 (sg s k), .int .i64 (pos s k), .bool (isBad s k)]
def sSigns : CallSpec where
  G := ByteArray
  args := fun s => #[.string s]
  pre := fun s w => U8 w ∧ s.size ≤ 67108864
  X := Option Addr × Nat × Nat
  res := fun x => .slice x.1 x.2.1 x.2.2
  post := fun s w x w' => x.2.1 = cnt s ∧ Made w w' 103 3 x.1 x.2.1 ((List.range (cnt s)).flatMap (sgnV s)) x.2.2
def spSigns : List (Nat × CallSpec) := [(86, sDec nxR nxN)]
def annSigns (s : ByteArray) (_ : World) : Ann where
  sp := spSigns
  loops := [(3, {
    X := Nat × Option Addr × Nat
    sh := fun _ x => [(4, .int .i64 (pos s x.1)), (3, .slice x.2.1 x.1 x.2.2)]
    inv := fun _ w0 x w => x.1 ≤ cnt s ∧ Made w0 w 103 3 x.2.1 x.1 ((List.range x.1).flatMap (sgnV s)) x.2.2
    mu := fun _ _ x _ => cnt s - x.1 })]

structure GFst where
  s : ByteArray
  k : Nat
  a : Option Addr
  c : Nat
def sFirst : CallSpec where
  G := GFst
  args := fun g => #[.slice g.a (cnt g.s - g.k) g.c]
  pre := fun g w => g.k < cnt g.s ∧ g.s.size ≤ 67108864 ∧ CellsAt w g.a (((List.range (cnt g.s)).drop g.k).flatMap (sgnV g.s))
  X := Nat
  res := fun x => .int .i64 x
  post := fun g w x w' => x = firstN g.s g.k ∧ Ext w w'
def spFirst : List (Nat × CallSpec) := [(124, sRB aloneB), (125, sTakes)]
def annFirst (g : GFst) (_ : World) : Ann where
  sp := spFirst
  cuts := [(3, 3, { X := Unit, sh := fun _ _ => [(24, .bool (crB g.s g.k))], inv := fun _ w0 _ w => Ext w0 w })]
  loops := [(8, {
    X := Nat
    sh := fun _ n => [(3, .int .i64 n)]
    inv := fun _ w0 n w => 1 ≤ n ∧ g.k + n ≤ cnt g.s ∧ n ≤ 32 ∧ goN g.s g.k (33 - n) n = firstN g.s g.k ∧ Ext w0 w
    mu := fun _ _ n _ => 40 - n })]

/-- A piece of the document's list. -/
def pcV (s : ByteArray) (i : Nat) : List Value := [.int .i64 (bp s i), .string (s.extract (bp s i) (bp s (i + 1)))]
def sRAllP : CallSpec where
  G := ByteArray
  args := fun s => #[.string s]
  pre := fun s w => U8 w ∧ s.size ≤ 67108864
  X := Option Addr × Nat × Nat
  res := fun x => .slice x.1 x.2.1 x.2.2
  post := fun s w x w' => x.2.1 = ncl s ∧ Made w w' 44 2 x.1 x.2.1 ((List.range (ncl s)).flatMap (pcV s)) x.2.2
structure GAl where
  i : Nat
  la : Option Addr
  lc : Nat
  oa : Option Addr
  oc : Nat
def spRAllP : List (Nat × CallSpec) := [(80, sSigns), (85, sFirst)]
def annRAllP (s : ByteArray) (_ : World) : Ann where
  sp := spRAllP
  loops := [(3, {
    X := GAl
    sh := fun _ x => [(3, .slice x.la (cnt s - bk s x.i) x.lc), (4, .slice x.oa x.i x.oc)]
    inv := fun _ w0 x w => x.i ≤ ncl s ∧ cnt s - bk s x.i ≤ x.lc ∧ CellsAt w0 x.la (((List.range (cnt s)).drop (bk s x.i)).flatMap (sgnV s)) ∧ Made w0 w 44 2 x.oa x.i ((List.range x.i).flatMap (pcV s)) x.oc
    mu := fun _ _ x _ => ncl s - x.i })]
def spRNextC : List (Nat × CallSpec) := [(80, sSigns), (85, sFirst)]
def spRLastC : List (Nat × CallSpec) := [(56, sRAllP)]

/-- A text's borders. -/
def bordI (s : ByteArray) : List Int := (List.range (ncl s + 1)).map fun i => (bp s i : Int)
def annRBord (s : ByteArray) (_ : World) : Ann where
  sp := spRLastC
  loops := [(4, {
    X := Nat × Option Addr × Nat
    sh := fun _ x => [(5, .int .i64 x.1), (4, .slice x.2.1 x.1 x.2.2)]
    inv := fun _ w0 x w => x.1 ≤ ncl s ∧ Made w0 w 3 1 x.2.1 x.1 (((bordI s).take x.1).map (Value.int .i64)) x.2.2
    mu := fun _ _ x _ => ncl s - x.1 })]
def isB (s : ByteArray) (p : Int) : Bool := (List.range (ncl s + 1)).any fun i => decide ((bp s i : Int) = p)
def sIsB : CallSpec where
  G := ByteArray × Int
  args := fun g => #[.string g.1, .int .i64 g.2]
  pre := fun g w => U8 w ∧ g.1.size ≤ 67108864
  X := Bool
  res := fun x => .bool x
  post := fun g w x w' => x = isB g.1 g.2 ∧ Ext w w'
def sInto : CallSpec where
  G := Int × Int × Int
  args := fun g => #[.int .i64 g.1, .int .i64 g.2.1, .int .i64 g.2.2]
  pre := fun _ _ => True
  X := Int
  res := fun x => .int .i64 x
  post := fun g w x w' => x = (if g.1 < g.2.1 then g.2.1 else if g.1 > g.2.2 then g.2.2 else g.1) ∧ w' = w
def clampN (s : ByteArray) (p : Int) : Nat := if p < 0 then 0 else if p > s.size then s.size else p.toNat
/-- The cluster at a place: the first one that ends behind it. -/
def ixP (s : ByteArray) (p : Nat) : Nat := ((List.range (ncl s)).find? fun i => decide (p < bp s (i + 1))).getD (ncl s)
def atF (s : ByteArray) (p : Int) : Nat × Nat := (bp s (ixP s (clampN s p)), bp s (ixP s (clampN s p) + 1))
def sAt : CallSpec where
  G := ByteArray × Int
  args := fun g => #[.string g.1, .int .i64 g.2]
  pre := fun g w => U8 w ∧ g.1.size ≤ 67108864
  X := Nat × Nat
  res := fun x => .tuple #[.int .i64 x.1, .int .i64 x.2]
  post := fun g w x w' => x = atF g.1 g.2 ∧ Ext w w'
def spRAt : List (Nat × CallSpec) := [(70, sInto), (56, sRAllP)]
def annRAt (g : ByteArray × Int) (_ : World) : Ann where
  sp := spRAt
  loops := [(4, {
    X := Nat
    sh := fun _ i => [(8, .int .i64 i)]
    inv := fun _ w0 i w => i ≤ ncl g.1 ∧ (∀ j, j < i → bp g.1 (j + 1) ≤ clampN g.1 g.2) ∧ Ext w0 w
    mu := fun _ _ i _ => ncl g.1 - i })]

--#vc cnext_vc 76 (sSN nextL) annCNext spCNext
--#vc signs_vc 80 sSigns annSigns spSigns
--#vc first_vc 85 sFirst annFirst spFirst
--#vc rallP_vc 56 sRAllP annRAllP spRAllP
--#vc rnextC_vc 78 (sSN nextL) (annOf spRNextC) spRNextC
--#vc into_vc 70 sInto (annOf []) []

end Go.Proofs.YthpjkgoahneldaaDoor
end

section
/-
  A text's pieces.
-/
namespace Go.Proofs.YthpjkgoahneldaaDoor
open Go Vc Ut Tb Cl

def pcP (s : ByteArray) (i : Nat) : Nat × ByteArray := (bp s i, s.extract (bp s i) (bp s (i + 1)))
def pcL (s : ByteArray) : List (Nat × ByteArray) := (List.range (ncl s)).map (pcP s)

end Go.Proofs.YthpjkgoahneldaaDoor
end

section
/-
  What is shown of a cluster, in plain words.
-/
namespace Go.Proofs.YthpjkgoahneldaaDoor
open Go Vc Ut Tb Cl

/-- A look. -/
structure Lk where
  tab : Int
  wide : Bool
  want : Int
  join : Bool
  raw : Bool
def lkC (l : Lk) : List Value := [.int .i64 l.tab, .bool l.wide, .int .i8 l.want, .bool l.join, .bool l.raw]
def lkV (l : Lk) : Value := .agg #[.int .i64 l.tab, .bool l.wide, .int .i8 l.want, .bool l.join, .bool l.raw]
def tabN (t : Int) : Nat := if t < 1 ∨ 16 < t then 8 else t.toNat
/-- How many columns to the next stop. -/
def stopN (c : Int) (t : Int) : Nat := tabN t - c.toNat % tabN t
def hexB (d : Nat) : UInt8 := if d < 10 then UInt8.ofNat (48 + d) else UInt8.ofNat (87 + d)
def badS (b : Nat) : ByteArray := ⟨#[60, hexB (b / 16), hexB (b % 16), 62]⟩
def blankS (n : Nat) : ByteArray := ⟨(List.replicate n 32).toArray⟩
/-- The last j digits, the most significant first. -/
def numS (x : Nat) : Nat → List UInt8
  | 0 => []
  | j + 1 => hexB (x / 16 ^ j % 16) :: numS x j
def strL (l : List UInt8) : ByteArray := ⟨l.toArray⟩
/-- How many digits; four at least. -/
def digN (x : Nat) : Nat := if x < 256 then 2 else if x < 4096 then 3 else if x < 65536 then 4 else if x < 1048576 then 5 else 6
def numJ (x : Nat) : Nat := if digN x < 4 then 4 else digN x
def nameS (x : Nat) : ByteArray := (strL [60] ++ strL (numS x (numJ x))) ++ strL [62]
/-- A cluster's second character. -/
def secR (k : ByteArray) : Int := if 1 < cnt k then sg k 1 else 0
def fmtB (x : Int) : Bool := decide (128 ≤ x ∧ x ≤ 159) || (x == 8232 || x == 8233) || (kindR x == 1 && !joinB x)
def cutS (k : ByteArray) : ByteArray := if cnt k = 32 then k.extract 0 (pos k 31) else k
def ctlS (x : Int) : ByteArray := strL [94, if x = 127 then 63 else UInt8.ofNat (x.toNat + 64)]
/-- What is shown of a cluster, and how wide. -/
def oneC (k : ByteArray) (col : Int) (l : Lk) : ByteArray × Nat :=
  if isBad k 0 = true then (badS (bt k 0), 4)
  else if sg k 0 = 9 then (blankS (stopN col l.tab), stopN col l.tab)
  else if sg k 0 = 10 ∨ secR k = 10 then (⟨#[]⟩, 0)
  else if sg k 0 < 32 ∨ sg k 0 = 127 then (ctlS (sg k 0), 2)
  else if fmtB (sg k 0) = true then (if l.raw = true then (nameS (sg k 0).toNat, (nameS (sg k 0).toNat).size) else (⟨#[]⟩, 0))
  else if kindR (sg k 0) = 2 ∨ joinB (sg k 0) = true then (⟨#[226, 151, 140]⟩ ++ cutS k, 1)
  else if (regB (sg k 0) = true ∧ regB (secR k) = true) ∨ (kindR (sg k 0) = 7 ∧ wideR (sg k 0) l.wide = 1 ∧ secR k = 65039) then (k, 2)
  else if wideR (sg k 0) l.wide = 0 then (⟨#[]⟩, 0) else (k, (wideR (sg k 0) l.wide).toNat)
/-- .. of a text's first cluster. -/
def textC (c : ByteArray) (col : Int) (l : Lk) : ByteArray × Nat := if c.size = 0 then (⟨#[]⟩, 0) else oneC (pcP c 0).2 col l
/-- How many columns the clusters up to k take, from column c on. -/
def wdU (s : ByteArray) (c : Int) (l : Lk) : Nat → Nat
  | 0 => 0
  | k + 1 => wdU s c l k + (oneC (pcP s k).2 (c + wdU s c l k) l).2
def wideS (s : ByteArray) (col : Int) (l : Lk) : Nat := wdU s ((col.toNat % tabN l.tab : Nat) : Int) l (ncl s)
/-- The first cluster that has no place. -/
def cutI (s : ByteArray) (w : Int) (l : Lk) : Nat := ((List.range (ncl s)).find? fun i => decide (w < (wdU s 0 l (i + 1) : Int))).getD (ncl s)
def cutP (s : ByteArray) (w : Int) (l : Lk) : Nat := if cutI s w l < ncl s then bp s (cutI s w l) else if w < 0 then 0 else s.size
def rawL : Lk := ⟨0, false, 0, false, true⟩
def plainP (k : ByteArray) : ByteArray := if k = ⟨#[13, 10]⟩ then ⟨#[94, 77, 94, 74]⟩ else if k = ⟨#[10]⟩ then ⟨#[94, 74]⟩ else if k = ⟨#[9]⟩ then ⟨#[94, 73]⟩ else (oneC k 0 rawL).1
def plainU (s : ByteArray) : Nat → ByteArray
  | 0 => ⟨#[]⟩
  | k + 1 => plainU s k ++ plainP (pcP s k).2
def plainS (s : ByteArray) : ByteArray := plainU s (ncl s)

end Go.Proofs.YthpjkgoahneldaaDoor
end

section
/-
  Specifications, chapter 6: a number's hexadecimal digits, the library's and the document's.
-/
namespace Go.Proofs.YthpjkgoahneldaaDoor
open Go Go.RowKit Vc Ut Tb Cl

/-- The library's table for trailing zeros, as far as it is read here. -/
def DB (w : World) : Prop := w.cell? ⟨5, 15, none⟩ = some (.int .u8 4)
def sTz (k : IntKind) : CallSpec where
  G := Unit
  args := fun _ => #[.int k 16]
  pre := fun _ w => DB w
  X := Unit
  res := fun _ => .int .i64 4
  post := fun _ w _ w' => w' = w
def sPow : CallSpec where
  G := Unit
  args := fun _ => #[.int .i64 16]
  pre := fun _ _ => True
  X := Unit
  res := fun _ => .bool true
  post := fun _ w _ w' => w' = w
def u8L (l : List UInt8) : List Value := l.map fun b => .int .u8 (b.toNat : Nat)
/-- Digits, d of them. -/
def sBitD (d : Nat) : CallSpec where
  G := Nat
  args := fun u => #[.slice none 0 0, .int .u64 u, .int .i64 16, .bool false, .bool false]
  pre := fun u w => DB w ∧ 16 ^ (d - 1) ≤ u ∧ u < 16 ^ d
  X := Unit × ByteArray
  res := fun x => .tuple #[.slice none 0 0, .string x.2]
  post := fun u w x w' => x.2 = strL (numS u d) ∧ Ext w w'
def sBits : CallSpec where
  G := Nat
  args := fun u => #[.slice none 0 0, .int .u64 u, .int .i64 16, .bool false, .bool false]
  pre := fun u w => DB w ∧ 16 ≤ u ∧ u < 16777216
  X := Unit × ByteArray
  res := fun x => .tuple #[.slice none 0 0, .string x.2]
  post := fun u w x w' => x.2 = strL (numS u (digN u)) ∧ Ext w w'
def spTz : List (Nat × CallSpec) := [(162, sTz .u64)]
def spBit : List (Nat × CallSpec) := [(159, sPow), (160, sTz .u64)]
/-- What the array holds, j digits written. -/
def arrC (u j : Nat) : List Value := List.replicate (65 - j) (.int .u8 0) ++ u8L (numS u j)
def annBitD (d : Nat) (i : Int) (u : Nat) (w00 : World) : Ann where
  sp := spBit
  loops := [(11, {
    X := Nat
    sh := fun _ j => [(13, .int .i64 (65 - j)), (1, .int .u64 (u / 16 ^ j : Nat))]
    inv := fun e w0 j w => j + 1 ≤ d ∧ (∃ b, gv e 12 = .pointer (some ⟨b, 0, none⟩) ∧ w00.heap.size ≤ b ∧ w.heap[b]? = some (.cells (arrC u j).toArray 157)) ∧ Ext w00 w
    mu := fun _ _ j _ => d - j })]
  cuts := [(11, 14, { X := Unit, sh := fun _ _ => [(13, .int .i64 i), (1, .int .u64 (u / 16 ^ (d - 1) : Nat))], inv := fun e w0 _ w => (∃ b j, gv e 12 = .pointer (some ⟨b, 0, none⟩) ∧ w00.heap.size ≤ b ∧ j + 1 = d ∧ w.heap[b]? = some (.cells (arrC u j).toArray 157)) ∧ Ext w00 w })]
def sFmtI : CallSpec where
  G := Nat
  args := fun u => #[.int .i64 u, .int .i64 16]
  pre := fun u w => DB w ∧ 16 ≤ u ∧ u < 16777216
  X := ByteArray
  res := fun x => .string x
  post := fun u w x w' => x = strL (numS u (digN u)) ∧ Ext w w'
def spFmtI : List (Nat × CallSpec) := [(155, sBits)]
def spFmt : List (Nat × CallSpec) := [(149, sFmtI)]
/-- A character by its number. -/
def sNamed : CallSpec where
  G := Nat
  args := fun u => #[.int .i32 u]
  pre := fun u w => DB w ∧ 16 ≤ u ∧ u ≤ 1114111
  X := ByteArray
  res := fun x => .string x
  post := fun u w x w' => x = nameS u ∧ Ext w w'
def spNamed : List (Nat × CallSpec) := [(136, sFmtI)]
def annNamed (u : Nat) (_ : World) : Ann where
  sp := spNamed
  loops := [(2, {
    X := Nat
    sh := fun _ j => [(3, .string (strL (numS u j)))]
    inv := fun _ w0 j w => digN u ≤ j ∧ j ≤ numJ u ∧ w = w0
    mu := fun _ _ j _ => 4 - j })]
/-- The document's digits. -/
def sNumX : CallSpec where
  G := Nat
  args := fun u => #[.int .i32 u]
  pre := fun u w => 16 ≤ u ∧ u ≤ 1114111
  X := ByteArray
  res := fun x => .string x
  post := fun u w x w' => x = strL (numS u (numJ u)) ∧ Ext w w'
structure GNm where
  j : Nat
  a : Option Addr
  c : Nat
def annNumX (u : Nat) (w00 : World) : Ann where
  sp := []
  loops := [(3, {
    X := GNm
    sh := fun _ x => [(4, .int .i64 (u / 16 ^ x.j : Nat)), (3, .slice x.a x.j x.c)]
    inv := fun _ _ x w => x.j ≤ numJ u ∧ Made w00 w 5 1 x.a x.j (u8L (numS u x.j)) x.c
    mu := fun _ _ x _ => 10 - x.j })]
def sBlanks : CallSpec where
  G := Nat
  args := fun n => #[.int .i64 n]
  pre := fun n w => n ≤ 16
  X := ByteArray
  res := fun x => .string x
  post := fun n w x w' => x = blankS n ∧ Ext w w'
def annBlanks (n : Nat) (w00 : World) : Ann where
  sp := []
  loops := [(3, {
    X := GNm
    sh := fun _ x => [(4, .int .i64 x.j), (3, .slice x.a x.j x.c)]
    inv := fun _ _ x w => x.j ≤ n ∧ Made w00 w 5 1 x.a x.j (u8L (List.replicate x.j 32)) x.c
    mu := fun _ _ x _ => n - x.j })]

--#vc tz64_vc 162 (sTz .u64) (annOf []) []
--#vc tz_vc 160 (sTz .u64) (annOf spTz) spTz
--#vc pow_vc 159 sPow (annOf []) []
--#vc bit2_vc 155 (sBitD 2) (annBitD 2 64) spBit
--#vc bit3_vc 155 (sBitD 3) (annBitD 3 63) spBit
--#vc bit4_vc 155 (sBitD 4) (annBitD 4 62) spBit
--#vc bit5_vc 155 (sBitD 5) (annBitD 5 61) spBit
--#vc bit6_vc 155 (sBitD 6) (annBitD 6 60) spBit
--#vc fmtI_vc 149 sFmtI (annOf spFmtI) spFmtI
--#vc fmt_vc 136 sFmtI (annOf spFmt) spFmt
--#vc named_vc 113 sNamed annNamed spNamed
--#vc numX_vc 119 sNumX annNumX []
--#vc blanks_vc 117 sBlanks annBlanks []

end Go.Proofs.YthpjkgoahneldaaDoor
end

section
/-
  Specifications, chapter 6: what is shown of a cluster, the program's and the document's.
-/
namespace Go.Proofs.YthpjkgoahneldaaDoor
open Go Go.RowKit Vc Ut Tb Cl

def sStop : CallSpec where
  G := Int × Lk
  args := fun g => #[.int .i64 g.1, lkV g.2]
  pre := fun _ _ => True
  X := Nat
  res := fun x => .int .i64 x
  post := fun g w x w' => x = stopN g.1 g.2.tab ∧ Ext w w'
def sRep : CallSpec where
  G := Nat
  args := fun n => #[.string ⟨#[32]⟩, .int .i64 n]
  pre := fun n _ => n ≤ 16
  X := ByteArray
  res := fun x => .string x
  post := fun n w x w' => x = blankS n ∧ Ext w w'
/-- A cluster of one kind of bytes: whole, not bad. -/
structure GK6 where
  k : ByteArray
  col : Int
  l : Lk
  a : Option Addr
  c : Nat
/-- Two columns, whatever the table says. -/
def twoB (k : ByteArray) (l : Lk) : Bool := (regB (sg k 0) && regB (secR k)) || (kindR (sg k 0) == 7 && wideR (sg k 0) l.wide == 1 && secR k == 65039)
/-- The late tests for signs of format. -/
def lateB (x : Int) : Bool := x == 8232 || x == 8233 || (kindR x == 1 && !joinB x)
def sOneP : CallSpec where
  G := GK6
  args := fun g => #[.string g.k, .slice g.a (cnt g.k) g.c, .int .i64 g.col, lkV g.l]
  pre := fun g w => DB w ∧ g.k.size ≤ 67108864 ∧ ncl g.k = 1 ∧ isBad g.k 0 = false ∧ cnt g.k ≤ g.c ∧ CellsAt w g.a ((runes g.k).map (Value.int .i32))
  X := ByteArray × Nat
  res := fun x => .tuple #[.string x.1, .int .i64 x.2]
  post := fun g w x w' => x = oneC g.k g.col g.l ∧ Ext w w'
/-- .. where it is known what the late tests say. -/
def sOneL (b : Bool) : CallSpec where
  G := GK6
  args := fun g => #[.string g.k, .slice g.a (cnt g.k) g.c, .int .i64 g.col, lkV g.l]
  pre := fun g w => lateB (sg g.k 0) = b ∧ sOneP.pre g w
  X := ByteArray × Nat
  res := fun x => .tuple #[.string x.1, .int .i64 x.2]
  post := fun g w x w' => x = oneC g.k g.col g.l ∧ Ext w w'
def spOneP : List (Nat × CallSpec) := [(81, sStop), (112, sRep), (75, sRuneX .i8 kindR), (113, sNamed), (114, sWide (fun w w' => Ext w w')), (115, sRB regB)]
def cutsOne (g : GK6) : List (Nat × Nat × CutAnn) :=
  [(3, 4, { X := Unit, sh := fun _ _ => [(11, .int .i32 (secR g.k))], inv := fun _ w0 _ w => w = w0 }),
    (28, 29, { X := Unit, sh := fun _ _ => [(99, .bool (twoB g.k g.l))], inv := fun _ w0 _ w => Ext w0 w })]
def annOneT (g : GK6) (_ : World) : Ann where
  sp := spOneP
  cuts := cutsOne g
def annOneF (g : GK6) (_ : World) : Ann where
  sp := spOneP
  cuts := (11, 13, { X := Unit, sh := fun _ _ => [(45, .bool (lateB (sg g.k 0)))], inv := fun _ w0 _ w => Ext w0 w }) :: cutsOne g
structure GT6 where
  s : ByteArray
  col : Int
  l : Lk
def sTextC : CallSpec where
  G := GT6
  args := fun g => #[.string g.s, .int .i64 g.col, lkV g.l]
  pre := fun g w => U8 w ∧ DB w ∧ g.s.size ≤ 67108864
  X := ByteArray × Nat
  res := fun x => .tuple #[.string x.1, .int .i64 x.2]
  post := fun g w x w' => x = textC g.s g.col g.l ∧ Ext w w'
def spTextP : List (Nat × CallSpec) := [(76, sSN nextL), (63, sDec nxR nxN), (77, sOneP)]

/-! ### The document's -/
def sOneR : CallSpec where
  G := GK6
  args := fun g => #[.slice g.a (cnt g.k) g.c, .string g.k, .int .i64 g.col, lkV g.l]
  pre := fun g w => g.k.size ≤ 67108864 ∧ ncl g.k = 1 ∧ cnt g.k ≤ g.c ∧ CellsAt w g.a ((List.range (cnt g.k)).flatMap (sgnV g.k))
  X := ByteArray × Nat
  res := fun x => .tuple #[.string x.1, .int .i64 x.2]
  post := fun g w x w' => x = oneC g.k g.col g.l ∧ Ext w w'
def spOneR : List (Nat × CallSpec) := [(116, sStop), (117, sBlanks), (102, sRune .i8 kindR), (118, sRB joinB), (119, sNumX), (120, sLS runesBytes), (121, sRB regB), (122, sWide (fun w w' => w' = w))]
def annOneR (g : GK6) (_ : World) : Ann where
  sp := spOneR
  cuts := [(14, 14, { X := Unit, sh := fun _ _ => [(83, .bool (fmtB (sg g.k 0)))], inv := fun _ w0 _ w => Ext w0 w }),
    (19, 19, { X := Unit, sh := fun _ _ => [(100, .bool (kindR (sg g.k 0) == 2 || joinB (sg g.k 0)))], inv := fun _ w0 _ w => Ext w0 w }),
    (21, 21, { X := Unit, sh := fun _ _ => [(1, .string (cutS g.k))], inv := fun _ w0 _ w => w = w0 }),
    (23, 23, { X := Unit, sh := fun _ _ => [(130, .bool (regB (sg g.k 0) && regB (secR g.k)))], inv := fun _ w0 _ w => Ext w0 w }),
    (26, 26, { X := Unit, sh := fun _ _ => [(153, .bool (kindR (sg g.k 0) == 7 && wideR (sg g.k 0) g.l.wide == 1 && secR g.k == 65039))], inv := fun _ w0 _ w => Ext w0 w })]
def spTextR : List (Nat × CallSpec) := [(78, sSN nextL), (80, sSigns), (79, sOneR)]

--#vc stop_vc 81 sStop (annOf []) []
--#vc flag_vc 115 (sRB regB) (annOf []) []
--#vc oneT_vc 77 (sOneL true) annOneT spOneP
--#vc oneF_vc 77 (sOneL false) annOneF spOneP
--#vc textP_vc 45 sTextC (annOf spTextP) spTextP
--#vc tab_vc 116 sStop (annOf []) []
--#vc oneR_vc 79 sOneR annOneR spOneR
--#vc textR_vc 46 sTextC (annOf spTextR) spTextR

end Go.Proofs.YthpjkgoahneldaaDoor
end

section
/-
  Words for specifications: variables that hold lists of one's own.
-/
namespace Go.Proofs.YthpjkgoahneldaaDoor
open Go Go.RowKit Vc

/-- A variable that holds a list of one's own. -/
structure Grow (W : World) (box : Nat) (t e : TypeId) (a : Option Addr) (c : Nat) (vs : List Value) : Prop where
  hb : W.heap[box]? = some (.cells #[.slice a vs.length c] t)
  row : Row W e 1 a vs.length vs c

end Go.Proofs.YthpjkgoahneldaaDoor
end
