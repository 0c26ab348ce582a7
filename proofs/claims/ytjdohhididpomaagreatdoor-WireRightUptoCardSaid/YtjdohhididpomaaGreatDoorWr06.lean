/-
  Texts joined by program: Sw, SpSf, SpSa, Qa, SpXa, Qe.
-/
import Derived.Test.YtjdohhididpomaaGreatDoorWr05
import Derived.Test.YtjdohhididpomaaGreatDoorWr04
import Derived.Lib.ItoaNum
set_option linter.unusedVariables false
set_option linter.unusedSimpArgs false

namespace Go.Proofs.YtjdohhididpomaaGreatDoor
section
open Go Vc Ut Tb Cl
structure Lk where
  tab : Int
  wide : Bool
  want : Int
  join : Bool
  raw : Bool
def lkV (l : Lk) : Value := .agg #[.int .i64 l.tab, .bool l.wide, .int .i8 l.want, .bool l.join, .bool l.raw]
def tabN (t : Int) : Nat := if t < 1 ∨ 16 < t then 8 else t.toNat
def stopN (c : Int) (t : Int) : Nat := tabN t - c.toNat % tabN t
def hexB (d : Nat) : UInt8 := if d < 10 then UInt8.ofNat (48 + d) else UInt8.ofNat (87 + d)
def badS (b : Nat) : ByteArray := ⟨#[60, hexB (b / 16), hexB (b % 16), 62]⟩
def blankS (n : Nat) : ByteArray := ⟨(List.replicate n 32).toArray⟩
def numS (x : Nat) : Nat → List UInt8
  | 0 => []
  | j + 1 => hexB (x / 16 ^ j % 16) :: numS x j
def strL (l : List UInt8) : ByteArray := ⟨l.toArray⟩
def digN (x : Nat) : Nat := if x < 256 then 2 else if x < 4096 then 3 else if x < 65536 then 4 else if x < 1048576 then 5 else 6
def numJ (x : Nat) : Nat := if digN x < 4 then 4 else digN x
def nameS (x : Nat) : ByteArray := (strL [60] ++ strL (numS x (numJ x))) ++ strL [62]
def secR (k : ByteArray) : Int := if 1 < cnt k then sg k 1 else 0
def fmtB (x : Int) : Bool := decide (128 ≤ x ∧ x ≤ 159) || (x == 8232 || x == 8233) || (kindR x == 1 && !joinB x)
def cutS (k : ByteArray) : ByteArray := if cnt k = 32 then k.extract 0 (pos k 31) else k
def ctlS (x : Int) : ByteArray := strL [94, if x = 127 then 63 else UInt8.ofNat (x.toNat + 64)]
def oneC (k : ByteArray) (col : Int) (l : Lk) : ByteArray × Nat :=
  if isBad k 0 = true then (badS (bt k 0), 4)
  else if sg k 0 = 9 then (blankS (stopN col l.tab), stopN col l.tab)
  else if sg k 0 = 10 ∨ secR k = 10 then (⟨#[]⟩, 0)
  else if sg k 0 < 32 ∨ sg k 0 = 127 then (ctlS (sg k 0), 2)
  else if fmtB (sg k 0) = true then (if l.raw = true then (nameS (sg k 0).toNat, (nameS (sg k 0).toNat).size) else (⟨#[]⟩, 0))
  else if kindR (sg k 0) = 2 ∨ joinB (sg k 0) = true then (⟨#[226, 151, 140]⟩ ++ cutS k, 1)
  else if (regB (sg k 0) = true ∧ regB (secR k) = true) ∨ (kindR (sg k 0) = 7 ∧ wideR (sg k 0) l.wide = 1 ∧ secR k = 65039) then (k, 2)
  else if wideR (sg k 0) l.wide = 0 then (⟨#[]⟩, 0) else (k, (wideR (sg k 0) l.wide).toNat)
def textC (c : ByteArray) (col : Int) (l : Lk) : ByteArray × Nat := if c.size = 0 then (⟨#[]⟩, 0) else oneC (pcP c 0).2 col l
end

section
open Go Go.RowKit Vc Ut Tb Cl
def DB (w : World) : Prop := w.cell? ⟨5, 15, none⟩ = some (.int .u8 4)
def sTz (k : IntKind) : CallSpec where
  G := Unit
  args := fun _ => #[.int k 16]
  pre := fun _ w => DB w
  X := Unit
  res := fun _ => .int .i64 4
  post := fun _ w _ w' => w' = w
def sPow : CallSpec where
  G := Unit
  args := fun _ => #[.int .i64 16]
  pre := fun _ _ => True
  X := Unit
  res := fun _ => .bool true
  post := fun _ w _ w' => w' = w
def u8L (l : List UInt8) : List Value := l.map fun b => .int .u8 (b.toNat : Nat)
def sBitD (d : Nat) : CallSpec where
  G := Nat
  args := fun u => #[.slice none 0 0, .int .u64 u, .int .i64 16, .bool false, .bool false]
  pre := fun u w => DB w ∧ 16 ^ (d - 1) ≤ u ∧ u < 16 ^ d
  X := Unit × ByteArray
  res := fun x => .tuple #[.slice none 0 0, .string x.2]
  post := fun u w x w' => x.2 = strL (numS u d) ∧ Ext w w'
def sBits : CallSpec where
  G := Nat
  args := fun u => #[.slice none 0 0, .int .u64 u, .int .i64 16, .bool false, .bool false]
  pre := fun u w => DB w ∧ 16 ≤ u ∧ u < 16777216
  X := Unit × ByteArray
  res := fun x => .tuple #[.slice none 0 0, .string x.2]
  post := fun u w x w' => x.2 = strL (numS u (digN u)) ∧ Ext w w'
def spTz : List (Nat × CallSpec) := [(151, sTz .u64)]
def spBit : List (Nat × CallSpec) := [(145, sPow), (146, sTz .u64)]
def arrC (u j : Nat) : List Value := List.replicate (65 - j) (.int .u8 0) ++ u8L (numS u j)
def annBitD (d : Nat) (i : Int) (u : Nat) (w00 : World) : Ann where
  sp := spBit
  loops := [(11, {
    X := Nat
    sh := fun _ j => [(13, .int .i64 (65 - j)), (1, .int .u64 (u / 16 ^ j : Nat))]
    inv := fun e w0 j w => j + 1 ≤ d ∧ (∃ b, gv e 12 = .pointer (some ⟨b, 0, none⟩) ∧ w00.heap.size ≤ b ∧ w.heap[b]? = some (.cells (arrC u j).toArray 184)) ∧ Ext w00 w
    mu := fun _ _ j _ => d - j })]
  cuts := [(11, 14, { X := Unit, sh := fun _ _ => [(13, .int .i64 i), (1, .int .u64 (u / 16 ^ (d - 1) : Nat))], inv := fun e w0 _ w => (∃ b j, gv e 12 = .pointer (some ⟨b, 0, none⟩) ∧ w00.heap.size ≤ b ∧ j + 1 = d ∧ w.heap[b]? = some (.cells (arrC u j).toArray 184)) ∧ Ext w00 w })]
def sFmtI : CallSpec where
  G := Nat
  args := fun u => #[.int .i64 u, .int .i64 16]
  pre := fun u w => DB w ∧ 16 ≤ u ∧ u < 16777216
  X := ByteArray
  res := fun x => .string x
  post := fun u w x w' => x = strL (numS u (digN u)) ∧ Ext w w'
def spFmtI : List (Nat × CallSpec) := [(133, sBits)]
def spFmt : List (Nat × CallSpec) := [(139, sFmtI)]
def sNamed : CallSpec where
  G := Nat
  args := fun u => #[.int .i32 u]
  pre := fun u w => DB w ∧ 16 ≤ u ∧ u ≤ 1114111
  X := ByteArray
  res := fun x => .string x
  post := fun u w x w' => x = nameS u ∧ Ext w w'
def spNamed : List (Nat × CallSpec) := [(124, sFmtI)]
def annNamed (u : Nat) (_ : World) : Ann where
  sp := spNamed
  loops := [(2, {
    X := Nat
    sh := fun _ j => [(3, .string (strL (numS u j)))]
    inv := fun _ w0 j w => digN u ≤ j ∧ j ≤ numJ u ∧ w = w0
    mu := fun _ _ j _ => 4 - j })]
def sNumX : CallSpec where
  G := Nat
  args := fun u => #[.int .i32 u]
  pre := fun u w => 16 ≤ u ∧ u ≤ 1114111
  X := ByteArray
  res := fun x => .string x
  post := fun u w x w' => x = strL (numS u (numJ u)) ∧ Ext w w'
structure GNm where
  j : Nat
  a : Option Addr
  c : Nat
def annNumX (u : Nat) (w00 : World) : Ann where
  sp := []
  loops := [(3, {
    X := GNm
    sh := fun _ x => [(4, .int .i64 (u / 16 ^ x.j : Nat)), (3, .slice x.a x.j x.c)]
    inv := fun _ _ x w => x.j ≤ numJ u ∧ Made w00 w 5 1 x.a x.j (u8L (numS u x.j)) x.c
    mu := fun _ _ x _ => 10 - x.j })]
def sBlanks : CallSpec where
  G := Nat
  args := fun n => #[.int .i64 n]
  pre := fun n w => n ≤ 16
  X := ByteArray
  res := fun x => .string x
  post := fun n w x w' => x = blankS n ∧ Ext w w'
def annBlanks (n : Nat) (w00 : World) : Ann where
  sp := []
  loops := [(3, {
    X := GNm
    sh := fun _ x => [(4, .int .i64 x.j), (3, .slice x.a x.j x.c)]
    inv := fun _ _ x w => x.j ≤ n ∧ Made w00 w 5 1 x.a x.j (u8L (List.replicate x.j 32)) x.c
    mu := fun _ _ x _ => n - x.j })]
end

section
open Go Go.RowKit Vc Ut Tb Cl
def sStop : CallSpec where
  G := Int × Lk
  args := fun g => #[.int .i64 g.1, lkV g.2]
  pre := fun _ _ => True
  X := Nat
  res := fun x => .int .i64 x
  post := fun g w x w' => x = stopN g.1 g.2.tab ∧ Ext w w'
def sRep : CallSpec where
  G := Nat
  args := fun n => #[.string ⟨#[32]⟩, .int .i64 n]
  pre := fun n _ => n ≤ 16
  X := ByteArray
  res := fun x => .string x
  post := fun n w x w' => x = blankS n ∧ Ext w w'
structure GK6 where
  k : ByteArray
  col : Int
  l : Lk
  a : Option Addr
  c : Nat
def twoB (k : ByteArray) (l : Lk) : Bool := (regB (sg k 0) && regB (secR k)) || (kindR (sg k 0) == 7 && wideR (sg k 0) l.wide == 1 && secR k == 65039)
def lateB (x : Int) : Bool := x == 8232 || x == 8233 || (kindR x == 1 && !joinB x)
def sOneP : CallSpec where
  G := GK6
  args := fun g => #[.string g.k, .slice g.a (cnt g.k) g.c, .int .i64 g.col, lkV g.l]
  pre := fun g w => DB w ∧ g.k.size ≤ 67108864 ∧ ncl g.k = 1 ∧ isBad g.k 0 = false ∧ cnt g.k ≤ g.c ∧ CellsAt w g.a ((runes g.k).map (Value.int .i32))
  X := ByteArray × Nat
  res := fun x => .tuple #[.string x.1, .int .i64 x.2]
  post := fun g w x w' => x = oneC g.k g.col g.l ∧ Ext w w'
def sOneL (b : Bool) : CallSpec where
  G := GK6
  args := fun g => #[.string g.k, .slice g.a (cnt g.k) g.c, .int .i64 g.col, lkV g.l]
  pre := fun g w => lateB (sg g.k 0) = b ∧ sOneP.pre g w
  X := ByteArray × Nat
  res := fun x => .tuple #[.string x.1, .int .i64 x.2]
  post := fun g w x w' => x = oneC g.k g.col g.l ∧ Ext w w'
def spOneP : List (Nat × CallSpec) := [(97, sStop), (98, sRep), (61, sRuneX .i8 kindR), (99, sNamed), (100, sWide (fun w w' => Ext w w')), (101, sRB regB)]
def cutsOne (g : GK6) : List (Nat × Nat × CutAnn) :=
  [(3, 4, { X := Unit, sh := fun _ _ => [(11, .int .i32 (secR g.k))], inv := fun _ w0 _ w => w = w0 }),
    (28, 29, { X := Unit, sh := fun _ _ => [(99, .bool (twoB g.k g.l))], inv := fun _ w0 _ w => Ext w0 w })]
def annOneT (g : GK6) (_ : World) : Ann where
  sp := spOneP
  cuts := cutsOne g
def annOneF (g : GK6) (_ : World) : Ann where
  sp := spOneP
  cuts := (11, 13, { X := Unit, sh := fun _ _ => [(45, .bool (lateB (sg g.k 0)))], inv := fun _ w0 _ w => Ext w0 w }) :: cutsOne g
structure GT6 where
  s : ByteArray
  col : Int
  l : Lk
def sTextC : CallSpec where
  G := GT6
  args := fun g => #[.string g.s, .int .i64 g.col, lkV g.l]
  pre := fun g w => U8 w ∧ DB w ∧ g.s.size ≤ 67108864
  X := ByteArray × Nat
  res := fun x => .tuple #[.string x.1, .int .i64 x.2]
  post := fun g w x w' => x = textC g.s g.col g.l ∧ Ext w w'
def spTextP : List (Nat × CallSpec) := [(67, sSN nextL), (50, sDec nxR nxN), (68, sOneP)]
def sOneR : CallSpec where
  G := GK6
  args := fun g => #[.slice g.a (cnt g.k) g.c, .string g.k, .int .i64 g.col, lkV g.l]
  pre := fun g w => g.k.size ≤ 67108864 ∧ ncl g.k = 1 ∧ cnt g.k ≤ g.c ∧ CellsAt w g.a ((List.range (cnt g.k)).flatMap (sgnV g.k))
  X := ByteArray × Nat
  res := fun x => .tuple #[.string x.1, .int .i64 x.2]
  post := fun g w x w' => x = oneC g.k g.col g.l ∧ Ext w w'
def spOneR : List (Nat × CallSpec) := [(103, sStop), (104, sBlanks), (54, sRune .i8 kindR), (105, sRB joinB), (106, sNumX), (107, sLS runesBytes), (108, sRB regB), (109, sWide (fun w w' => w' = w))]
def annOneR (g : GK6) (_ : World) : Ann where
  sp := spOneR
  cuts := [(14, 14, { X := Unit, sh := fun _ _ => [(83, .bool (fmtB (sg g.k 0)))], inv := fun _ w0 _ w => Ext w0 w }),
    (19, 19, { X := Unit, sh := fun _ _ => [(100, .bool (kindR (sg g.k 0) == 2 || joinB (sg g.k 0)))], inv := fun _ w0 _ w => Ext w0 w }),
    (21, 21, { X := Unit, sh := fun _ _ => [(1, .string (cutS g.k))], inv := fun _ w0 _ w => w = w0 }),
    (23, 23, { X := Unit, sh := fun _ _ => [(130, .bool (regB (sg g.k 0) && regB (secR g.k)))], inv := fun _ w0 _ w => Ext w0 w }),
    (26, 26, { X := Unit, sh := fun _ _ => [(153, .bool (kindR (sg g.k 0) == 7 && wideR (sg g.k 0) g.l.wide == 1 && secR g.k == 65039))], inv := fun _ w0 _ w => Ext w0 w })]
def spTextR : List (Nat × CallSpec) := [(69, sSN nextL), (71, sSigns), (70, sOneR)]
end

section
open Go Vc Ut Tb Cl
structure Ce where
  t : ByteArray
  p : Int
  a : Int
  n : Int
  r : Bool
  st : Nat
 deriving DecidableEq
def ceV (c : Ce) : List Value := [.string c.t, .int .i8 c.p, .int .i64 c.a, .int .i64 c.n, .bool c.r, .int .u16 c.st]
def blkC (st : Nat) : Ce := ⟨⟨#[]⟩, 0, 0, 0, false, st⟩
def hlfC (st : Nat) : Ce := ⟨⟨#[]⟩, 1, 0, 0, false, st⟩
def txC (c : Ce) : ByteArray := if c.p = 0 ∧ c.t.size = 0 then ⟨#[32]⟩ else c.t
def alikeB (a b : Ce) : Bool := a.p == b.p && (a.st == b.st && decide (txC a = txC b))
def lkW (wd : Bool) : Lk := ⟨0, wd, 0, false, false⟩
def plN (s : ByteArray) (wd : Bool) : Nat := if validB s = true ∧ ncl s = 1 ∧ (textC s 0 (lkW wd)).1 = s ∧ (textC s 0 (lkW wd)).2 ≤ 2 then (textC s 0 (lkW wd)).2 else 0
structure Gr where
  w : Int
  h : Int
  cs : List Ce
  x : Int
  y : Int
def sizeB (w h : Int) : Bool := decide (0 ≤ w ∧ w ≤ 1024 ∧ 0 ≤ h ∧ h ≤ 1024)
def rgtL (w : Nat) (wd : Bool) : List Ce → Nat → Bool
  | [], _ => true
  | c :: r, i => c.p == 0 && (if plN (txC c) wd = 0 then false else if plN (txC c) wd = 2 then
      (match r with
        | [] => false
        | d :: r' => !((i + 1) % w == 0) && (d.p == 1 && (d.st == c.st && decide (d.t.size = 0))) && rgtL w wd r' (i + 2))
      else rgtL w wd r (i + 1))
def curB (g : Gr) : Bool := (g.x == -1 && g.y == -1) || decide (0 ≤ g.x ∧ g.x < g.w ∧ 0 ≤ g.y ∧ g.y < g.h)
def rightB (g : Gr) (wd : Bool) : Bool := sizeB g.w g.h && ((g.cs.length : Int) == g.w * g.h && (curB g && rgtL g.w.toNat wd g.cs 0))
def samL : List Ce → List Ce → Bool
  | [], [] => true
  | a :: l, b :: m => alikeB a b && samL l m
  | _, _ => false
def sameB (a b : Gr) : Bool := a.w == b.w && (a.h == b.h && (a.x == b.x && (a.y == b.y && samL a.cs b.cs)))
structure Gs where
  w : Nat
  h : Nat
  wd : Bool
  cs : List Ce
  x : Nat
  y : Nat
  hid : Bool
  sty : Nat
  last : Nat
  stt : Nat
  num : List Int
  asked : Bool
  void : Bool
def newG (w h : Nat) (wd : Bool) : Gs := ⟨w, h, wd, List.replicate (w * h) (blkC 0), 0, 0, false, 0, 0, 0, [], false, false⟩
def ceG (l : List Ce) (i : Nat) : Ce := l.getD i (blkC 0)
def backG (g : Gs) : Gs := if g.w ≤ g.x then { g with x := g.w - 1 } else g
def downG (g : Gs) : Gs := if g.y + 1 < g.h then { g with y := g.y + 1 } else { g with cs := g.cs.drop g.w ++ List.replicate (min g.w g.cs.length) (blkC 0) }
def layL (l : List Ce) (w i : Nat) (c : Ce) : List Ce :=
  (if (ceG l i).p = 1 then l.set (i - 1) (blkC (ceG l (i - 1)).st) else if (i + 1) % w ≠ 0 ∧ (ceG l (i + 1)).p = 1 then l.set (i + 1) (blkC (ceG l (i + 1)).st) else l).set i c
def enc1 (r : Int) : ByteArray := Utf8.encode r
def joinG (g : Gs) (r : Int) : Option Gs :=
  if g.last = 0 then none else
  if plN (txC (ceG g.cs (g.last - 1)) ++ enc1 r) g.wd < plN (txC (ceG g.cs (g.last - 1))) g.wd then none else
  if plN (txC (ceG g.cs (g.last - 1))) g.wd < plN (txC (ceG g.cs (g.last - 1)) ++ enc1 r) g.wd then
    (if g.last % g.w = 0 then some { g with last := 0 } else
      some { g with cs := (layL g.cs g.w g.last (hlfC (ceG g.cs (g.last - 1)).st)).set (g.last - 1) { ceG (layL g.cs g.w g.last (hlfC (ceG g.cs (g.last - 1)).st)) (g.last - 1) with t := txC (ceG g.cs (g.last - 1)) ++ enc1 r }, x := g.x + 1 })
  else some { g with cs := g.cs.set (g.last - 1) { ceG g.cs (g.last - 1) with t := txC (ceG g.cs (g.last - 1)) ++ enc1 r } }
def layG (g : Gs) (s : ByteArray) (n : Nat) : Gs :=
  let i := g.y * g.w + g.x
  let c1 := if n = 2 then layL g.cs g.w (i + 1) (blkC g.sty) else g.cs
  let c2 := layL c1 g.w i ⟨s, 0, 0, 0, false, g.sty⟩
  let c3 := if n = 2 then c2.set (i + 1) { ceG c2 (i + 1) with p := 1 } else c2
  { g with cs := c3, x := g.x + n, last := i + 1 }
def putG (g : Gs) (r : Int) : Gs :=
  match joinG g r with
  | some g' => g'
  | none =>
    let s := (textC (enc1 r) 0 (lkW g.wd)).1
    let n := plN s g.wd
    if n = 0 ∨ g.w < n ∨ g.h = 0 then { g with last := 0 }
    else layG (if g.w < g.x + n then downG { g with last := 0, x := 0 } else { g with last := 0 }) s n
def wearF : Nat → List Int → Nat → Nat
  | 0, _, st => st
  | _, [], st => st
  | f + 1, n :: l, st =>
    if n = -1 ∨ n = 0 then wearF f l 0
    else if n = 1 then wearF f l (st ||| 256)
    else if n = 3 then wearF f l (st ||| 512)
    else if n = 4 then wearF f l (st ||| 1024)
    else if n = 7 then wearF f l (st ||| 2048)
    else match l with
      | a :: k :: l' =>
        if n = 38 ∧ a = 5 ∧ 0 ≤ k ∧ k ≤ 255 then wearF f l' ((st / 256 * 256) ||| k.toNat)
        else if n = 48 ∧ a = 5 ∧ 0 ≤ k ∧ k ≤ 15 then wearF f l' ((st % 4096) ||| (k.toNat * 4096))
        else wearF f l st
      | _ => wearF f l st
def wearL (l : List Int) (st : Nat) : Nat := wearF l.length l st
def nmL (l : List Int) (i : Nat) : Int := l.getD i (-1)
def clampG (n : Int) (m : Nat) : Nat := (max (min n (m : Int) - 1) 0).toNat
def doesG (g : Gs) (r : Int) : Gs :=
  if g.void = true then g
  else if g.asked = true then (if nmL g.num 0 = 25 ∧ (r = 104 ∨ r = 108) then { g with hid := r == 108 } else g)
  else if r = 72 then { g with y := clampG (nmL g.num 0) g.h, x := clampG (nmL g.num 1) g.w }
  else if r = 74 ∧ nmL g.num 0 = 2 then backG { g with cs := List.replicate g.cs.length (blkC 0) }
  else if r = 109 then { g with sty := wearL g.num g.sty }
  else g
def holdG (g : Gs) (r : Int) (first : Bool) : Gs :=
  if r = 63 ∧ first = true then { g with asked := true }
  else if r = 59 then { g with num := g.num ++ [-1] }
  else if 48 ≤ r ∧ r ≤ 57 then { g with num := g.num.set (g.num.length - 1) (min (max (nmL g.num (g.num.length - 1)) 0 * 10 + (r - 48)) 9999) }
  else { g with void := true }
def freeG (g : Gs) (r : Int) : Gs :=
  if kindR r ≠ 0 then putG g r
  else if r = 27 then { g with last := 0, stt := 1 }
  else if r = 13 then { g with last := 0, x := 0 }
  else if r = 10 then downG (backG { g with last := 0 })
  else { g with last := 0 }
def takeG (g : Gs) (r : Int) : Gs :=
  if g.stt = 1 then (if r = 91 then { g with stt := 2, num := [], asked := false, void := false } else { g with stt := 0 })
  else if g.stt = 2 then
    let g1 := if g.num = [] then { g with num := [-1] } else g
    if 32 ≤ r ∧ r ≤ 63 then holdG g1 r (decide (g.num = []))
    else if 64 ≤ r ∧ r ≤ 126 then doesG { g1 with stt := 0 } r
    else freeG { g1 with stt := 0 } r
  else freeG g r
def feedG (g : Gs) (l : List Int) : Gs := l.foldl takeG g
def gridG (g : Gs) : Gr := ⟨g.w, g.h, g.cs, if g.hid = false ∧ g.cs ≠ [] then (min (g.x : Int) ((g.w : Int) - 1)) else -1, if g.hid = false ∧ g.cs ≠ [] then (g.y : Int) else -1⟩
end

section
open Go Go.RowKit Vc Ut Tb Cl
def UD (w : World) : Prop := U8 w ∧ DB w
def flat (cs : List Ce) : List Value := cs.flatMap ceV
def ceA (c : Ce) : Value := .agg #[.string c.t, .int .i8 c.p, .int .i64 c.a, .int .i64 c.n, .bool c.r, .int .u16 c.st]
def grA (ad : Option Addr) (c : Nat) (g : Gr) : Value := .agg #[.int .i64 g.w, .int .i64 g.h, .slice ad g.cs.length c, .int .i64 g.x, .int .i64 g.y]
def sTextW : CallSpec where
  G := Ce
  args := fun c => #[ceA c]
  pre := fun _ _ => True
  X := ByteArray
  res := fun x => .string x
  post := fun c w x w' => x = txC c ∧ Ext w w'
def sAlikeW : CallSpec where
  G := Ce × Ce
  args := fun c => #[ceA c.1, ceA c.2]
  pre := fun _ _ => True
  X := Bool
  res := fun x => .bool x
  post := fun c w x w' => x = alikeB c.1 c.2 ∧ Ext w w'
def sPlainW : CallSpec where
  G := ByteArray × Bool
  args := fun g => #[.string g.1, .bool g.2]
  pre := fun g w => UD w ∧ g.1.size ≤ 67108864
  X := Nat
  res := fun x => .int .i64 x
  post := fun g w x w' => x = plN g.1 g.2 ∧ Ext w w'
def sPlainR : CallSpec where
  G := ByteArray × Bool
  args := fun g => #[.string g.1, .bool g.2]
  pre := fun g w => UD w ∧ g.1.size ≤ 67108864
  X := Nat × Bool
  res := fun x => .tuple #[.int .i64 x.1, .bool x.2]
  post := fun g w x w' => x.2 = decide (plN g.1 g.2 ≠ 0) ∧ (x.2 = true → x.1 = plN g.1 g.2) ∧ Ext w w'
def sSizeW : CallSpec where
  G := Int × Int
  args := fun g => #[.int .i64 g.1, .int .i64 g.2]
  pre := fun _ _ => True
  X := Bool
  res := fun x => .bool x
  post := fun g w x w' => x = sizeB g.1 g.2 ∧ Ext w w'
def bulkC (cs : List Ce) : Nat := (cs.map fun c => 1 + c.t.size).sum
structure GGr where
  ad : Option Addr
  c : Nat
  g : Gr
  wd : Bool
def grIn (w : World) (ad : Option Addr) (cs : List Ce) : Prop := CellsAt w ad (flat cs) ∧ bulkC cs ≤ 67108864
def sRightW : CallSpec where
  G := GGr
  args := fun g => #[grA g.ad g.c g.g, .bool g.wd]
  pre := fun g w => UD w ∧ grIn w g.ad g.g.cs
  X := Bool
  res := fun x => .bool x
  post := fun g w x w' => x = rightB g.g g.wd ∧ Ext w w'
structure GGg where
  a1 : Option Addr
  c1 : Nat
  g1 : Gr
  a2 : Option Addr
  c2 : Nat
  g2 : Gr
def sSameW : CallSpec where
  G := GGg
  args := fun g => #[grA g.a1 g.c1 g.g1, grA g.a2 g.c2 g.g2]
  pre := fun g w => grIn w g.a1 g.g1.cs ∧ grIn w g.a2 g.g2.cs
  X := Bool
  res := fun x => .bool x
  post := fun g w x w' => x = sameB g.g1 g.g2 ∧ Ext w w'
def spAlikeW : List (Nat × CallSpec) := [(26, sTextW)]
def spPlainW : List (Nat × CallSpec) := [(43, sTest validB), (44, sSN ncl), (45, sTextC)]
def spRightW : List (Nat × CallSpec) := [(24, sSizeW), (26, sTextW), (25, sPlainW)]
def annRightW (g : GGr) (_ : World) : Ann where
  sp := spRightW
  cuts := [(3, 3, { X := Unit, sh := fun _ _ => [(5, .bool (g.g.x == -1 && g.g.y == -1))], inv := fun _ w0 _ w => w = w0 }), (4, 5, { X := Unit, sh := fun _ _ => [], inv := fun _ w0 _ w => w = w0 ∧ curB g.g = true })]
  loops := [(7, {
    X := Nat
    sh := fun _ i => [(6, .int .i64 i)]
    inv := fun _ w0 i w => i ≤ g.g.cs.length ∧ rgtL g.g.w.toNat g.wd (g.g.cs.drop i) i = rgtL g.g.w.toNat g.wd g.g.cs 0 ∧ Ext w0 w
    mu := fun _ _ i _ => g.g.cs.length - i })]
def spSameW : List (Nat × CallSpec) := [(30, sAlikeW)]
def annSameW (g : GGg) (_ : World) : Ann where
  sp := spSameW
  loops := [(4, {
    X := Nat
    sh := fun _ i => [(44, .int .i64 i)]
    inv := fun _ w0 i w => i ≤ g.g1.cs.length ∧ samL (g.g1.cs.drop i) (g.g2.cs.drop i) = samL g.g1.cs g.g2.cs ∧ Ext w0 w
    mu := fun _ _ i _ => g.g1.cs.length - i })]
def spAlikeR : List (Nat × CallSpec) := [(29, sTextW)]
def spPlainR : List (Nat × CallSpec) := [(46, sTextC), (47, sTest validB), (48, sSN ncl)]
def annPlainR (g : ByteArray × Bool) (_ : World) : Ann where
  sp := spPlainR
def spRightR : List (Nat × CallSpec) := [(27, sSizeW), (29, sTextW), (28, sPlainR)]
def annRightR (g : GGr) (_ : World) : Ann where
  sp := spRightR
  cuts := [(3, 4, { X := Unit, sh := fun _ _ => [], inv := fun _ w0 _ w => w = w0 ∧ curB g.g = true })]
  loops := [(6, {
    X := Nat
    sh := fun _ y => [(5, .int .i64 y)]
    inv := fun _ w0 y w => (y : Int) ≤ g.g.h ∧ rgtL g.g.w.toNat g.wd (g.g.cs.drop (y * g.g.w.toNat)) (y * g.g.w.toNat) = rgtL g.g.w.toNat g.wd g.g.cs 0 ∧ Ext w0 w
    mu := fun _ _ y _ => g.g.h.toNat - y }), (9, {
    X := Nat
    sh := fun _ x => [(6, .int .i64 x)]
    inv := fun e w0 x w => x ≤ g.g.w.toNat ∧ (∃ y : Nat, gv e 5 = .int .i64 (y : Int) ∧ (y : Int) < g.g.h ∧ rgtL g.g.w.toNat g.wd (g.g.cs.drop (y * g.g.w.toNat + x)) (y * g.g.w.toNat + x) = rgtL g.g.w.toNat g.wd g.g.cs 0) ∧ Ext w0 w
    mu := fun _ _ x _ => g.g.w.toNat - x })]
def spSameR : List (Nat × CallSpec) := [(31, sAlikeW)]
def annSameR (g : GGg) (_ : World) : Ann where
  sp := spSameR
  loops := [(4, {
    X := Nat
    sh := fun _ i => [(5, .int .i64 i)]
    inv := fun _ w0 i w => i ≤ g.g1.cs.length ∧ samL (g.g1.cs.drop i) (g.g2.cs.drop i) = samL g.g1.cs g.g2.cs ∧ Ext w0 w
    mu := fun _ _ i _ => g.g1.cs.length - i })]
end

section
open Go Vc Ut Tb Cl
structure Te where
  b : ByteArray
  ps : Int
  last : ByteArray
  st : Nat
  w : Int
  wd : Bool
def itoaB (n : Int) : ByteArray := ⟨(Lib.itoa n).toArray⟩
def numsB : Bool → List Int → ByteArray
  | _, [] => ⟨#[]⟩
  | first, n :: l => (if first then ⟨#[]⟩ else ⟨#[59]⟩) ++ itoaB n ++ numsB false l
def sayB (c : UInt8) (l : List Int) : ByteArray := ⟨#[27, 91]⟩ ++ numsB true l ++ ⟨#[c]⟩
def sayT (t : Te) (c : UInt8) (l : List Int) : Te := { t with b := t.b ++ sayB c l, last := ⟨#[]⟩ }
def moveT (t : Te) (i : Int) : Te := { sayT t 72 [i / t.w + 1, i % t.w + 1] with ps := i }
def wearA (st i : Nat) : List Int := ((List.range i).filter fun j => st / 2 ^ (8 + j) % 2 = 1).map fun j => [1, 3, 4, 7].getD j 0
def wearN (st : Nat) : List Int := [0] ++ wearA st 4 ++ (if st % 256 ≠ 0 then [38, 5, ((st % 256 : Nat) : Int)] else []) ++ (if st / 4096 ≠ 0 then [48, 5, ((st / 4096 : Nat) : Int)] else [])
def wearT (t : Te) (st : Nat) : Te := { sayT t 109 (wearN st) with st := st }
def joinsT (t : Te) (s : ByteArray) : Bool := decide (t.last.size ≠ 0) && decide (ncl (t.last ++ s.extract 0 (nxN s)) = 1)
def te1 (t : Te) (i : Int) : Te := if t.ps ≠ i then moveT t i else t
def te2 (t : Te) (st : Nat) : Te := if t.st ≠ st then wearT t st else t
def te3 (t : Te) (i : Int) (s : ByteArray) : Te := if joinsT t s = true then moveT t i else t
def te4 (t : Te) (i : Int) (s : ByteArray) : Te := { t with b := t.b ++ s, last := s, ps := if (i + plN s t.wd) % t.w = 0 then -1 else i + plN s t.wd }
def tellT (t : Te) (i : Int) (c : Ce) : Te := te4 (te3 (te2 (te1 t i) c.st) i (txC c)) i (txC c)
def halfB (a b : List Ce) (i : Nat) : Bool := decide (i + 1 < b.length) && ((ceG b (i + 1)).p == 1 && !alikeB (ceG a (i + 1)) (ceG b (i + 1)))
def tellsB (kn : Bool) (a b : List Ce) (i : Nat) : Bool := (ceG b i).p == 0 && (!kn || (!alikeB (ceG a i) (ceG b i) || halfB a b i))
def loopT (kn : Bool) (a b : List Ce) (t : Te) : Nat → Te
  | 0 => t
  | i + 1 => if tellsB kn a b i = true then tellT (loopT kn a b t i) i (ceG b i) else loopT kn a b t i
def knownG (a b : Gr) (wd : Bool) : Bool := rightB a wd && (a.w == b.w && a.h == b.h)
def begT (kn : Bool) (b : Gr) (wd : Bool) : Te :=
  let t := wearT ⟨⟨#[]⟩, -1, ⟨#[]⟩, 0, b.w, wd⟩ 0
  if kn then t else sayT t 74 [2]
def endT (t : Te) (b : Gr) : Te := if b.x < 0 then { t with b := t.b ++ ⟨#[27, 91, 63, 50, 53, 108]⟩ } else moveT { t with b := t.b ++ ⟨#[27, 91, 63, 50, 53, 104]⟩ } (b.y * t.w + b.x)
def diffB (a b : Gr) (wd : Bool) : Option ByteArray :=
  if rightB b wd = false ∨ (rightB a wd = true ∧ sameB a b = true) then none
  else some (endT (loopT (knownG a b wd) a.cs b.cs (begT (knownG a b wd) b wd) b.cs.length) b).b
end
end Go.Proofs.YtjdohhididpomaaGreatDoor
