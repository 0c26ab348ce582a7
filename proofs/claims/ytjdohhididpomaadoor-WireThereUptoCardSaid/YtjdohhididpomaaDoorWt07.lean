/-
  Texts joined by program: SpXa, Qe, SpR, SpI, SpXd, SpXh.
-/
import Derived.Test.YtjdohhididpomaaDoorWt06
import Derived.Lib.ItoaNum
import Derived.Test.YtjdohhididpomaaDoorWt03
import Derived.Test.YtjdohhididpomaaDoorWt05
import Derived.Test.YtjdohhididpomaaDoorProg
import Derived.Lib.AppendIntMem
import Derived.Lib.OthersKept
set_option linter.unusedVariables false
set_option linter.unusedSimpArgs false

section
namespace Go.Proofs.YtjdohhididpomaaDoor
open Go Go.RowKit Vc Ut Tb Cl
def UD (w : World) : Prop := U8 w ∧ DB w
def flat (cs : List Ce) : List Value := cs.flatMap ceV
def ceA (c : Ce) : Value := .agg #[.string c.t, .int .i8 c.p, .int .i64 c.a, .int .i64 c.n, .bool c.r, .int .u16 c.st]
def grA (ad : Option Addr) (c : Nat) (g : Gr) : Value := .agg #[.int .i64 g.w, .int .i64 g.h, .slice ad g.cs.length c, .int .i64 g.x, .int .i64 g.y]
def sTextW : CallSpec where
  G := Ce
  args := fun c => #[ceA c]
  pre := fun _ _ => True
  X := ByteArray
  res := fun x => .string x
  post := fun c w x w' => x = txC c ∧ Ext w w'
def sAlikeW : CallSpec where
  G := Ce × Ce
  args := fun c => #[ceA c.1, ceA c.2]
  pre := fun _ _ => True
  X := Bool
  res := fun x => .bool x
  post := fun c w x w' => x = alikeB c.1 c.2 ∧ Ext w w'
def sPlainW : CallSpec where
  G := ByteArray × Bool
  args := fun g => #[.string g.1, .bool g.2]
  pre := fun g w => UD w ∧ g.1.size ≤ 67108864
  X := Nat
  res := fun x => .int .i64 x
  post := fun g w x w' => x = plN g.1 g.2 ∧ Ext w w'
def sPlainR : CallSpec where
  G := ByteArray × Bool
  args := fun g => #[.string g.1, .bool g.2]
  pre := fun g w => UD w ∧ g.1.size ≤ 67108864
  X := Nat × Bool
  res := fun x => .tuple #[.int .i64 x.1, .bool x.2]
  post := fun g w x w' => x.2 = decide (plN g.1 g.2 ≠ 0) ∧ (x.2 = true → x.1 = plN g.1 g.2) ∧ Ext w w'
def sSizeW : CallSpec where
  G := Int × Int
  args := fun g => #[.int .i64 g.1, .int .i64 g.2]
  pre := fun _ _ => True
  X := Bool
  res := fun x => .bool x
  post := fun g w x w' => x = sizeB g.1 g.2 ∧ Ext w w'
def bulkC (cs : List Ce) : Nat := (cs.map fun c => 1 + c.t.size).sum
structure GGr where
  ad : Option Addr
  c : Nat
  g : Gr
  wd : Bool
def grIn (w : World) (ad : Option Addr) (cs : List Ce) : Prop := CellsAt w ad (flat cs) ∧ bulkC cs ≤ 67108864
def sRightW : CallSpec where
  G := GGr
  args := fun g => #[grA g.ad g.c g.g, .bool g.wd]
  pre := fun g w => UD w ∧ grIn w g.ad g.g.cs
  X := Bool
  res := fun x => .bool x
  post := fun g w x w' => x = rightB g.g g.wd ∧ Ext w w'
structure GGg where
  a1 : Option Addr
  c1 : Nat
  g1 : Gr
  a2 : Option Addr
  c2 : Nat
  g2 : Gr
def sSameW : CallSpec where
  G := GGg
  args := fun g => #[grA g.a1 g.c1 g.g1, grA g.a2 g.c2 g.g2]
  pre := fun g w => grIn w g.a1 g.g1.cs ∧ grIn w g.a2 g.g2.cs
  X := Bool
  res := fun x => .bool x
  post := fun g w x w' => x = sameB g.g1 g.g2 ∧ Ext w w'
def spAlikeW : List (Nat × CallSpec) := [(19, sTextW)]
def spPlainW : List (Nat × CallSpec) := [(29, sTest validB), (30, sSN ncl), (31, sTextC)]
def spRightW : List (Nat × CallSpec) := [(17, sSizeW), (19, sTextW), (18, sPlainW)]
def annRightW (g : GGr) (_ : World) : Ann where
  sp := spRightW
  cuts := [(3, 3, { X := Unit, sh := fun _ _ => [(5, .bool (g.g.x == -1 && g.g.y == -1))], inv := fun _ w0 _ w => w = w0 }), (4, 5, { X := Unit, sh := fun _ _ => [], inv := fun _ w0 _ w => w = w0 ∧ curB g.g = true })]
  loops := [(7, {
    X := Nat
    sh := fun _ i => [(6, .int .i64 i)]
    inv := fun _ w0 i w => i ≤ g.g.cs.length ∧ rgtL g.g.w.toNat g.wd (g.g.cs.drop i) i = rgtL g.g.w.toNat g.wd g.g.cs 0 ∧ Ext w0 w
    mu := fun _ _ i _ => g.g.cs.length - i })]
def spSameW : List (Nat × CallSpec) := [(22, sAlikeW)]
def annSameW (g : GGg) (_ : World) : Ann where
  sp := spSameW
  loops := [(4, {
    X := Nat
    sh := fun _ i => [(44, .int .i64 i)]
    inv := fun _ w0 i w => i ≤ g.g1.cs.length ∧ samL (g.g1.cs.drop i) (g.g2.cs.drop i) = samL g.g1.cs g.g2.cs ∧ Ext w0 w
    mu := fun _ _ i _ => g.g1.cs.length - i })]
end Go.Proofs.YtjdohhididpomaaDoor
end

section
namespace Go.Proofs.YtjdohhididpomaaDoor
open Go Vc Ut Tb Cl
structure Te where
  b : ByteArray
  ps : Int
  last : ByteArray
  st : Nat
  w : Int
  wd : Bool
def itoaB (n : Int) : ByteArray := ⟨(Lib.itoa n).toArray⟩
def numsB : Bool → List Int → ByteArray
  | _, [] => ⟨#[]⟩
  | first, n :: l => (if first then ⟨#[]⟩ else ⟨#[59]⟩) ++ itoaB n ++ numsB false l
def sayB (c : UInt8) (l : List Int) : ByteArray := ⟨#[27, 91]⟩ ++ numsB true l ++ ⟨#[c]⟩
def sayT (t : Te) (c : UInt8) (l : List Int) : Te := { t with b := t.b ++ sayB c l, last := ⟨#[]⟩ }
def moveT (t : Te) (i : Int) : Te := { sayT t 72 [i / t.w + 1, i % t.w + 1] with ps := i }
def wearA (st i : Nat) : List Int := ((List.range i).filter fun j => st / 2 ^ (8 + j) % 2 = 1).map fun j => [1, 3, 4, 7].getD j 0
def wearN (st : Nat) : List Int := [0] ++ wearA st 4 ++ (if st % 256 ≠ 0 then [38, 5, ((st % 256 : Nat) : Int)] else []) ++ (if st / 4096 ≠ 0 then [48, 5, ((st / 4096 : Nat) : Int)] else [])
def wearT (t : Te) (st : Nat) : Te := { sayT t 109 (wearN st) with st := st }
def joinsT (t : Te) (s : ByteArray) : Bool := decide (t.last.size ≠ 0) && decide (ncl (t.last ++ s.extract 0 (nxN s)) = 1)
def te1 (t : Te) (i : Int) : Te := if t.ps ≠ i then moveT t i else t
def te2 (t : Te) (st : Nat) : Te := if t.st ≠ st then wearT t st else t
def te3 (t : Te) (i : Int) (s : ByteArray) : Te := if joinsT t s = true then moveT t i else t
def te4 (t : Te) (i : Int) (s : ByteArray) : Te := { t with b := t.b ++ s, last := s, ps := if (i + plN s t.wd) % t.w = 0 then -1 else i + plN s t.wd }
def tellT (t : Te) (i : Int) (c : Ce) : Te := te4 (te3 (te2 (te1 t i) c.st) i (txC c)) i (txC c)
def halfB (a b : List Ce) (i : Nat) : Bool := decide (i + 1 < b.length) && ((ceG b (i + 1)).p == 1 && !alikeB (ceG a (i + 1)) (ceG b (i + 1)))
def tellsB (kn : Bool) (a b : List Ce) (i : Nat) : Bool := (ceG b i).p == 0 && (!kn || (!alikeB (ceG a i) (ceG b i) || halfB a b i))
def loopT (kn : Bool) (a b : List Ce) (t : Te) : Nat → Te
  | 0 => t
  | i + 1 => if tellsB kn a b i = true then tellT (loopT kn a b t i) i (ceG b i) else loopT kn a b t i
def knownG (a b : Gr) (wd : Bool) : Bool := rightB a wd && (a.w == b.w && a.h == b.h)
def begT (kn : Bool) (b : Gr) (wd : Bool) : Te :=
  let t := wearT ⟨⟨#[]⟩, -1, ⟨#[]⟩, 0, b.w, wd⟩ 0
  if kn then t else sayT t 74 [2]
def endT (t : Te) (b : Gr) : Te := if b.x < 0 then { t with b := t.b ++ ⟨#[27, 91, 63, 50, 53, 108]⟩ } else moveT { t with b := t.b ++ ⟨#[27, 91, 63, 50, 53, 104]⟩ } (b.y * t.w + b.x)
def diffB (a b : Gr) (wd : Bool) : Option ByteArray :=
  if rightB b wd = false ∨ (rightB a wd = true ∧ sameB a b = true) then none
  else some (endT (loopT (knownG a b wd) a.cs b.cs (begT (knownG a b wd) b wd) b.cs.length) b).b
end Go.Proofs.YtjdohhididpomaaDoor
end

section
namespace Go.Proofs.YtjdohhididpomaaDoor
open Go Go.RowKit Vc
structure Grow (W : World) (box : Nat) (t e : TypeId) (a : Option Addr) (c : Nat) (vs : List Value) : Prop where
  hb : W.heap[box]? = some (.cells #[.slice a vs.length c] t)
  row : Row W e 1 a vs.length vs c
end Go.Proofs.YtjdohhididpomaaDoor
end

section
namespace Go.Proofs.YtjdohhididpomaaDoor
open Go Go.RowKit Vc Ut Tb Cl
def encPc (p : Nat × ByteArray) : List Value := [.int .i64 (p.1 : Int), .string p.2]
def itV (f b : Nat) : Value := .func (.func f) #[] #[.pointer (some ⟨b, 0, none⟩)]
def ones (l : List Nat) : Nat → Prop := fun q => q ∈ l
def ptrB (v : Value) : Nat := match v with | .pointer (some ⟨b, _, _⟩) => b | _ => 0
def itPc : IterSpec where
  G := ByteArray × Nat
  cap := fun g => [.pointer (some ⟨g.2, 0, none⟩)]
  xs := fun g => (pcL g.1).map encPc
  C := fun g q => q = g.2 ∨ q = 0 ∨ q = 1
  pre := fun g w => w.heap[g.2]? = some (.cells #[.string g.1] 9) ∧ U8 w ∧ g.1.size ≤ 67108864
def spItPc : List (Nat × CallSpec) := [(44, sSN nextL)]
def annItPc (g : ByteArray × Nat) (i : ItG) (W : World) : Ann where
  sp := spItPc
  yl := some (ylOf (itPc.xs g) i W)
  loops := [(1, {
    X := Nat × (Nat → Prop)
    sh := fun _ x => [(3, .int .i64 (bp g.1 x.1))]
    inv := fun _ _ x w => x.1 ≤ ncl g.1 ∧ i.J x.1 x.2 w ∧ Mid W i.D0 x.2 w
    mu := fun _ _ x _ => ncl g.1 - x.1 })]
structure GBk where
  s : ByteArray
  bl : Nat
  bs : Nat
  a : Option Addr
  c : Nat
def pcR (s : ByteArray) : List (Nat × ByteArray) := (List.range (ncl s)).map fun k => pcP s (ncl s - 1 - k)
def BkAt (g : GBk) (w : World) : Prop := w.heap[g.bl]? = some (.cells #[.slice g.a (ncl g.s + 1) g.c] 62) ∧ Row w 3 1 g.a (ncl g.s + 1) ((bordI g.s).map (Value.int .i64)) g.c ∧ w.heap[g.bs]? = some (.cells #[.string g.s] 9)
def itBk : IterSpec where
  G := GBk
  cap := fun g => [.pointer (some ⟨g.bl, 0, none⟩), .pointer (some ⟨g.bs, 0, none⟩)]
  xs := fun g => (pcR g.s).map encPc
  C := fun g q => q = g.bl ∨ q = g.bs ∨ blk g.a = some q
  pre := fun g w => BkAt g w ∧ g.s.size ≤ 67108864
def annItBk (g : GBk) (i : ItG) (W : World) : Ann where
  sp := []
  yl := some (ylOf (itBk.xs g) i W)
  loops := [(1, {
    X := Nat × (Nat → Prop)
    sh := fun _ x => [(4, .int .i64 ((ncl g.s : Int) - x.1))]
    inv := fun _ _ x w => x.1 ≤ ncl g.s ∧ i.J x.1 x.2 w ∧ Mid W i.D0 x.2 w
    mu := fun _ _ x _ => ncl g.s - x.1 })]
def sIter (f : Nat) : CallSpec where
  G := ByteArray
  args := fun s => #[.string s]
  pre := fun s w => True
  X := Nat
  res := fun b => itV f b
  post := fun s w b w' => w.heap.size ≤ b ∧ w'.heap[b]? = some (.cells #[.string s] 9) ∧ Ext w w'
def spAllC : List (Nat × CallSpec) := [(55, sIter 69)]
def endsI (s : ByteArray) : List Int := (List.range (ncl s)).map fun i => (bp s (i + 1) : Int)
def annEnds (s : ByteArray) (w00 : World) : Ann where
  sp := spAllC
  ranges := [(3, {
    α := Nat × ByteArray
    enc := encPc
    J := fun e w0 xs k D W => ∃ a c, D = (fun q => q = ptrB (gv e 3) ∨ blk a = some q) ∧ Grow W (ptrB (gv e 3)) 62 3 a c (((endsI s).take k).map (Value.int .i64))
    Jx := fun e w0 _ _ D W => (1 : Nat) = 0 })]
def spCnt : List (Nat × CallSpec) := [(43, sSL .i64 3 endsI)]
def annLastC (s : ByteArray) (w00 : World) : Ann where
  sp := spAllC
  ranges := [(3, {
    α := Nat × ByteArray
    enc := encPc
    J := fun e w0 xs k D W => D = ones [ptrB (gv e 3)] ∧ W.heap[ptrB (gv e 3)]? = some (.cells #[.int .i64 (if k = 0 then 0 else ((bp s k : Int) - bp s (k - 1)))] 3)
    Jx := fun e w0 _ _ D W => (1 : Nat) = 0 })]
def annIsC (g : ByteArray × Int) (w00 : World) : Ann where
  sp := spAllC
  ranges := [(2, {
    α := Nat × ByteArray
    enc := encPc
    exs := [.ret]
    J := fun e w0 xs k D W => D = ones [ptrB (gv e 4)] ∧ (∀ j, j < k → (bp g.1 j : Int) < g.2) ∧ (∃ v, W.heap[ptrB (gv e 4)]? = some (.cells #[.bool v] 4))
    Jx := fun e w0 _ _ D W => D = ones [ptrB (gv e 4)] ∧ W.heap[ptrB (gv e 4)]? = some (.cells #[.bool (isB g.1 g.2)] 4) })]
def annAtC (g : ByteArray × Int) (w00 : World) : Ann where
  sp := spAllC
  ranges := [(3, {
    α := Nat × ByteArray
    enc := encPc
    exs := [.ret]
    J := fun e w0 xs k D W => D = ones [ptrB (gv e 4), ptrB (gv e 5)] ∧ (∀ j, j < k → bp g.1 (j + 1) ≤ clampN g.1 g.2) ∧ (∃ v u, W.heap[ptrB (gv e 4)]? = some (.cells #[.int .i64 v] 3) ∧ W.heap[ptrB (gv e 5)]? = some (.cells #[.int .i64 u] 3))
    Jx := fun e w0 _ _ D W => D = ones [ptrB (gv e 4), ptrB (gv e 5)] ∧ W.heap[ptrB (gv e 4)]? = some (.cells #[.int .i64 (atF g.1 g.2).1] 3) ∧ W.heap[ptrB (gv e 5)]? = some (.cells #[.int .i64 (atF g.1 g.2).2] 3) })]
structure GrowS (W : World) (box : Nat) (t e : TypeId) (s n : Nat) (a : Option Addr) (c : Nat) (vs : List Value) : Prop where
  hb : W.heap[box]? = some (.cells #[.slice a n c] t)
  row : Row W e s a n vs c
structure GIt where
  f : Nat
  caps : Array Value
  xs : List (Nat × ByteArray)
  C : Nat → Prop
def GIt.v (g : GIt) : Value := .func (.func g.f) #[] g.caps
def GIt.ok (g : GIt) (w : World) : Prop := IterAt Tryd.prog (.func (.func g.f) #[] g.caps) (g.xs.map encPc) g.C w ∧ (∀ q, g.C q → q < w.heap.size) ∧ g.xs.length ≤ 67108864
def upP (k : Nat) (p : Nat × ByteArray) : Nat × ByteArray := (p.1 + k, p.2)
end Go.Proofs.YtjdohhididpomaaDoor
end

section
namespace Go.Proofs.YtjdohhididpomaaDoor
open Go Go.RowKit Vc Ut Tb Cl
def P10 (B : Nat) (w : World) : Prop := Lib.TabBelow Tryd.prog B w "internal/strconv.uint64pow10" .u64 Lib.pow10Tab
structure Kp (B : Nat) (q : Option Nat) (w w' : World) : Prop where
  below : Below B w w'
  oth : Lib.OthersKept 5 q w w'
structure GApp where
  B : Nat
  ad : Option Addr
  c : Nat
  s : ByteArray
  i : Int
def sAppI : CallSpec where
  G := GApp
  args := fun g => #[.slice g.ad g.s.size g.c, .int .i64 g.i, .int .i64 10]
  pre := fun g w => P10 g.B w ∧ Row w 5 1 g.ad g.s.size (bytesV g.s) g.c ∧ (∀ q, blk g.ad = some q → g.B ≤ q) ∧ g.B ≤ w.heap.size ∧ g.s.size ≤ 1073741824 ∧ -9223372036854775808 ≤ g.i ∧ g.i ≤ 9223372036854775807
  X := Option Addr × Nat × Nat
  res := fun x => .slice x.1 x.2.1 x.2.2
  post := fun g w x w' => x.2.1 = (g.s ++ itoaB g.i).size ∧ Row w' 5 1 x.1 x.2.1 (bytesV (g.s ++ itoaB g.i)) x.2.2 ∧ (∀ q, blk x.1 = some q → g.B ≤ q) ∧ Kp g.B none w w'
structure TeP where
  B : Nat
  q : Nat
  ad : Option Addr
  c : Nat
def teV (p : TeP) (t : Te) : Array Value := #[.slice p.ad t.b.size p.c, .int .i64 t.ps, .string t.last, .int .u16 t.st, .int .i64 t.w, .bool t.wd]
def UDB (B : Nat) (w : World) : Prop := ∀ w', Below B w w' → UD w'
structure TeIn (w : World) (p : TeP) (t : Te) : Prop where
  box : w.heap[p.q]? = some (.cells (teV p t) 53)
  row : Row w 5 1 p.ad t.b.size (bytesV t.b) p.c
  bq : p.B ≤ p.q
  bad : ∀ g, blk p.ad = some g → p.B ≤ g
  bw : p.B ≤ w.heap.size
  tab : P10 p.B w
  u : UDB p.B w
structure TeOut (w w' : World) (p p' : TeP) (t' : Te) : Prop where
  is : TeIn w' p' t'
  b : p'.B = p.B
  q : p'.q = p.q
  kp : Kp p.B (some p.q) w w'
structure GSay where
  p : TeP
  t : Te
  c : UInt8
  la : Option Addr
  lc : Nat
  l : List Int
def sSay : CallSpec where
  G := GSay
  args := fun g => #[.pointer (some ⟨g.p.q, 0, none⟩), .int .u8 (g.c.toNat : Int), .slice g.la g.l.length g.lc]
  pre := fun g w => TeIn w g.p g.t ∧ Row w 3 1 g.la g.l.length (g.l.map (Value.int .i64)) g.lc ∧ g.t.b.size ≤ 536870912 ∧ g.l.length ≤ 16 ∧ ∀ n ∈ g.l, -9223372036854775808 ≤ n ∧ n ≤ 9223372036854775807
  X := TeP
  res := fun _ => .tuple #[]
  post := fun g w x w' => TeOut w w' g.p x (sayT g.t g.c g.l)
def pfx (l : List Int) (i : Nat) : ByteArray := numsB true (l.take i)
def teB (t : Te) (b : ByteArray) : Te := { t with b := b }
def sayP (t : Te) (l : List Int) (i : Nat) : Te := teB t (t.b ++ ⟨#[27, 91]⟩ ++ pfx l i)
def sayQ (t : Te) (l : List Int) (i : Nat) : Te := teB t ((sayP t l i).b ++ (if i = 0 then ⟨#[]⟩ else ⟨#[59]⟩))
def spSay : List (Nat × CallSpec) := [(32, sAppI)]
def annSay (g : GSay) (w00 : World) : Ann where
  sp := spSay
  cuts := [(4, 5, { X := TeP, sh := fun _ _ => [], inv := fun e w0 x w => ∃ i : Nat, gv e 6 = .int .i64 (i : Int) ∧ TeOut w00 w g.p x (sayQ g.t g.l i) })]
  loops := [(2, {
    X := Nat × TeP
    sh := fun _ x => [(19, .int .i64 x.1)]
    inv := fun _ _ x w => x.1 ≤ g.l.length ∧ TeOut w00 w g.p x.2 (sayP g.t g.l x.1)
    mu := fun _ _ x _ => g.l.length - x.1 })]
structure GMove where
  p : TeP
  t : Te
  i : Nat
def teOk (t : Te) : Prop := 0 < t.w ∧ t.w ≤ 1024 ∧ t.st < 65536
def sMove : CallSpec where
  G := GMove
  args := fun g => #[.pointer (some ⟨g.p.q, 0, none⟩), .int .i64 g.i]
  pre := fun g w => TeIn w g.p g.t ∧ teOk g.t ∧ g.i ≤ 1048576 ∧ g.t.b.size ≤ 536870912
  X := TeP
  res := fun _ => .tuple #[]
  post := fun g w x w' => TeOut w w' g.p x (moveT g.t g.i)
def spMove : List (Nat × CallSpec) := [(21, sSay)]
def sWear : CallSpec where
  G := GMove
  args := fun g => #[.pointer (some ⟨g.p.q, 0, none⟩), .int .u16 g.i]
  pre := fun g w => TeIn w g.p g.t ∧ g.i < 65536 ∧ g.t.b.size ≤ 536870912
  X := TeP
  res := fun _ => .tuple #[]
  post := fun g w x w' => TeOut w w' g.p x (wearT g.t g.i)
def wearB (st : Nat) : List Int := [0] ++ wearA st 4 ++ (if st % 256 ≠ 0 then [38, 5, ((st % 256 : Nat) : Int)] else [])
def annWear (g : GMove) (w00 : World) : Ann where
  sp := spMove
  cuts := [(7, 9, { X := Option Addr × Nat, sh := fun _ x => [(4, .slice x.1 (wearB g.i).length x.2)], inv := fun _ _ x w => Made w00 w 3 1 x.1 (wearB g.i).length ((wearB g.i).map (Value.int .i64)) x.2 }),
    (10, 12, { X := Option Addr × Nat, sh := fun _ x => [(4, .slice x.1 (wearN g.i).length x.2)], inv := fun _ _ x w => Made w00 w 3 1 x.1 (wearN g.i).length ((wearN g.i).map (Value.int .i64)) x.2 })]
  loops := [(2, {
    X := Nat × Option Addr × Nat
    sh := fun _ x => [(11, .int .i64 x.1), (4, .slice x.2.1 (1 + (wearA g.i x.1).length) x.2.2)]
    inv := fun _ _ x w => x.1 ≤ 4 ∧ Made w00 w 3 1 x.2.1 (1 + (wearA g.i x.1).length) (([0] ++ wearA g.i x.1).map (Value.int .i64)) x.2.2
    mu := fun _ _ x _ => 4 - x.1 })]
structure GTell where
  p : TeP
  t : Te
  i : Nat
  c : Ce
def sTell : CallSpec where
  G := GTell
  args := fun g => #[.pointer (some ⟨g.p.q, 0, none⟩), .int .i64 g.i, ceA g.c]
  pre := fun g w => TeIn w g.p g.t ∧ teOk g.t ∧ g.i ≤ 1048576 ∧ g.c.st < 65536 ∧ g.t.b.size ≤ 536000000 ∧ g.c.t.size ≤ 16777216 ∧ g.t.last.size ≤ 16777216
  X := TeP
  res := fun _ => .tuple #[]
  post := fun g w x w' => TeOut w w' g.p x (tellT g.t g.i g.c)
def spTell : List (Nat × CallSpec) := [(19, sTextW), (25, sMove), (20, sWear), (33, sDec nxR nxN), (30, sSN ncl), (18, sPlainW)]
def tellI (g : GTell) (w00 : World) (t : Te) (x : TeP × Nat) (w : World) : Prop := TeOut w00 w g.p x.1 t ∧ w.heap[x.2]? = some (.cells #[.string g.c.t, .int .i8 g.c.p, .int .i64 g.c.a, .int .i64 g.c.n, .bool g.c.r, .int .u16 g.c.st] 46)
def tell0 (g : GTell) (w00 : World) (t : Te) : CutAnn := { X := TeP × Nat, sh := fun _ x => [(5, .pointer (some ⟨x.2, 0, none⟩))], inv := fun _ _ x w => tellI g w00 t x w }
def annTell (g : GTell) (w00 : World) : Ann where
  sp := spTell
  cuts := [(2, 3, tell0 g w00 (te1 g.t g.i)), (4, 5, tell0 g w00 (te2 (te1 g.t g.i) g.c.st)), (6, 8, tell0 g w00 (te3 (te2 (te1 g.t g.i) g.c.st) g.i (txC g.c)))]
end Go.Proofs.YtjdohhididpomaaDoor
end

section
namespace Go.Proofs.YtjdohhididpomaaDoor
open Go Go.RowKit Vc Ut Tb Cl
structure GlP where
  B : Nat
  p : Nat
  ca : Option Addr
  cc : Nat
  rb : Nat
  na : Option Addr
  nc : Nat
def glV (A : GlP) (g : Gs) : Array Value := #[.int .i64 g.w, .int .i64 g.h, .bool g.wd, .slice A.ca g.cs.length A.cc, .int .i64 g.x, .int .i64 g.y, .bool g.hid, .int .u16 g.sty, .int .i64 g.last, .pointer (some ⟨A.rb, 0, none⟩), .int .i64 g.stt, .slice A.na g.num.length A.nc, .bool g.asked, .bool g.void]
def own (A : GlP) (q : Nat) : Prop := q = A.p ∨ blk A.ca = some q ∨ blk A.na = some q
structure GlIn (w : World) (A : GlP) (g : Gs) : Prop where
  box : w.heap[A.p]? = some (.cells (glV A g) 66)
  row : Row w 46 6 A.ca g.cs.length (flat g.cs) A.cc
  num : Row w 3 1 A.na g.num.length (g.num.map (Value.int .i64)) A.nc
  nil : g.num = [] → A.na = none
  bq : ∀ q, own A q → A.B ≤ q
  bw : A.B ≤ w.heap.size
  u : UDB A.B w
structure GlOut (w w' : World) (A A' : GlP) (g' : Gs) : Prop where
  is : GlIn w' A' g'
  p : A'.p = A.p
  b : A'.B = A.B
  rb : A'.rb = A.rb
  st : Step (own A) w w' (own A')
structure fitG (g : Gs) : Prop where
  w : g.w ≤ 1024
  h : g.h ≤ 1024
  len : g.cs.length = g.w * g.h
  x : g.x ≤ 2048
  y : g.y ≤ 2048
  sty : g.sty < 65536
  st : ∀ c ∈ g.cs, c.st < 65536
  num : ∀ n ∈ g.num, -1 ≤ n ∧ n ≤ 9999
  numl : g.num.length ≤ 1099511627776
  last : g.last ≤ g.cs.length
structure GGl where
  A : GlP
  g : Gs
def sBackG : CallSpec where
  G := GGl
  args := fun g => #[.pointer (some ⟨g.A.p, 0, none⟩)]
  pre := fun g w => GlIn w g.A g.g ∧ fitG g.g
  X := GlP
  res := fun _ => .tuple #[]
  post := fun g w x w' => GlOut w w' g.A x (backG g.g)
def sDownG : CallSpec where
  G := GGl
  args := fun g => #[.pointer (some ⟨g.A.p, 0, none⟩)]
  pre := fun g w => GlIn w g.A g.g ∧ fitG g.g
  X := GlP
  res := fun _ => .tuple #[]
  post := fun g w x w' => GlOut w w' g.A x (downG g.g)
structure GLy where
  A : GlP
  g : Gs
  i : Nat
  c : Ce
def layS (g : Gs) (i : Nat) (c : Ce) : Gs := { g with cs := layL g.cs g.w i c }
def layOk (g : Gs) (i : Nat) : Prop := i < g.cs.length ∧ 0 < g.w ∧ ((ceG g.cs i).p = 1 → 0 < i) ∧ ((i + 1) % g.w ≠ 0 → i + 1 < g.cs.length)
def sLayG : CallSpec where
  G := GLy
  args := fun g => #[.pointer (some ⟨g.A.p, 0, none⟩), .int .i64 g.i, ceA g.c]
  pre := fun g w => GlIn w g.A g.g ∧ fitG g.g ∧ layOk g.g g.i
  X := GlP
  res := fun _ => .tuple #[]
  post := fun g w x w' => GlOut w w' g.A x (layS g.g g.i g.c)
def layH (l : List Ce) (w i : Nat) : List Ce := if (ceG l i).p = 1 then l.set (i - 1) (blkC (ceG l (i - 1)).st) else if (i + 1) % w ≠ 0 ∧ (ceG l (i + 1)).p = 1 then l.set (i + 1) (blkC (ceG l (i + 1)).st) else l
def layT (g : Gs) (i : Nat) : Gs := { g with cs := layH g.cs g.w i }
def annLayG (g : GLy) (w00 : World) : Ann where
  sp := []
  cuts := [(2, 5, { X := GlP × Nat, sh := fun _ x => [(5, .pointer (some ⟨x.2, 0, none⟩))], inv := fun _ _ x w => GlOut w00 w g.A x.1 (layT g.g g.i) ∧ w.heap[x.2]? = some (.cells #[.string g.c.t, .int .i8 g.c.p, .int .i64 g.c.a, .int .i64 g.c.n, .bool g.c.r, .int .u16 g.c.st] 46) })]
structure GHo where
  A : GlP
  g : Gs
  r : Int
  f : Bool
def sHoldG : CallSpec where
  G := GHo
  args := fun g => #[.pointer (some ⟨g.A.p, 11, none⟩), .int .i32 g.r, .bool g.f]
  pre := fun g w => GlIn w g.A g.g ∧ fitG g.g ∧ g.g.num ≠ []
  X := GlP
  res := fun _ => .tuple #[]
  post := fun g w x w' => GlOut w w' g.A x (holdG g.g g.r g.f)
structure GNmG where
  b : Nat
  a : Option Addr
  c : Nat
  l : List Int
  i : Nat
def sNumG : CallSpec where
  G := GNmG
  args := fun g => #[.int .i64 g.i, .pointer (some ⟨g.b, 0, none⟩)]
  pre := fun g w => w.heap[g.b]? = some (.cells #[.slice g.a g.l.length g.c] 62) ∧ CellsAt w g.a (g.l.map (Value.int .i64))
  X := Int
  res := fun x => .int .i64 x
  post := fun g w x w' => x = nmL g.l g.i ∧ w' = w
structure GWg where
  A : GlP
  g : Gs
def styS (g : Gs) (s : Nat) : Gs := { g with sty := s }
def sWearG : CallSpec where
  G := GGl
  args := fun g => #[.pointer (some ⟨g.A.p, 0, none⟩), .slice g.A.na g.g.num.length g.A.nc]
  pre := fun g w => GlIn w g.A g.g ∧ fitG g.g
  X := GlP
  res := fun _ => .tuple #[]
  post := fun g w x w' => GlOut w w' g.A x (styS g.g (wearL g.g.num g.g.sty))
structure WgX where
  k : Nat
  a : Option Addr
  c : Nat
  s : Nat
def wgI (g : GGl) (w00 : World) (x : WgX) (w : World) : Prop := x.k ≤ g.g.num.length ∧ GlOut w00 w g.A g.A (styS g.g x.s) ∧ x.s < 65536 ∧ CellsAt w x.a ((g.g.num.drop x.k).map (Value.int .i64)) ∧ blk x.a = blk g.A.na ∧ g.g.num.length - x.k ≤ x.c ∧ wearF (g.g.num.length - x.k) (g.g.num.drop x.k) x.s = wearL g.g.num g.g.sty
def slLen (v : Value) : Nat := match v with | .slice _ n _ => n | _ => 0
def wgJ (g : GGl) (w00 : World) (x : WgX) (w : World) : Prop := x.k < g.g.num.length ∧ GlOut w00 w g.A g.A (styS g.g x.s) ∧ x.s < 65536 ∧ CellsAt w x.a ((g.g.num.drop x.k).map (Value.int .i64)) ∧ blk x.a = blk g.A.na ∧ g.g.num.length - x.k ≤ x.c ∧ wearF (g.g.num.length - (x.k + 1)) (g.g.num.drop (x.k + 1)) x.s = wearL g.g.num g.g.sty
def annWearG (g : GGl) (w00 : World) : Ann where
  sp := []
  cuts := [(8, 8, { X := Nat, sh := fun _ x => [(4, .int .i64 x), (11, .int .i64 x), (27, .bool ((x : Int) == 3))], inv := fun e w0 x w => w = w0 ∧ gi e 4 = (x : Int) }), (2, 21, { X := WgX, sh := fun _ x => [(1, .slice x.a (g.g.num.length - x.k) x.c)], inv := fun e _ x w => wgJ g w00 x w ∧ g.g.num.length - x.k ≤ slLen (gv e 1) })]
  loops := [(0, {
    X := WgX
    sh := fun _ x => [(1, .slice x.a (g.g.num.length - x.k) x.c)]
    inv := fun _ _ x w => wgI g w00 x w
    mu := fun _ _ x _ => g.g.num.length - x.k })]
structure GDs where
  A : GlP
  g : Gs
  r : Int
def spDoesG : List (Nat × CallSpec) := [(49, sNumG), (40, sBackG), (50, sWearG)]
def sDoesG : CallSpec where
  G := GDs
  args := fun g => #[.pointer (some ⟨g.A.p, 0, none⟩), .int .i32 g.r]
  pre := fun g w => GlIn w g.A g.g ∧ fitG g.g
  X := GlP
  res := fun _ => .tuple #[]
  post := fun g w x w' => GlOut w w' g.A x (doesG g.g g.r)
end Go.Proofs.YtjdohhididpomaaDoor
end
