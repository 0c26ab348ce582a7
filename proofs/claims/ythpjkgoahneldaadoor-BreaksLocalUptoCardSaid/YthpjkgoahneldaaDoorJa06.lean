/-
  Texts joined by program: SpN, SpR, Pc, SpI, Br, SpBa.
-/
import Derived.Test.YthpjkgoahneldaaDoorJa05
import Derived.Test.YthpjkgoahneldaaDoorJa03
import Derived.Test.YthpjkgoahneldaaDoorJa04
import Derived.Test.YthpjkgoahneldaaDoorProg
set_option linter.unusedVariables false
set_option linter.unusedSimpArgs false

section
/-
  Specifications, chapter 3: the program's step, the document's lists.
-/
namespace Go.Proofs.YthpjkgoahneldaaDoor
open Go Go.RowKit Vc Ut Tb Cl

def nextL (s : ByteArray) : Nat := bp s 1
def lastL (s : ByteArray) : Nat := s.size - bp s (ncl s - 1)
def spCNext : List (Nat × CallSpec) := [(63, sDec nxR nxN), (107, sRB aloneB), (75, sRuneX .i8 kindR), (108, sRB joinB), (109, sRB regB), (110, sRB picB), (111, sTwoB sylB)]
def annCNext (s : ByteArray) (_ : World) : Ann where
  sp := spCNext
  cuts := [(12, 11, { X := Nat, sh := fun _ _ => [], inv := fun e w0 n w => gi e 6 = (n : Int) ∧ goB s 0 n = true ∧ Ext w0 w })]
  jumps := [(1, {
    X := Nat
    sh := fun _ n => [(3, .int .i32 (sg s 0)), (4, .int .i32 (sg s (n - 1))), (6, .int .i64 n), (7, .int .i64 (pos s n))]
    inv := fun _ w0 n w => 1 ≤ n ∧ n ≤ cnt s ∧ n ≤ 32 ∧ 0 < s.size ∧ goN s 0 (33 - n) n = firstN s 0 ∧ Ext w0 w
    mu := fun _ _ n _ => 40 - n }), (0, {
    X := Unit
    sh := fun _ _ => [(3, .int .i32 (sg s 0)), (7, .int .i64 (pos s 1))]
    inv := fun _ w0 _ w => 0 < s.size ∧ (isBad s 0 = true ∨ aloneB (sg s 0) = true) ∧ Ext w0 w
    mu := fun _ _ _ _ => 0 })]

/-- A sign of the document's list. -/
def sgnV (s : ByteArray) (k : Nat) : List Value := [.int .i32 (sg s k), .int .i64 (pos s k), .bool (isBad s k)]
def sSigns : CallSpec where
  G := ByteArray
  args := fun s => #[.string s]
  pre := fun s w => U8 w ∧ s.size ≤ 67108864
  X := Option Addr × Nat × Nat
  res := fun x => .slice x.1 x.2.1 x.2.2
  post := fun s w x w' => x.2.1 = cnt s ∧ Made w w' 103 3 x.1 x.2.1 ((List.range (cnt s)).flatMap (sgnV s)) x.2.2
def spSigns : List (Nat × CallSpec) := [(86, sDec nxR nxN)]
def annSigns (s : ByteArray) (_ : World) : Ann where
  sp := spSigns
  loops := [(3, {
    X := Nat × Option Addr × Nat
    sh := fun _ x => [(4, .int .i64 (pos s x.1)), (3, .slice x.2.1 x.1 x.2.2)]
    inv := fun _ w0 x w => x.1 ≤ cnt s ∧ Made w0 w 103 3 x.2.1 x.1 ((List.range x.1).flatMap (sgnV s)) x.2.2
    mu := fun _ _ x _ => cnt s - x.1 })]

structure GFst where
  s : ByteArray
  k : Nat
  a : Option Addr
  c : Nat
def sFirst : CallSpec where
  G := GFst
  args := fun g => #[.slice g.a (cnt g.s - g.k) g.c]
  pre := fun g w => g.k < cnt g.s ∧ g.s.size ≤ 67108864 ∧ CellsAt w g.a (((List.range (cnt g.s)).drop g.k).flatMap (sgnV g.s))
  X := Nat
  res := fun x => .int .i64 x
  post := fun g w x w' => x = firstN g.s g.k ∧ Ext w w'
def spFirst : List (Nat × CallSpec) := [(124, sRB aloneB), (125, sTakes)]
def annFirst (g : GFst) (_ : World) : Ann where
  sp := spFirst
  cuts := [(3, 3, { X := Unit, sh := fun _ _ => [(24, .bool (crB g.s g.k))], inv := fun _ w0 _ w => Ext w0 w })]
  loops := [(8, {
    X := Nat
    sh := fun _ n => [(3, .int .i64 n)]
    inv := fun _ w0 n w => 1 ≤ n ∧ g.k + n ≤ cnt g.s ∧ n ≤ 32 ∧ goN g.s g.k (33 - n) n = firstN g.s g.k ∧ Ext w0 w
    mu := fun _ _ n _ => 40 - n })]

/-- A piece of the document's list. -/
def pcV (s : ByteArray) (i : Nat) : List Value := [.int .i64 (bp s i), .string (s.extract (bp s i) (bp s (i + 1)))]
def sRAllP : CallSpec where
  G := ByteArray
  args := fun s => #[.string s]
  pre := fun s w => U8 w ∧ s.size ≤ 67108864
  X := Option Addr × Nat × Nat
  res := fun x => .slice x.1 x.2.1 x.2.2
  post := fun s w x w' => x.2.1 = ncl s ∧ Made w w' 44 2 x.1 x.2.1 ((List.range (ncl s)).flatMap (pcV s)) x.2.2
structure GAl where
  i : Nat
  la : Option Addr
  lc : Nat
  oa : Option Addr
  oc : Nat
def spRAllP : List (Nat × CallSpec) := [(80, sSigns), (85, sFirst)]
def annRAllP (s : ByteArray) (_ : World) : Ann where
  sp := spRAllP
  loops := [(3, {
    X := GAl
    sh := fun _ x => [(3, .slice x.la (cnt s - bk s x.i) x.lc), (4, .slice x.oa x.i x.oc)]
    inv := fun _ w0 x w => x.i ≤ ncl s ∧ cnt s - bk s x.i ≤ x.lc ∧ CellsAt w0 x.la (((List.range (cnt s)).drop (bk s x.i)).flatMap (sgnV s)) ∧ Made w0 w 44 2 x.oa x.i ((List.range x.i).flatMap (pcV s)) x.oc
    mu := fun _ _ x _ => ncl s - x.i })]
def spRNextC : List (Nat × CallSpec) := [(80, sSigns), (85, sFirst)]
def spRLastC : List (Nat × CallSpec) := [(56, sRAllP)]

/-- A text's borders. -/
def bordI (s : ByteArray) : List Int := (List.range (ncl s + 1)).map fun i => (bp s i : Int)
def annRBord (s : ByteArray) (_ : World) : Ann where
  sp := spRLastC
  loops := [(4, {
    X := Nat × Option Addr × Nat
    sh := fun _ x => [(5, .int .i64 x.1), (4, .slice x.2.1 x.1 x.2.2)]
    inv := fun _ w0 x w => x.1 ≤ ncl s ∧ Made w0 w 3 1 x.2.1 x.1 (((bordI s).take x.1).map (Value.int .i64)) x.2.2
    mu := fun _ _ x _ => ncl s - x.1 })]
def isB (s : ByteArray) (p : Int) : Bool := (List.range (ncl s + 1)).any fun i => decide ((bp s i : Int) = p)
def sIsB : CallSpec where
  G := ByteArray × Int
  args := fun g => #[.string g.1, .int .i64 g.2]
  pre := fun g w => U8 w ∧ g.1.size ≤ 67108864
  X := Bool
  res := fun x => .bool x
  post := fun g w x w' => x = isB g.1 g.2 ∧ Ext w w'
def sInto : CallSpec where
  G := Int × Int × Int
  args := fun g => #[.int .i64 g.1, .int .i64 g.2.1, .int .i64 g.2.2]
  pre := fun _ _ => True
  X := Int
  res := fun x => .int .i64 x
  post := fun g w x w' => x = (if g.1 < g.2.1 then g.2.1 else if g.1 > g.2.2 then g.2.2 else g.1) ∧ w' = w
def clampN (s : ByteArray) (p : Int) : Nat := if p < 0 then 0 else if p > s.size then s.size else p.toNat
/-- The cluster at a place: the first one that ends behind it. -/
def ixP (s : ByteArray) (p : Nat) : Nat := ((List.range (ncl s)).find? fun i => decide (p < bp s (i + 1))).getD (ncl s)
def atF (s : ByteArray) (p : Int) : Nat × Nat := (bp s (ixP s (clampN s p)), bp s (ixP s (clampN s p) + 1))
def sAt : CallSpec where
  G := ByteArray × Int
  args := fun g => #[.string g.1, .int .i64 g.2]
  pre := fun g w => U8 w ∧ g.1.size ≤ 67108864
  X := Nat × Nat
  res := fun x => .tuple #[.int .i64 x.1, .int .i64 x.2]
  post := fun g w x w' => x = atF g.1 g.2 ∧ Ext w w'
def spRAt : List (Nat × CallSpec) := [(70, sInto), (56, sRAllP)]
def annRAt (g : ByteArray × Int) (_ : World) : Ann where
  sp := spRAt
  loops := [(4, {
    X := Nat
    sh := fun _ i => [(8, .int .i64 i)]
    inv := fun _ w0 i w => i ≤ ncl g.1 ∧ (∀ j, j < i → bp g.1 (j + 1) ≤ clampN g.1 g.2) ∧ Ext w0 w
    mu := fun _ _ i _ => ncl g.1 - i })]

--#vc cnext_vc 76 (sSN nextL) annCNext spCNext
--#vc signs_vc 80 sSigns annSigns spSigns
--#vc first_vc 85 sFirst annFirst spFirst
--#vc rallP_vc 56 sRAllP annRAllP spRAllP
--#vc rnextC_vc 78 (sSN nextL) (annOf spRNextC) spRNextC
--#vc into_vc 70 sInto (annOf []) []

end Go.Proofs.YthpjkgoahneldaaDoor
end

section
/-
  Words for specifications: variables that hold lists of one's own.
-/
namespace Go.Proofs.YthpjkgoahneldaaDoor
open Go Go.RowKit Vc

/-- A variable that holds a list of one's own. -/
structure Grow (W : World) (box : Nat) (t e : TypeId) (a : Option Addr) (c : Nat) (vs : List Value) : Prop where
  hb : W.heap[box]? = some (.cells #[.slice a vs.length c] t)
  row : Row W e 1 a vs.length vs c

end Go.Proofs.YthpjkgoahneldaaDoor
end

section
/-
  A text's pieces.
-/
namespace Go.Proofs.YthpjkgoahneldaaDoor
open Go Vc Ut Tb Cl

def pcP (s : ByteArray) (i : Nat) : Nat × ByteArray := (bp s i, s.extract (bp s i) (bp s (i + 1)))
def pcL (s : ByteArray) : List (Nat × ByteArray) := (List.range (ncl s)).map (pcP s)

end Go.Proofs.YthpjkgoahneldaaDoor
end

section
/-
  Specifications, chapter 3: the program's iterators, and what is told by them.
-/
namespace Go.Proofs.YthpjkgoahneldaaDoor
open Go Go.RowKit Vc Ut Tb Cl

def encPc (p : Nat × ByteArray) : List Value := [.int .i64 (p.1 : Int), .string p.2]
def itV (f b : Nat) : Value := .func (.func f) #[] #[.pointer (some ⟨b, 0, none⟩)]
def ones (l : List Nat) : Nat → Prop := fun q => q ∈ l
def ptrB (v : Value) : Nat := match v with | .pointer (some ⟨b, _, _⟩) => b | _ => 0

def itPc : IterSpec where
  G := ByteArray × Nat
  cap := fun g => [.pointer (some ⟨g.2, 0, none⟩)]
  xs := fun g => (pcL g.1).map encPc
  C := fun g q => q = g.2 ∨ q = 0 ∨ q = 1
  pre := fun g w => w.heap[g.2]? = some (.cells #[.string g.1] 9) ∧ U8 w ∧ g.1.size ≤ 67108864
def spItPc : List (Nat × CallSpec) := [(76, sSN nextL)]
def annItPc (g : ByteArray × Nat) (i : ItG) (W : World) : Ann where
  sp := spItPc
  yl := some (ylOf (itPc.xs g) i W)
  loops := [(1, {
    X := Nat × (Nat → Prop)
    sh := fun _ x => [(3, .int .i64 (bp g.1 x.1))]
    inv := fun _ _ x w => x.1 ≤ ncl g.1 ∧ i.J x.1 x.2 w ∧ Mid W i.D0 x.2 w
    mu := fun _ _ x _ => ncl g.1 - x.1 })]

structure GBk where
  s : ByteArray
  bl : Nat
  bs : Nat
  a : Option Addr
  c : Nat
def pcR (s : ByteArray) : List (Nat × ByteArray) := (List.range (ncl s)).map fun k => pcP s (ncl s - 1 - k)
/-- What a way back holds: its borders, its text. -/
def BkAt (g : GBk) (w : World) : Prop := w.heap[g.bl]? = some (.cells #[.slice g.a (ncl g.s + 1) g.c] 45) ∧ Row w 3 1 g.a (ncl g.s + 1) ((bordI g.s).map (Value.int .i64)) g.c ∧ w.heap[g.bs]? = some (.cells #[.string g.s] 9)
def itBk : IterSpec where
  G := GBk
  cap := fun g => [.pointer (some ⟨g.bl, 0, none⟩), .pointer (some ⟨g.bs, 0, none⟩)]
  xs := fun g => (pcR g.s).map encPc
  C := fun g q => q = g.bl ∨ q = g.bs ∨ blk g.a = some q
  pre := fun g w => BkAt g w ∧ g.s.size ≤ 67108864
def annItBk (g : GBk) (i : ItG) (W : World) : Ann where
  sp := []
  yl := some (ylOf (itBk.xs g) i W)
  loops := [(1, {
    X := Nat × (Nat → Prop)
    sh := fun _ x => [(4, .int .i64 ((ncl g.s : Int) - x.1))]
    inv := fun _ _ x w => x.1 ≤ ncl g.s ∧ i.J x.1 x.2 w ∧ Mid W i.D0 x.2 w
    mu := fun _ _ x _ => ncl g.s - x.1 })]

/-- A text's iterator. -/
def sIter (f : Nat) : CallSpec where
  G := ByteArray
  args := fun s => #[.string s]
  pre := fun s w => True
  X := Nat
  res := fun b => itV f b
  post := fun s w b w' => w.heap.size ≤ b ∧ w'.heap[b]? = some (.cells #[.string s] 9) ∧ Ext w w'
def spAllC : List (Nat × CallSpec) := [(65, sIter 101)]
def endsI (s : ByteArray) : List Int := (List.range (ncl s)).map fun i => (bp s (i + 1) : Int)
def annEnds (s : ByteArray) (w00 : World) : Ann where
  sp := spAllC
  ranges := [(3, {
    α := Nat × ByteArray
    enc := encPc
    J := fun e w0 xs k D W => ∃ a c, D = (fun q => q = ptrB (gv e 3) ∨ blk a = some q) ∧ Grow W (ptrB (gv e 3)) 45 3 a c (((endsI s).take k).map (Value.int .i64))
    Jx := fun e w0 _ _ D W => (1 : Nat) = 0 })]
def annLastC (s : ByteArray) (w00 : World) : Ann where
  sp := spAllC
  ranges := [(3, {
    α := Nat × ByteArray
    enc := encPc
    J := fun e w0 xs k D W => D = ones [ptrB (gv e 3)] ∧ W.heap[ptrB (gv e 3)]? = some (.cells #[.int .i64 (if k = 0 then 0 else ((bp s k : Int) - bp s (k - 1)))] 3)
    Jx := fun e w0 _ _ D W => (1 : Nat) = 0 })]
def annIsC (g : ByteArray × Int) (w00 : World) : Ann where
  sp := spAllC
  ranges := [(2, {
    α := Nat × ByteArray
    enc := encPc
    exs := [.ret]
    J := fun e w0 xs k D W => D = ones [ptrB (gv e 4)] ∧ (∀ j, j < k → (bp g.1 j : Int) < g.2) ∧ (∃ v, W.heap[ptrB (gv e 4)]? = some (.cells #[.bool v] 4))
    Jx := fun e w0 _ _ D W => D = ones [ptrB (gv e 4)] ∧ W.heap[ptrB (gv e 4)]? = some (.cells #[.bool (isB g.1 g.2)] 4) })]
def annAtC (g : ByteArray × Int) (w00 : World) : Ann where
  sp := spAllC
  ranges := [(3, {
    α := Nat × ByteArray
    enc := encPc
    exs := [.ret]
    J := fun e w0 xs k D W => D = ones [ptrB (gv e 4), ptrB (gv e 5)] ∧ (∀ j, j < k → bp g.1 (j + 1) ≤ clampN g.1 g.2) ∧ (∃ v u, W.heap[ptrB (gv e 4)]? = some (.cells #[.int .i64 v] 3) ∧ W.heap[ptrB (gv e 5)]? = some (.cells #[.int .i64 u] 3))
    Jx := fun e w0 _ _ D W => D = ones [ptrB (gv e 4), ptrB (gv e 5)] ∧ W.heap[ptrB (gv e 4)]? = some (.cells #[.int .i64 (atF g.1 g.2).1] 3) ∧ W.heap[ptrB (gv e 5)]? = some (.cells #[.int .i64 (atF g.1 g.2).2] 3) })]

/-- A variable that holds a list of one's own, of elements of s cells. -/
structure GrowS (W : World) (box : Nat) (t e : TypeId) (s n : Nat) (a : Option Addr) (c : Nat) (vs : List Value) : Prop where
  hb : W.heap[box]? = some (.cells #[.slice a n c] t)
  row : Row W e s a n vs c

/-- An iterator that is handed in. -/
structure GIt where
  f : Nat
  caps : Array Value
  xs : List (Nat × ByteArray)
  C : Nat → Prop
def GIt.v (g : GIt) : Value := .func (.func g.f) #[] g.caps
def GIt.ok (g : GIt) (w : World) : Prop := IterAt Tryd.prog (.func (.func g.f) #[] g.caps) (g.xs.map encPc) g.C w ∧ (∀ q, g.C q → q < w.heap.size) ∧ g.xs.length ≤ 67108864
def upP (k : Nat) (p : Nat × ByteArray) : Nat × ByteArray := (p.1 + k, p.2)

--#vci itPc_vc 101 itPc annItPc spItPc
--#vc cpieces_vc 65 (sIter 101) (annOf []) []
--#vc call_vc 55 (sIter 101) (annOf spAllC) spAllC
--#vc cis_vc 28 sIsB annIsC spAllC

end Go.Proofs.YthpjkgoahneldaaDoor
end

section
/-
  Breaks in plain words: a cluster's class, what the rules say, a text's lines.
-/
namespace Go.Proofs.YthpjkgoahneldaaDoor
open Go Vc Ut Tb Cl Orb

/-- A cluster's class. -/
def kindC (c : ByteArray) : Int := if brkR (nxR c) = 8 ∨ (nxR c = 65533 ∧ nxN c = 1) then 0 else brkR (nxR c)

def ruleF : Nat → Int → Int → Int → Bool
  | 0, a, _, _ => a == 2
  | 1, _, b, _ => b == 2 || (b == 1 || b == 9)
  | 2, _, _, s => s == 9
  | 3, a, b, _ => a == 12 || (b == 12 || a == 5)
  | 4, a, b, _ => b == 5 && (!(a == 1) && a != 6)
  | 5, _, b, s => b == 4 || s == 3
  | 6, a, b, _ => b == 11 && !(a == 1)
  | 7, a, _, _ => a == 1
  | 8, _, b, _ => b == 6
  | 9, a, b, _ => a == 6 && b == 10
  | 10, a, _, _ => a == 6
  | _, a, b, _ => a == 7 || b == 7
def ruleV : Nat → Int
  | 0 => 2
  | 2 => 1
  | 7 => 1
  | 10 => 1
  | 11 => 1
  | _ => 0
/-- What the rules from the k-th one on say. -/
def saysFrom (a b s : Int) : Nat → Nat → Int
  | 0, _ => 0
  | f + 1, k => if ruleF k a b s = true then ruleV k else saysFrom a b s f (k + 1)
def saysN (a b s : Int) : Int := saysFrom a b s 12 0

theorem says_from {a b s : Int} : ∀ (k f : Nat), k + f = 12 → (∀ j, j < k → ruleF j a b s = false) → saysN a b s = saysFrom a b s f k
  | 0, f, h, _ => by rw [show f = 12 from by omega]; rfl
  | k + 1, f, h, hj => by
    rw [says_from k (f + 1) (by omega) (fun j hl => hj j (by omega))]
    show (if ruleF k a b s = true then _ else _) = _
    rw [if_neg (by rw [hj k (by omega)]; decide)]
theorem says_hit {a b s : Int} {k : Nat} (hk : k < 12) (hj : ∀ j, j < k → ruleF j a b s = false) (h : ruleF k a b s = true) : saysN a b s = ruleV k := by
  rw [says_from k (12 - k) (by omega) hj, show 12 - k = (11 - k) + 1 from by omega]
  show (if ruleF k a b s = true then _ else _) = _
  rw [if_pos h]
theorem says_none {a b s : Int} (hj : ∀ j, j < 12 → ruleF j a b s = false) : saysN a b s = 0 := by
  rw [says_from 12 0 rfl hj]; rfl
theorem ruleV_bd (k : Nat) : 0 ≤ ruleV k ∧ ruleV k ≤ 2 := by unfold ruleV; split <;> omega
theorem saysFrom_bd (a b s : Int) : ∀ f k, 0 ≤ saysFrom a b s f k ∧ saysFrom a b s f k ≤ 2
  | 0, _ => by simp [saysFrom]
  | f + 1, k => by
    simp only [saysFrom]
    split
    · exact ruleV_bd k
    · exact saysFrom_bd a b s f (k + 1)
theorem saysN_bd (a b s : Int) : 0 ≤ saysN a b s ∧ saysN a b s ≤ 2 := saysFrom_bd a b s 12 0
theorem saysFrom_must {a b s : Int} : ∀ f k, 1 ≤ k → saysFrom a b s f k ≠ 2
  | 0, _, _ => by simp [saysFrom]
  | f + 1, k, hk => by
    simp only [saysFrom]
    split
    · unfold ruleV
      split <;> first | omega | decide
    · exact saysFrom_must f (k + 1) (by omega)
theorem says_must {a b s : Int} : saysN a b s = 2 ↔ a = 2 := by
  constructor
  · intro h
    have h1 : saysN a b s = if ruleF 0 a b s = true then ruleV 0 else saysFrom a b s 11 1 := rfl
    rw [h1] at h
    split at h
    · rename_i hr; simpa [ruleF] using hr
    · exact absurd h (saysFrom_must 11 1 (by omega))
  · rintro rfl
    exact says_hit (k := 0) (by decide) (fun j hj => by omega) rfl

/-- Cluster i's class; the class of the solid one ahead of i. -/
def kc (s : ByteArray) (i : Nat) : Int := kindC (pcP s i).2
def sol (s : ByteArray) : Nat → Int
  | 0 => -1
  | i + 1 => if kc s i = 1 then sol s i else kc s i
def whereI (s : ByteArray) (i : Nat) : Int := if i + 1 < ncl s then saysN (kc s i) (kc s (i + 1)) (sol s (i + 1)) else if kc s i = 2 then 2 else 0
def whereL (s : ByteArray) : List Int := (List.range (ncl s)).map (whereI s)
theorem where_len (s : ByteArray) : (whereL s).length = ncl s := by simp [whereL]
theorem where_at {s : ByteArray} {i : Nat} (h : i < ncl s) : (whereL s)[i]? = some (whereI s i) := by
  unfold whereL; rw [List.getElem?_map, List.getElem?_range h]; rfl
theorem whereI_bd (s : ByteArray) (i : Nat) : 0 ≤ whereI s i ∧ whereI s i ≤ 2 := by
  unfold whereI
  split
  · exact saysN_bd _ _ _
  · split <;> decide
theorem whereI_must {s : ByteArray} {i : Nat} : whereI s i = 2 ↔ kc s i = 2 := by
  unfold whereI
  split
  · exact says_must
  · split <;> simp_all

end Go.Proofs.YthpjkgoahneldaaDoor
end

section
/-
  Specifications, chapter 13: a cluster's class, the rules, what may be done behind each cluster.
-/
namespace Go.Proofs.YthpjkgoahneldaaDoor
open Go Go.RowKit Vc Ut Tb Cl

/-- A text's class. -/
def sKindC : CallSpec where
  G := ByteArray
  args := fun s => #[.string s]
  pre := fun s w => U8 w ∧ s.size ≤ 67108864
  X := Int
  res := fun x => .int .i8 x
  post := fun s w x w' => x = kindC s ∧ Ext w w'
def spKindP : List (Nat × CallSpec) := [(63, sDec nxR nxN), (64, sRuneX .i8 brkR)]
def spKindR : List (Nat × CallSpec) := [(86, sDec nxR nxN), (87, sRune .i8 brkR)]
def sSays : CallSpec where
  G := Int × Int × Int
  args := fun g => #[.int .i8 g.1, .int .i8 g.2.1, .int .i8 g.2.2]
  pre := fun _ _ => True
  X := Int
  res := fun x => .int .i8 x
  post := fun g w x w' => x = saysN g.1 g.2.1 g.2.2 ∧ w' = w
def spRWhere : List (Nat × CallSpec) := [(56, sRAllP), (57, sKindC), (58, sSays)]
def annRWhere (s : ByteArray) (_ : World) : Ann where
  sp := spRWhere
  cuts := [(8, 9, { X := Nat, sh := fun _ i => [(5, .int .i8 (sol s (i + 1)))], inv := fun e w0 i w => gi e 6 = (i : Int) ∧ Ext w0 w })]
  loops := [(5, {
    X := Nat × Option Addr × Nat
    sh := fun _ x => [(6, .int .i64 x.1), (5, .int .i8 (sol s x.1)), (4, .slice x.2.1 x.1 x.2.2)]
    inv := fun _ w0 x w => x.1 ≤ ncl s ∧ Made w0 w 25 1 x.2.1 x.1 (((whereL s).take x.1).map (Value.int .i8)) x.2.2
    mu := fun _ _ x _ => ncl s - x.1 })]

/-- A rule's test. -/
def sRule (k : Nat) : CallSpec where
  G := Int × Int × Int
  args := fun g => #[.agg #[.int .i8 g.1, .int .i8 g.2.1, .int .i8 g.2.2]]
  pre := fun _ _ => True
  X := Bool
  res := fun x => .bool x
  post := fun g w x w' => x = ruleF k g.1 g.2.1 g.2.2 ∧ Ext w w'
def spSpaced : List (Nat × CallSpec) := [(61, sRule 7)]
/-- The rules' functions. -/
def ruleFn : Nat → Nat
  | 0 => 88
  | 1 => 89
  | 2 => 90
  | 3 => 91
  | 4 => 92
  | 5 => 93
  | 6 => 94
  | 7 => 61
  | 8 => 95
  | 9 => 96
  | 10 => 97
  | _ => 98
def ruleC (k : Nat) : List Value := [.func (.func (ruleFn k)) #[] #[], .int .i8 (ruleV k)]
def rulesC : List Value := (List.range 12).flatMap ruleC
def sRules : CallSpec where
  G := Unit
  args := fun _ => #[]
  pre := fun _ _ => True
  X := Nat
  res := fun b => .slice (some ⟨b, 0, none⟩) 12 12
  post := fun _ w b w' => w.heap.size ≤ b ∧ w'.heap[b]? = some (.cells rulesC.toArray 74) ∧ Ext w w'

/-- What is said so far, k clusters seen. -/
def sw (s : ByteArray) (k : Nat) : List Int := (List.range (k - 1)).map fun i => saysN (kc s i) (kc s (i + 1)) (sol s (i + 1))
def pairV (a b s : Int) : Array Value := #[.int .i8 a, .int .i8 b, .int .i8 s]
def prevK (s : ByteArray) (k : Nat) : Int := if k = 0 then 0 else kc s (k - 1)
/-- The variables: all rules, what is said, the pair, first. -/
structure WhV (W : World) (br bo bp bf rb : Nat) (s : ByteArray) (k : Nat) (a : Option Addr) (c : Nat) : Prop where
  out : Grow W bo 22 25 a c ((sw s k).map (Value.int .i8))
  pair : W.heap[bp]? = some (.cells (pairV (prevK s k) (prevK s k) (sol s k)) 71)
  first : W.heap[bf]? = some (.cells #[.bool (decide (k = 0))] 4)
def spWhere : List (Nat × CallSpec) := [dynMark, (59, sRules), (55, sIter 101), (60, sKindC), (61, sRule 7)]
def annWhere (s : ByteArray) (_ : World) : Ann where
  sp := spWhere
  ranges := [(6, {
    α := Nat × ByteArray
    enc := encPc
    J := fun e w0 xs k D W => ∃ a c, D = (fun q => q = ptrB (gv e 4) ∨ q = ptrB (gv e 5) ∨ q = ptrB (gv e 6) ∨ blk a = some q) ∧ WhV W (ptrB (gv e 3)) (ptrB (gv e 4)) (ptrB (gv e 5)) (ptrB (gv e 6)) 0 s k a c
    Jx := fun e w0 _ _ D W => (1 : Nat) = 0 })]
  loops := [(11, {
    X := Nat
    sh := fun _ i => [(27, .int .i64 i)]
    inv := fun e w0 i w => i ≤ 12 ∧ Ext w0 w ∧ ∃ a b c, w0.heap[ptrB (gv e 5)]? = some (.cells (pairV a b c) 71) ∧ ∀ j, j < i → ruleF j a b c = false
    mu := fun _ _ i _ => 12 - i })]

--#vc kindP_vc 60 sKindC (annOf spKindP) spKindP
--#vc kindR_vc 57 sKindC (annOf spKindR) spKindR
--#vc kindL_vc 27 sKindC (annOf spKindP) spKindP
--#vc says_vc 58 sSays (annOf []) []
--#vc rwhere_vc 19 (sSL .i8 25 whereL) annRWhere spRWhere
--#vc rule0_vc 88 (sRule 0) (annOf spSpaced) spSpaced
--#vc rule1_vc 89 (sRule 1) (annOf spSpaced) spSpaced
--#vc rule2_vc 90 (sRule 2) (annOf spSpaced) spSpaced
--#vc rule3_vc 91 (sRule 3) (annOf spSpaced) spSpaced
--#vc rule4_vc 92 (sRule 4) (annOf spSpaced) spSpaced
--#vc rule5_vc 93 (sRule 5) (annOf spSpaced) spSpaced
--#vc rule6_vc 94 (sRule 6) (annOf spSpaced) spSpaced
--#vc rule8_vc 95 (sRule 8) (annOf spSpaced) spSpaced
--#vc rule9_vc 96 (sRule 9) (annOf spSpaced) spSpaced
--#vc rule10_vc 97 (sRule 10) (annOf spSpaced) spSpaced
--#vc rule11_vc 98 (sRule 11) (annOf spSpaced) spSpaced
--#vc rule7_vc 61 (sRule 7) (annOf []) []
--#vc rules_vc 59 sRules (annOf []) []
--#vc where_vc 20 (sSL .i8 25 whereL) annWhere spWhere

end Go.Proofs.YthpjkgoahneldaaDoor
end
