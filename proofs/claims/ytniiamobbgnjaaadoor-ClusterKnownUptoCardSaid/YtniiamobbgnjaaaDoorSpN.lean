/-
  Specifications, chapter 3: the program's step, the document's lists.
-/
import Derived.Test.YtniiamobbgnjaaaDoorSpP
import Derived.Test.YtniiamobbgnjaaaDoorSpB
set_option linter.unusedVariables false
set_option linter.unusedSimpArgs false
namespace Go.Proofs.YtniiamobbgnjaaaDoor
open Go Go.RowKit Vc Ut Tb Cl

def nextL (s : ByteArray) : Nat := bp s 1
def lastL (s : ByteArray) : Nat := s.size - bp s (ncl s - 1)
def spCNext : List (Nat × CallSpec) := [(34, sDec nxR nxN), (35, sRB aloneB), (36, sRuneX .i8 kindR), (37, sRB joinB), (38, sRB regB), (39, sRB picB), (40, sTwoB sylB)]
def annCNext (s : ByteArray) (_ : World) : Ann where
  sp := spCNext
  cuts := [(12, 11, { X := Nat, sh := fun _ _ => [], inv := fun e w0 n w => gi e 6 = (n : Int) ∧ goB s 0 n = true ∧ Ext w0 w })]
  jumps := [(1, {
    X := Nat
    sh := fun _ n => [(3, .int .i32 (sg s 0)), (4, .int .i32 (sg s (n - 1))), (6, .int .i64 n), (7, .int .i64 (pos s n))]
    inv := fun _ w0 n w => 1 ≤ n ∧ n ≤ cnt s ∧ n ≤ 32 ∧ 0 < s.size ∧ goN s 0 (33 - n) n = firstN s 0 ∧ Ext w0 w
    mu := fun _ _ n _ => 40 - n }), (0, {
    X := Unit
    sh := fun _ _ => [(3, .int .i32 (sg s 0)), (7, .int .i64 (pos s 1))]
    inv := fun _ w0 _ w => 0 < s.size ∧ (isBad s 0 = true ∨ aloneB (sg s 0) = true) ∧ Ext w0 w
    mu := fun _ _ _ _ => 0 })]

/-- A sign of the document's list. -/
def sgnV (s : ByteArray) (k : Nat) : List Value := [.int .i32 (sg s k), .int .i64 (pos s k), .bool (isBad s k)]
def sSigns : CallSpec where
  G := ByteArray
  args := fun s => #[.string s]
  pre := fun s w => U8 w ∧ s.size ≤ 67108864
  X := Option Addr × Nat × Nat
  res := fun x => .slice x.1 x.2.1 x.2.2
  post := fun s w x w' => x.2.1 = cnt s ∧ Made w w' 49 3 x.1 x.2.1 ((List.range (cnt s)).flatMap (sgnV s)) x.2.2
def spSigns : List (Nat × CallSpec) := [(44, sDec nxR nxN)]
def annSigns (s : ByteArray) (_ : World) : Ann where
  sp := spSigns
  loops := [(3, {
    X := Nat × Option Addr × Nat
    sh := fun _ x => [(4, .int .i64 (pos s x.1)), (3, .slice x.2.1 x.1 x.2.2)]
    inv := fun _ w0 x w => x.1 ≤ cnt s ∧ Made w0 w 49 3 x.2.1 x.1 ((List.range x.1).flatMap (sgnV s)) x.2.2
    mu := fun _ _ x _ => cnt s - x.1 })]

structure GFst where
  s : ByteArray
  k : Nat
  a : Option Addr
  c : Nat
def sFirst : CallSpec where
  G := GFst
  args := fun g => #[.slice g.a (cnt g.s - g.k) g.c]
  pre := fun g w => g.k < cnt g.s ∧ g.s.size ≤ 67108864 ∧ CellsAt w g.a (((List.range (cnt g.s)).drop g.k).flatMap (sgnV g.s))
  X := Nat
  res := fun x => .int .i64 x
  post := fun g w x w' => x = firstN g.s g.k ∧ Ext w w'
def spFirst : List (Nat × CallSpec) := [(45, sRB aloneB), (46, sTakes)]
def annFirst (g : GFst) (_ : World) : Ann where
  sp := spFirst
  cuts := [(3, 3, { X := Unit, sh := fun _ _ => [(24, .bool (crB g.s g.k))], inv := fun _ w0 _ w => Ext w0 w })]
  loops := [(8, {
    X := Nat
    sh := fun _ n => [(3, .int .i64 n)]
    inv := fun _ w0 n w => 1 ≤ n ∧ g.k + n ≤ cnt g.s ∧ n ≤ 32 ∧ goN g.s g.k (33 - n) n = firstN g.s g.k ∧ Ext w0 w
    mu := fun _ _ n _ => 40 - n })]

/-- A piece of the document's list. -/
def pcV (s : ByteArray) (i : Nat) : List Value := [.int .i64 (bp s i), .string (s.extract (bp s i) (bp s (i + 1)))]
def sRAllP : CallSpec where
  G := ByteArray
  args := fun s => #[.string s]
  pre := fun s w => U8 w ∧ s.size ≤ 67108864
  X := Option Addr × Nat × Nat
  res := fun x => .slice x.1 x.2.1 x.2.2
  post := fun s w x w' => x.2.1 = ncl s ∧ Made w w' 51 2 x.1 x.2.1 ((List.range (ncl s)).flatMap (pcV s)) x.2.2
structure GAl where
  i : Nat
  la : Option Addr
  lc : Nat
  oa : Option Addr
  oc : Nat
def spRAllP : List (Nat × CallSpec) := [(29, sSigns), (30, sFirst)]
def annRAllP (s : ByteArray) (_ : World) : Ann where
  sp := spRAllP
  loops := [(3, {
    X := GAl
    sh := fun _ x => [(3, .slice x.la (cnt s - bk s x.i) x.lc), (4, .slice x.oa x.i x.oc)]
    inv := fun _ w0 x w => x.i ≤ ncl s ∧ cnt s - bk s x.i ≤ x.lc ∧ CellsAt w0 x.la (((List.range (cnt s)).drop (bk s x.i)).flatMap (sgnV s)) ∧ Made w0 w 51 2 x.oa x.i ((List.range x.i).flatMap (pcV s)) x.oc
    mu := fun _ _ x _ => ncl s - x.i })]
def spRNextC : List (Nat × CallSpec) := [(29, sSigns), (30, sFirst)]
def spRLastC : List (Nat × CallSpec) := [(10, sRAllP)]

/-- A text's borders. -/
def bordI (s : ByteArray) : List Int := (List.range (ncl s + 1)).map fun i => (bp s i : Int)
def annRBord (s : ByteArray) (_ : World) : Ann where
  sp := spRLastC
  loops := [(4, {
    X := Nat × Option Addr × Nat
    sh := fun _ x => [(5, .int .i64 x.1), (4, .slice x.2.1 x.1 x.2.2)]
    inv := fun _ w0 x w => x.1 ≤ ncl s ∧ Made w0 w 3 1 x.2.1 x.1 (((bordI s).take x.1).map (Value.int .i64)) x.2.2
    mu := fun _ _ x _ => ncl s - x.1 })]
def isB (s : ByteArray) (p : Int) : Bool := (List.range (ncl s + 1)).any fun i => decide ((bp s i : Int) = p)
def sIsB : CallSpec where
  G := ByteArray × Int
  args := fun g => #[.string g.1, .int .i64 g.2]
  pre := fun g w => U8 w ∧ g.1.size ≤ 67108864
  X := Bool
  res := fun x => .bool x
  post := fun g w x w' => x = isB g.1 g.2 ∧ Ext w w'
def spRIs : List (Nat × CallSpec) := [(42, sSL .i64 3 bordI)]
def annRIs (g : ByteArray × Int) (_ : World) : Ann where
  sp := spRIs
  loops := [(3, {
    X := Nat
    sh := fun _ i => [(6, .int .i64 i)]
    inv := fun _ w0 i w => i ≤ ncl g.1 + 1 ∧ (∀ j, j < i → (bp g.1 j : Int) ≠ g.2) ∧ Ext w0 w
    mu := fun _ _ i _ => ncl g.1 + 1 - i })]
def sInto : CallSpec where
  G := Int × Int × Int
  args := fun g => #[.int .i64 g.1, .int .i64 g.2.1, .int .i64 g.2.2]
  pre := fun _ _ => True
  X := Int
  res := fun x => .int .i64 x
  post := fun g w x w' => x = (if g.1 < g.2.1 then g.2.1 else if g.1 > g.2.2 then g.2.2 else g.1) ∧ w' = w
def clampN (s : ByteArray) (p : Int) : Nat := if p < 0 then 0 else if p > s.size then s.size else p.toNat
/-- The cluster at a place: the first one that ends behind it. -/
def ixP (s : ByteArray) (p : Nat) : Nat := ((List.range (ncl s)).find? fun i => decide (p < bp s (i + 1))).getD (ncl s)
def atF (s : ByteArray) (p : Int) : Nat × Nat := (bp s (ixP s (clampN s p)), bp s (ixP s (clampN s p) + 1))
def sAt : CallSpec where
  G := ByteArray × Int
  args := fun g => #[.string g.1, .int .i64 g.2]
  pre := fun g w => U8 w ∧ g.1.size ≤ 67108864
  X := Nat × Nat
  res := fun x => .tuple #[.int .i64 x.1, .int .i64 x.2]
  post := fun g w x w' => x = atF g.1 g.2 ∧ Ext w w'
def spRAt : List (Nat × CallSpec) := [(41, sInto), (10, sRAllP)]
def annRAt (g : ByteArray × Int) (_ : World) : Ann where
  sp := spRAt
  loops := [(4, {
    X := Nat
    sh := fun _ i => [(8, .int .i64 i)]
    inv := fun _ w0 i w => i ≤ ncl g.1 ∧ (∀ j, j < i → bp g.1 (j + 1) ≤ clampN g.1 g.2) ∧ Ext w0 w
    mu := fun _ _ i _ => ncl g.1 - i })]

--#vc cnext_vc 14 (sSN nextL) annCNext spCNext
--#vc signs_vc 29 sSigns annSigns spSigns
--#vc first_vc 30 sFirst annFirst spFirst
--#vc rallP_vc 10 sRAllP annRAllP spRAllP
--#vc rnextC_vc 15 (sSN nextL) (annOf spRNextC) spRNextC
--#vc rlastC_vc 17 (sSN lastL) (annOf spRLastC) spRLastC
--#vc rbord_vc 42 (sSL .i64 3 bordI) annRBord spRLastC
--#vc ris_vc 23 sIsB annRIs spRIs
--#vc into_vc 41 sInto (annOf []) []
--#vc rat_vc 21 sAt annRAt spRAt

end Go.Proofs.YtniiamobbgnjaaaDoor
