/-
  Specifications, chapter 1: whole texts: the document's lists, the program's.
-/
import Derived.Test.YthkcphnkllnfcaaDoorSpA
import Derived.Test.YthkcphnkllnfcaaDoorUp
set_option linter.unusedVariables false
set_option linter.unusedSimpArgs false
namespace Go.Proofs.YthkcphnkllnfcaaDoor
open Go Go.RowKit Vc Ut

def oneV (s : ByteArray) (n : Nat) : List Value := [.int .i64 (pos s n), .int .i32 (dcR s (pos s n)), .int .i64 (dcN s (pos s n)), .bool (isBad s n)]

/-- A text's list of what it is gone through. -/
def sOnes (f : ByteArray → List Nat) : CallSpec where
  G := ByteArray
  args := fun s => #[.string s]
  pre := fun s w => U8 w ∧ s.size ≤ 67108864
  X := Option Addr × Nat × Nat
  res := fun x => .slice x.1 x.2.1 x.2.2
  post := fun s w x w' => x.2.1 = (f s).length ∧ Made w w' 39 4 x.1 x.2.1 ((f s).flatMap (oneV s)) x.2.2
def annAll (s : ByteArray) (w00 : World) : Ann where
  sp := [(16, sDec nxR nxN)]
  loops := [(3, {
    X := Nat × Option Addr × Nat
    sh := fun _ x => [(4, .int .i64 (pos s x.1)), (3, .slice x.2.1 x.1 x.2.2)]
    inv := fun _ w0 x w => x.1 ≤ cnt s ∧ Made w0 w 39 4 x.2.1 x.1 ((List.range x.1).flatMap (oneV s)) x.2.2
    mu := fun _ _ x _ => cnt s - x.1 })]
def spAll : List (Nat × CallSpec) := [(16, sDec nxR nxN)]
def allN (s : ByteArray) : List Nat := List.range (cnt s)
def backN (s : ByteArray) : List Nat := (List.range (cnt s)).map fun k => cnt s - 1 - k
def spR : List (Nat × CallSpec) := [(27, sOnes allN)]
def annRBack (s : ByteArray) (w00 : World) : Ann where
  sp := spR
  loops := [(4, {
    X := Nat × Option Addr × Nat
    sh := fun _ x => [(5, .int .i64 ((cnt s : Int) - 1 - x.1)), (4, .slice x.2.1 x.1 x.2.2)]
    inv := fun _ w0 x w => x.1 ≤ cnt s ∧ Made w0 w 39 4 x.2.1 x.1 (((backN s).take x.1).flatMap (oneV s)) x.2.2
    mu := fun _ _ x _ => cnt s - x.1 })]

/-- A text's list of numbers. -/
def sSL (k : IntKind) (e : TypeId) (f : ByteArray → List Int) : CallSpec where
  G := ByteArray
  args := fun s => #[.string s]
  pre := fun s w => U8 w ∧ s.size ≤ 67108864
  X := Option Addr × Nat × Nat
  res := fun x => .slice x.1 x.2.1 x.2.2
  post := fun s w x w' => x.2.1 = (f s).length ∧ Made w w' e 1 x.1 x.2.1 ((f s).map (Value.int k)) x.2.2
def annRRunes (s : ByteArray) (w00 : World) : Ann where
  sp := spR
  loops := [(4, {
    X := Nat × Option Addr × Nat
    sh := fun _ x => [(5, .int .i64 x.1), (4, .slice x.2.1 x.1 x.2.2)]
    inv := fun _ w0 x w => x.1 ≤ cnt s ∧ Made w0 w 21 1 x.2.1 x.1 (((runes s).take x.1).map (Value.int .i32)) x.2.2
    mu := fun _ _ x _ => cnt s - x.1 })]
def badT (s : ByteArray) (n : Nat) : List Int := ((List.range n).filter (isBad s)).map fun n => (pos s n : Int)
def annRBad (s : ByteArray) (w00 : World) : Ann where
  sp := spR
  loops := [(4, {
    X := Nat × Option Addr × Nat
    sh := fun _ x => [(5, .int .i64 x.1), (4, .slice x.2.1 (badT s x.1).length x.2.2)]
    inv := fun _ w0 x w => x.1 ≤ cnt s ∧ Made w0 w 3 1 x.2.1 (badT s x.1).length ((badT s x.1).map (Value.int .i64)) x.2.2
    mu := fun _ _ x _ => cnt s - x.1 })]
def spBad : List (Nat × CallSpec) := [(48, sDec nxR nxN)]
def annBad (s : ByteArray) (w00 : World) : Ann where
  sp := spBad
  loops := [(3, {
    X := Nat × Option Addr × Nat
    sh := fun _ x => [(3, .slice x.2.1 (badT s x.1).length x.2.2)]
    inv := fun e w0 x w => x.1 ≤ cnt s ∧ Made w00 w 3 1 x.2.1 (badT s x.1).length ((badT s x.1).map (Value.int .i64)) x.2.2 ∧ ∃ b, gv e 9 = .pointer (some ⟨b, 0, none⟩) ∧ w00.heap.size ≤ b ∧ w.heap[b]? = some (.stringIter s (pos s x.1))
    mu := fun _ _ x _ => cnt s - x.1 })]
/-- A text's number. -/
def sSN (f : ByteArray → Nat) : CallSpec where
  G := ByteArray
  args := fun s => #[.string s]
  pre := fun s w => U8 w ∧ s.size ≤ 67108864
  X := Nat
  res := fun x => .int .i64 x
  post := fun s w x w' => x = f s ∧ Ext w w'
/-- A text out of a text. -/
def sSS (f : ByteArray → ByteArray) : CallSpec where
  G := ByteArray
  args := fun s => #[.string s]
  pre := fun s w => U8 w ∧ s.size ≤ 67108864
  X := ByteArray
  res := fun x => .string x
  post := fun s w x w' => x = f s ∧ Ext w w'
/-- A text out of numbers. -/
def sLS (f : List Int → ByteArray) : CallSpec where
  G := GSl
  args := fun g => #[.slice g.ad g.xs.length g.c]
  pre := fun g w => g.at .i32 w ∧ g.xs.length ≤ 67108864
  X := ByteArray
  res := fun x => .string x
  post := fun g w x w' => x = f g.xs ∧ Ext w w'

structure GPut where
  W : World
  ad : Option Addr
  c : Nat
  vs : List Int
  r : Int
def sPut : CallSpec where
  G := GPut
  args := fun g => #[.slice g.ad g.vs.length g.c, .int .i32 g.r]
  pre := fun g w => Made g.W w 5 1 g.ad g.vs.length (g.vs.map (Value.int .u8)) g.c ∧ g.vs.length ≤ 1073741824
  X := Option Addr × Nat × Nat
  res := fun x => .slice x.1 x.2.1 x.2.2
  post := fun g w x w' => x.2.1 = (g.vs ++ encL g.r).length ∧ Made g.W w' 5 1 x.1 x.2.1 ((g.vs ++ encL g.r).map (Value.int .u8)) x.2.2
def annPut (g : GPut) (w00 : World) : Ann where
  sp := []
  cuts := [(1, 2, { X := Unit, sh := fun _ _ => [(1, .int .i32 (encC g.r : Int))], inv := fun _ w0 _ w => w = w0 })]
def spRText : List (Nat × CallSpec) := [(52, sPut)]
def annRText (g : GSl) (w00 : World) : Ann where
  sp := spRText
  loops := [(3, {
    X := Nat × Option Addr × Nat
    sh := fun _ x => [(4, .int .i64 x.1), (3, .slice x.2.1 ((g.xs.take x.1).flatMap encL).length x.2.2)]
    inv := fun _ w0 x w => x.1 ≤ g.xs.length ∧ Made w0 w 5 1 x.2.1 ((g.xs.take x.1).flatMap encL).length (((g.xs.take x.1).flatMap encL).map (Value.int .u8)) x.2.2
    mu := fun _ _ x _ => g.xs.length - x.1 })]
def spRClean : List (Nat × CallSpec) := [(34, sSL .i32 21 runes), (23, sLS runesBytes)]
def spRValid : List (Nat × CallSpec) := [(33, sSL .i64 3 badL)]

--#vc all_vc 27 (sOnes allN) annAll spAll
--#vc rlast_vc 17 (sDec lsR lsN) (annOf spR) spR
--#vc rback_vc 28 (sOnes backN) annRBack spR
--#vc rrunes_vc 34 (sSL .i32 21 runes) annRRunes spR
--#vc rbad_vc 33 (sSL .i64 3 badL) annRBad spR
--#vc bad_vc 35 (sSL .i64 3 badL) annBad spBad
--#vc runes_vc 24 (sSL .i32 21 runes) (annOf []) []
--#vc count_vc 37 (sSN cnt) (annOf []) []
--#vc text_vc 21 (sLS runesBytes) (annOf []) []
--#vc clean_vc 38 (sSS (fun s => runesBytes (runes s))) (annOf []) []
--#vc rclean_vc 39 (sSS (fun s => runesBytes (runes s))) (annOf spRClean) spRClean
--#vc put_vc 52 sPut annPut []
--#vc rtext_vc 23 (sLS runesBytes) annRText spRText
--#vc sameR_vc 22 (sSame .i32) annSameI []
--#vc sameI_vc 36 (sSame .i64) annSameI []
--#vc same_vc 32 (sSame .i32) annSameI []

end Go.Proofs.YthkcphnkllnfcaaDoor
