/-
  Texts joined by program: SpA, Up, SpB, SpN, SpRd, Pc.
-/
import Derived.Test.YtjdohhididpomaaGreatDoorWr03
import Derived.Laws.Cover4
import Derived.Test.YtjdohhididpomaaGreatDoorWr04
set_option linter.unusedVariables false
set_option linter.unusedSimpArgs false

namespace Go.Proofs.YtjdohhididpomaaGreatDoor
section
open Go Go.RowKit Vc Ut
def U8 (w : World) : Prop := Lib.Utf8Tabs 0 1 w
def sDec (fr : ByteArray → Int) (fn : ByteArray → Nat) : CallSpec where
  G := ByteArray
  args := fun s => #[.string s]
  pre := fun s w => U8 w ∧ s.size ≤ 67108864
  X := Int × Nat
  res := fun x => .tuple #[.int .i32 x.1, .int .i64 x.2]
  post := fun s w x w' => x.1 = fr s ∧ x.2 = fn s ∧ Ext w w'
def sTest (f : ByteArray → Bool) : CallSpec where
  G := ByteArray
  args := fun s => #[.string s]
  pre := fun s w => U8 w ∧ s.size ≤ 67108864
  X := Bool
  res := fun x => .bool x
  post := fun s w x w' => x = f s ∧ Ext w w'
def sWithin : CallSpec where
  G := Nat × Nat × Nat
  args := fun g => #[.int .u8 g.1, .int .u8 g.2.1, .int .u8 g.2.2]
  pre := fun _ _ => True
  X := Bool
  res := fun x => .bool x
  post := fun g w x w' => x = decide (g.2.1 ≤ g.1 ∧ g.1 ≤ g.2.2) ∧ w' = w
def sSecond : CallSpec where
  G := Nat
  args := fun g => #[.int .u8 g]
  pre := fun _ _ => True
  X := Nat × Nat × Nat
  res := fun x => .tuple #[.int .u8 x.1, .int .u8 x.2.1, .int .i64 x.2.2]
  post := fun g w x w' => x = secN g ∧ w' = w
def sBegins : CallSpec where
  G := ByteArray
  args := fun s => #[.string s]
  pre := fun s _ => s.size ≤ 67108864
  X := Nat × Nat
  res := fun x => .tuple #[.int .i64 x.1, .int .i64 x.2]
  post := fun s w x w' => x.1 = begN s ∧ x.2 = begS s ∧ w' = w
def annBegins (s : ByteArray) (w00 : World) : Ann where
  sp := [(113, sSecond), (114, sWithin)]
  loops := [(9, {
    X := Nat
    sh := fun _ n => [(7, .int .i64 n), (4, .int .u8 (loB s n)), (5, .int .u8 (hiB s n))]
    inv := fun e w0 n w => w = w0 ∧ 1 ≤ n ∧ n ≤ (secN (bt s 0)).2.2 ∧ n ≤ s.size ∧ runB s ((secN (bt s 0)).2.2 - n) n = runB s ((secN (bt s 0)).2.2 - 1) 1
    mu := fun _ _ n _ => s.size - n })]
def sNumber : CallSpec where
  G := ByteArray
  args := fun s => #[.string s]
  pre := fun s _ => 1 ≤ s.size ∧ s.size ≤ 4
  X := Nat
  res := fun x => .int .i32 x
  post := fun s w x w' => x = numR s s.size ∧ Ext w w'
def annNumber (s : ByteArray) (w00 : World) : Ann where
  sp := []
  loops := [(4, {
    X := Nat
    sh := fun _ n => [(5, .int .i64 (n + 1)), (4, .int .i32 (numP s s.size n))]
    inv := fun _ w0 n w => n + 1 ≤ s.size ∧ Ext w0 w
    mu := fun _ _ n _ => s.size - n })]
def spSecond : List (Nat × CallSpec) := [(114, sWithin)]
def spBegins : List (Nat × CallSpec) := [(113, sSecond), (114, sWithin)]
def spRNext : List (Nat × CallSpec) := [(76, sBegins), (77, sNumber)]
def spNext : List (Nat × CallSpec) := [(75, sDec nxR nxN)]
end

section
namespace Ut
open Go Vc
def encC (r : Int) : Nat := if 0 ≤ r ∧ r < 55296 ∨ 57344 ≤ r ∧ r ≤ 1114111 then r.toNat else 65533
def encN (c : Nat) : List Nat :=
  if c < 128 then [c] else if c < 2048 then [192 + c / 64, 128 + c % 64] else if c < 65536 then [224 + c / 4096, 128 + c / 64 % 64, 128 + c % 64]
  else [240 + c / 262144, 128 + c / 4096 % 64, 128 + c / 64 % 64, 128 + c % 64]
def encL (r : Int) : List Int := (encN (encC r)).map fun b : Nat => (b : Int)
theorem encC_le (r : Int) : encC r ≤ 1114111 := by unfold encC; split <;> omega
theorem encN_lt {c : Nat} (h : c ≤ 1114111) : ∀ b ∈ encN c, b < 256 := by
  unfold encN
  intro b hb
  repeat' split at hb
  all_goals simp only [List.mem_cons, List.not_mem_nil, or_false] at hb
  all_goals omega
theorem encN_len (c : Nat) : 1 ≤ (encN c).length ∧ (encN c).length ≤ 4 := by
  unfold encN
  repeat' split
  all_goals simp
theorem encL_len (r : Int) : 1 ≤ (encL r).length ∧ (encL r).length ≤ 4 := by unfold encL; rw [List.length_map]; exact encN_len _
theorem encode_eq (r : Int) : (Utf8.encode r).data.toList = (encN (encC r)).map UInt8.ofNat := by
  have hv : Utf8.valid r = decide (0 ≤ r ∧ r < 55296 ∨ 57344 ≤ r ∧ r ≤ 1114111) := by
    unfold Utf8.valid
    by_cases h : 0 ≤ r ∧ r < 55296 ∨ 57344 ≤ r ∧ r ≤ 1114111
    · rw [decide_eq_true h]; simp only [Bool.or_eq_true, Bool.and_eq_true, decide_eq_true_eq]; exact h
    · rw [decide_eq_false h]
      by_cases hh : (decide (0 ≤ r) && decide (r < 55296) || decide (57344 ≤ r) && decide (r ≤ 1114111)) = true
      · simp only [Bool.or_eq_true, Bool.and_eq_true, decide_eq_true_eq] at hh; exact absurd hh h
      · simpa using hh
  have hc : (if Utf8.valid r then r.toNat else Utf8.runeError) = encC r := by
    unfold encC; rw [hv]; simp only [decide_eq_true_eq]; rfl
  unfold Utf8.encode
  simp only [hc]
  unfold encN
  repeat' split
  all_goals rfl
theorem runesBytes_app (xs ys : List Int) : runesBytes (xs ++ ys) = runesBytes xs ++ runesBytes ys := by
  have key : ∀ (l : List Int) (s : ByteArray), l.foldl (fun r n => r ++ Utf8.encode n) s = s ++ l.foldl (fun r n => r ++ Utf8.encode n) ByteArray.empty := by
    intro l
    induction l with
    | nil => intro s; simp
    | cons x l ih => intro s; rw [List.foldl_cons, ih, List.foldl_cons, ih (ByteArray.empty ++ Utf8.encode x), ByteArray.empty_append, ByteArray.append_assoc]
  unfold runesBytes
  rw [List.foldl_append, key]
theorem runesBytes_cons (x : Int) (xs : List Int) : runesBytes (x :: xs) = Utf8.encode x ++ runesBytes xs := by
  have := runesBytes_app [x] xs
  rw [List.singleton_append] at this
  rw [this]; unfold runesBytes; simp
theorem runesBytes_list (xs : List Int) : (runesBytes xs).data.toList = (xs.flatMap fun r => encN (encC r)).map UInt8.ofNat := by
  induction xs with
  | nil => rfl
  | cons x xs ih =>
    rw [runesBytes_cons, ByteArray.data_append, Array.toList_append, ih, encode_eq, List.flatMap_cons, List.map_append]
theorem flat_encL (xs : List Int) : xs.flatMap encL = (xs.flatMap fun r => encN (encC r)).map fun b : Nat => (b : Int) := by
  induction xs with
  | nil => rfl
  | cons x xs ih => rw [List.flatMap_cons, List.flatMap_cons, List.map_append, ih]; rfl
theorem flat_encN_lt (xs : List Int) : ∀ b ∈ xs.flatMap fun r => encN (encC r), b < 256 := by
  intro b hb
  obtain ⟨x, _, hx⟩ := List.mem_flatMap.1 hb
  exact encN_lt (encC_le x) b hx
theorem runesBytes_size (xs : List Int) : (runesBytes xs).size = (xs.flatMap encL).length := by
  rw [← size_list, runesBytes_list, flat_encL, List.length_map, List.length_map]
theorem runesBytes_bt (xs : List Int) (j : Nat) (h : j < (xs.flatMap encL).length) : ((runesBytes xs).data.toList.getD j 0).toNat = ((xs.flatMap encL).getD j 0).toNat := by
  have hl := flat_encN_lt xs
  rw [runesBytes_list]
  rw [flat_encL, List.length_map] at h
  rw [flat_encL]
  simp only [List.getD_eq_getElem?_getD, List.getElem?_map, List.getElem?_eq_getElem h, Option.map_some, Option.getD_some]
  have := hl _ (List.getElem_mem h)
  rw [UInt8.toNat_ofNat']; omega
theorem flat_encL_len (xs : List Int) : (xs.flatMap encL).length ≤ 4 * xs.length := by
  induction xs with
  | nil => simp
  | cons x xs ih => have := encL_len x; rw [List.flatMap_cons, List.length_append, List.length_cons]; omega
theorem flat_encL_nonneg (xs : List Int) : ∀ b ∈ xs.flatMap encL, 0 ≤ b ∧ b < 256 := by
  intro b hb
  rw [flat_encL] at hb
  obtain ⟨n, hn, rfl⟩ := List.mem_map.1 hb
  have := flat_encN_lt xs n hn
  omega
end Ut
end

section
open Go Go.RowKit Vc Ut
def oneV (s : ByteArray) (n : Nat) : List Value := [.int .i64 (pos s n), .int .i32 (dcR s (pos s n)), .int .i64 (dcN s (pos s n)), .bool (isBad s n)]
def allN (s : ByteArray) : List Nat := List.range (cnt s)
def sSL (k : IntKind) (e : TypeId) (f : ByteArray → List Int) : CallSpec where
  G := ByteArray
  args := fun s => #[.string s]
  pre := fun s w => U8 w ∧ s.size ≤ 67108864
  X := Option Addr × Nat × Nat
  res := fun x => .slice x.1 x.2.1 x.2.2
  post := fun s w x w' => x.2.1 = (f s).length ∧ Made w w' e 1 x.1 x.2.1 ((f s).map (Value.int k)) x.2.2
def badT (s : ByteArray) (n : Nat) : List Int := ((List.range n).filter (isBad s)).map fun n => (pos s n : Int)
def sSN (f : ByteArray → Nat) : CallSpec where
  G := ByteArray
  args := fun s => #[.string s]
  pre := fun s w => U8 w ∧ s.size ≤ 67108864
  X := Nat
  res := fun x => .int .i64 x
  post := fun s w x w' => x = f s ∧ Ext w w'
def sLS (f : List Int → ByteArray) : CallSpec where
  G := GSl
  args := fun g => #[.slice g.ad g.xs.length g.c]
  pre := fun g w => g.at .i32 w ∧ g.xs.length ≤ 67108864
  X := ByteArray
  res := fun x => .string x
  post := fun g w x w' => x = f g.xs ∧ Ext w w'
structure GPut where
  W : World
  ad : Option Addr
  c : Nat
  vs : List Int
  r : Int
def sPut : CallSpec where
  G := GPut
  args := fun g => #[.slice g.ad g.vs.length g.c, .int .i32 g.r]
  pre := fun g w => Made g.W w 5 1 g.ad g.vs.length (g.vs.map (Value.int .u8)) g.c ∧ g.vs.length ≤ 1073741824
  X := Option Addr × Nat × Nat
  res := fun x => .slice x.1 x.2.1 x.2.2
  post := fun g w x w' => x.2.1 = (g.vs ++ encL g.r).length ∧ Made g.W w' 5 1 x.1 x.2.1 ((g.vs ++ encL g.r).map (Value.int .u8)) x.2.2
def annPut (g : GPut) (w00 : World) : Ann where
  sp := []
  cuts := [(1, 2, { X := Unit, sh := fun _ _ => [(1, .int .i32 (encC g.r : Int))], inv := fun _ w0 _ w => w = w0 })]
end

section
open Go Go.RowKit Vc Ut Tb Cl
def nextL (s : ByteArray) : Nat := bp s 1
def spCNext : List (Nat × CallSpec) := [(50, sDec nxR nxN), (92, sRB aloneB), (61, sRuneX .i8 kindR), (93, sRB joinB), (94, sRB regB), (95, sRB picB), (96, sTwoB sylB)]
def annCNext (s : ByteArray) (_ : World) : Ann where
  sp := spCNext
  cuts := [(12, 11, { X := Nat, sh := fun _ _ => [], inv := fun e w0 n w => gi e 6 = (n : Int) ∧ goB s 0 n = true ∧ Ext w0 w })]
  jumps := [(1, {
    X := Nat
    sh := fun _ n => [(3, .int .i32 (sg s 0)), (4, .int .i32 (sg s (n - 1))), (6, .int .i64 n), (7, .int .i64 (pos s n))]
    inv := fun _ w0 n w => 1 ≤ n ∧ n ≤ cnt s ∧ n ≤ 32 ∧ 0 < s.size ∧ goN s 0 (33 - n) n = firstN s 0 ∧ Ext w0 w
    mu := fun _ _ n _ => 40 - n }), (0, {
    X := Unit
    sh := fun _ _ => [(3, .int .i32 (sg s 0)), (7, .int .i64 (pos s 1))]
    inv := fun _ w0 _ w => 0 < s.size ∧ (isBad s 0 = true ∨ aloneB (sg s 0) = true) ∧ Ext w0 w
    mu := fun _ _ _ _ => 0 })]
def sgnV (s : ByteArray) (k : Nat) : List Value := [.int .i32 (sg s k), .int .i64 (pos s k), .bool (isBad s k)]
def sSigns : CallSpec where
  G := ByteArray
  args := fun s => #[.string s]
  pre := fun s w => U8 w ∧ s.size ≤ 67108864
  X := Option Addr × Nat × Nat
  res := fun x => .slice x.1 x.2.1 x.2.2
  post := fun s w x w' => x.2.1 = cnt s ∧ Made w w' 134 3 x.1 x.2.1 ((List.range (cnt s)).flatMap (sgnV s)) x.2.2
def spSigns : List (Nat × CallSpec) := [(52, sDec nxR nxN)]
def annSigns (s : ByteArray) (_ : World) : Ann where
  sp := spSigns
  loops := [(3, {
    X := Nat × Option Addr × Nat
    sh := fun _ x => [(4, .int .i64 (pos s x.1)), (3, .slice x.2.1 x.1 x.2.2)]
    inv := fun _ w0 x w => x.1 ≤ cnt s ∧ Made w0 w 134 3 x.2.1 x.1 ((List.range x.1).flatMap (sgnV s)) x.2.2
    mu := fun _ _ x _ => cnt s - x.1 })]
structure GFst where
  s : ByteArray
  k : Nat
  a : Option Addr
  c : Nat
def sFirst : CallSpec where
  G := GFst
  args := fun g => #[.slice g.a (cnt g.s - g.k) g.c]
  pre := fun g w => g.k < cnt g.s ∧ g.s.size ≤ 67108864 ∧ CellsAt w g.a (((List.range (cnt g.s)).drop g.k).flatMap (sgnV g.s))
  X := Nat
  res := fun x => .int .i64 x
  post := fun g w x w' => x = firstN g.s g.k ∧ Ext w w'
def spFirst : List (Nat × CallSpec) := [(126, sRB aloneB), (127, sTakes)]
def annFirst (g : GFst) (_ : World) : Ann where
  sp := spFirst
  cuts := [(3, 3, { X := Unit, sh := fun _ _ => [(24, .bool (crB g.s g.k))], inv := fun _ w0 _ w => Ext w0 w })]
  loops := [(8, {
    X := Nat
    sh := fun _ n => [(3, .int .i64 n)]
    inv := fun _ w0 n w => 1 ≤ n ∧ g.k + n ≤ cnt g.s ∧ n ≤ 32 ∧ goN g.s g.k (33 - n) n = firstN g.s g.k ∧ Ext w0 w
    mu := fun _ _ n _ => 40 - n })]
def pcV (s : ByteArray) (i : Nat) : List Value := [.int .i64 (bp s i), .string (s.extract (bp s i) (bp s (i + 1)))]
def sRAllP : CallSpec where
  G := ByteArray
  args := fun s => #[.string s]
  pre := fun s w => U8 w ∧ s.size ≤ 67108864
  X := Option Addr × Nat × Nat
  res := fun x => .slice x.1 x.2.1 x.2.2
  post := fun s w x w' => x.2.1 = ncl s ∧ Made w w' 142 2 x.1 x.2.1 ((List.range (ncl s)).flatMap (pcV s)) x.2.2
structure GAl where
  i : Nat
  la : Option Addr
  lc : Nat
  oa : Option Addr
  oc : Nat
def spRAllP : List (Nat × CallSpec) := [(71, sSigns), (102, sFirst)]
def annRAllP (s : ByteArray) (_ : World) : Ann where
  sp := spRAllP
  loops := [(3, {
    X := GAl
    sh := fun _ x => [(3, .slice x.la (cnt s - bk s x.i) x.lc), (4, .slice x.oa x.i x.oc)]
    inv := fun _ w0 x w => x.i ≤ ncl s ∧ cnt s - bk s x.i ≤ x.lc ∧ CellsAt w0 x.la (((List.range (cnt s)).drop (bk s x.i)).flatMap (sgnV s)) ∧ Made w0 w 142 2 x.oa x.i ((List.range x.i).flatMap (pcV s)) x.oc
    mu := fun _ _ x _ => ncl s - x.i })]
def spRNextC : List (Nat × CallSpec) := [(71, sSigns), (102, sFirst)]
end

section
open Go Go.RowKit Vc Ut Tb Cl
def spValid : List (Nat × CallSpec) := [(65, sTest validB)]
def sOnes (f : ByteArray → List Nat) : CallSpec where
  G := ByteArray
  args := fun s => #[.string s]
  pre := fun s w => U8 w ∧ s.size ≤ 67108864
  X := Option Addr × Nat × Nat
  res := fun x => .slice x.1 x.2.1 x.2.2
  post := fun s w x w' => x.2.1 = (f s).length ∧ Made w w' 140 4 x.1 x.2.1 ((f s).flatMap (oneV s)) x.2.2
def annAll (s : ByteArray) (w00 : World) : Ann where
  sp := [(52, sDec nxR nxN)]
  loops := [(3, {
    X := Nat × Option Addr × Nat
    sh := fun _ x => [(4, .int .i64 (pos s x.1)), (3, .slice x.2.1 x.1 x.2.2)]
    inv := fun _ w0 x w => x.1 ≤ cnt s ∧ Made w0 w 140 4 x.2.1 x.1 ((List.range x.1).flatMap (oneV s)) x.2.2
    mu := fun _ _ x _ => cnt s - x.1 })]
def spAll1 : List (Nat × CallSpec) := [(52, sDec nxR nxN)]
def spR : List (Nat × CallSpec) := [(110, sOnes allN)]
def annRBad (s : ByteArray) (w00 : World) : Ann where
  sp := spR
  loops := [(4, {
    X := Nat × Option Addr × Nat
    sh := fun _ x => [(5, .int .i64 x.1), (4, .slice x.2.1 (badT s x.1).length x.2.2)]
    inv := fun _ w0 x w => x.1 ≤ cnt s ∧ Made w0 w 3 1 x.2.1 (badT s x.1).length ((badT s x.1).map (Value.int .i64)) x.2.2
    mu := fun _ _ x _ => cnt s - x.1 })]
def spRValid : List (Nat × CallSpec) := [(72, sSL .i64 3 badL)]
def spRCount : List (Nat × CallSpec) := [(73, sRAllP)]
def bytesV (s : ByteArray) : List Value := s.data.toList.map fun b => .int .u8 (b.toNat : Int)
def fdN (s : ByteArray) : Nat := ((List.range (cnt s)).takeWhile fun n => wholeB (s.extract (pos s n) s.size)).length
def fdR (s : ByteArray) : List Int := (runes s).take (fdN s)
def fdH (s : ByteArray) : ByteArray := s.extract (pos s (fdN s)) s.size
structure GBy where
  ad : Option Addr
  c : Nat
  s : ByteArray
def sFullB : CallSpec where
  G := GBy
  args := fun g => #[.slice g.ad g.s.size g.c]
  pre := fun g w => U8 w ∧ CellsAt w g.ad (bytesV g.s)
  X := Bool
  res := fun x => .bool x
  post := fun g w x w' => x = wholeB g.s ∧ Ext w w'
def sDecB : CallSpec where
  G := GBy
  args := fun g => #[.slice g.ad g.s.size g.c]
  pre := fun g w => U8 w ∧ CellsAt w g.ad (bytesV g.s) ∧ 0 < g.s.size
  X := Int × Nat
  res := fun x => .tuple #[.int .i32 x.1, .int .i64 x.2]
  post := fun g w x w' => x.1 = nxR g.s ∧ x.2 = nxN g.s ∧ Ext w w'
structure RdIn (w : World) (rb : Nat) (ha : Option Addr) (hc : Nat) (h : ByteArray) : Prop where
  box : w.heap[rb]? = some (.cells #[.slice ha h.size hc] 89)
  cells : CellsAt w ha (bytesV h)
  le : h.size ≤ hc
structure NewRow (w w' : World) (e : TypeId) (a : Option Addr) (n : Nat) (vs : List Value) (c : Nat) : Prop where
  row : Row w' e 1 a n vs c
  new : ∀ g, blk a = some g → w.heap.size ≤ g
structure GRd where
  rb : Nat
  ha : Option Addr
  hc : Nat
  h : ByteArray
  ad : Option Addr
  c : Nat
  b : ByteArray
def sFeed : CallSpec where
  G := GRd
  args := fun g => #[.pointer (some ⟨g.rb, 0, none⟩), .slice g.ad g.b.size g.c]
  pre := fun g w => U8 w ∧ RdIn w g.rb g.ha g.hc g.h ∧ CellsAt w g.ad (bytesV g.b) ∧ g.h.size ≤ 67108864 ∧ g.b.size ≤ 67108864
  X := (Option Addr × Nat × Nat) × Option Addr × Nat
  res := fun x => .slice x.1.1 x.1.2.1 x.1.2.2
  post := fun g w x w' => x.1.2.1 = (fdR (g.h ++ g.b)).length ∧ NewRow w w' 21 x.1.1 x.1.2.1 ((fdR (g.h ++ g.b)).map (Value.int .i32)) x.1.2.2 ∧ RdIn w' g.rb x.2.1 x.2.2 (fdH (g.h ++ g.b)) ∧ (∀ q, blk x.2.1 = some q → w.heap.size ≤ q) ∧ (∀ q, blk x.1.1 = some q → blk x.2.1 ≠ some q) ∧ Fr (fun q => q = g.rb) w w'
def spFeed : List (Nat × CallSpec) := [(57, sFullB), (58, sDecB)]
def annFeed (g : GRd) (w00 : World) : Ann where
  sp := spFeed
  loops := [(5, {
    X := Nat × (Option Addr × Nat) × (Option Addr × Nat)
    sh := fun _ x => [(5, .slice x.2.1.1 ((g.h ++ g.b).size - pos (g.h ++ g.b) x.1) x.2.1.2), (6, .slice x.2.2.1 x.1 x.2.2.2)]
    inv := fun _ w0 x w => x.1 ≤ cnt (g.h ++ g.b) ∧ (∀ j, j < x.1 → wholeB ((g.h ++ g.b).extract (pos (g.h ++ g.b) j) (g.h ++ g.b).size) = true) ∧ CellsAt w0 x.2.1.1 (bytesV ((g.h ++ g.b).extract (pos (g.h ++ g.b) x.1) (g.h ++ g.b).size)) ∧ (g.h ++ g.b).size - pos (g.h ++ g.b) x.1 ≤ x.2.1.2 ∧ Made w0 w 21 1 x.2.2.1 x.1 (((runes (g.h ++ g.b)).take x.1).map (Value.int .i32)) x.2.2.2
    mu := fun _ _ x _ => cnt (g.h ++ g.b) - x.1 })]
def sNew : CallSpec where
  G := Unit
  args := fun _ => #[]
  pre := fun _ _ => True
  X := Nat
  res := fun b => .pointer (some ⟨b, 0, none⟩)
  post := fun _ w b w' => b = w.heap.size ∧ RdIn w' b none 0 ⟨#[]⟩ ∧ Ext w w'
end

section
open Go Vc Ut Tb Cl
def pcP (s : ByteArray) (i : Nat) : Nat × ByteArray := (bp s i, s.extract (bp s i) (bp s (i + 1)))
def pcL (s : ByteArray) : List (Nat × ByteArray) := (List.range (ncl s)).map (pcP s)
end
end Go.Proofs.YtjdohhididpomaaGreatDoor
