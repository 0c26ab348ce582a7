/-
  Texts joined by program: SpK, SpP, SpA, Up, SpB, SpN.
-/
import Derived.Test.YtjdohhididpomaaDoorWt03
import Derived.Test.YtjdohhididpomaaDoorWt04
import Derived.Laws.Cover4
set_option linter.unusedVariables false
set_option linter.unusedSimpArgs false

section
namespace Go.Proofs.YtjdohhididpomaaDoor
open Go Go.RowKit Vc Tb Cl
def sRune (k : IntKind) (f : Int → Int) : CallSpec where
  G := Int
  args := fun r => #[.int .i32 r]
  pre := fun _ _ => True
  X := Int
  res := fun x => .int k x
  post := fun r w x w' => x = f r ∧ w' = w
def sRuneX (k : IntKind) (f : Int → Int) : CallSpec where
  G := Int
  args := fun r => #[.int .i32 r]
  pre := fun _ _ => True
  X := Int
  res := fun x => .int k x
  post := fun r w x w' => x = f r ∧ Ext w w'
structure GFind where
  b : Nat
  T : List (Int × Int)
  r : Int
def CellsT (w : World) (b : Nat) (T : List (Int × Int)) : Prop :=
  ∀ j, j < T.length → w.cell? ⟨b, 0 + j * 2, none⟩ = some (.int .i32 (T.getD j (0, 0)).1) ∧ w.cell? ⟨b, 0 + j * 2 + 1, none⟩ = some (.int .u8 (T.getD j (0, 0)).2)
def sFind : CallSpec where
  G := GFind
  args := fun g => #[.slice (some ⟨g.b, 0, none⟩) g.T.length g.T.length, .int .i32 g.r]
  pre := fun g w => CellsT w g.b g.T ∧ 0 < g.T.length ∧ g.T.length ≤ 1000 ∧ boundsOk g.T = true ∧ (g.T.getD 0 (0, 0)).1 = 0
  X := Int × Int
  res := fun x => .tuple #[.int .u8 x.1, .int .i32 x.2]
  post := fun g w x w' => FindOk g.T (knownF g.r) x.1 x.2 ∧ Ext w w'
def annFind (g : GFind) : Ann where
  sp := []
  loops := [(4, {
    X := Nat × Nat
    sh := fun _ x => [(6, .int .i64 x.1), (7, .int .i64 x.2)]
    inv := fun _ w0 x w => x.1 < x.2 ∧ x.2 ≤ g.T.length ∧ (g.T.getD x.1 (0, 0)).1 ≤ knownF g.r ∧ (x.2 = g.T.length ∨ knownF g.r < (g.T.getD x.2 (0, 0)).1) ∧ w = w0
    mu := fun _ _ x _ => x.2 - x.1 })]
  cuts := [(1, 2, { X := Unit, sh := fun _ _ => [(1, .int .i32 (knownF g.r))], inv := fun _ w0 _ w => w = w0 })]
def sTab (T : List (Int × Int)) : CallSpec where
  G := Int
  args := fun r => #[.int .i32 r]
  pre := fun _ _ => True
  X := Int × Int
  res := fun x => .tuple #[.int .u8 x.1, .int .i32 x.2]
  post := fun r w x w' => FindOk T (knownF r) x.1 x.2 ∧ Ext w w'
def sWide (p : World → World → Prop) : CallSpec where
  G := Int × Bool
  args := fun g => #[.int .i32 g.1, .bool g.2]
  pre := fun _ _ => True
  X := Int
  res := fun x => .int .i64 x
  post := fun g w x w' => x = wideR g.1 g.2 ∧ p w w'
def spFind : List (Nat × CallSpec) := [(68, sFind)]
def spKind : List (Nat × CallSpec) := [(51, sTab kindT)]
def spWid : List (Nat × CallSpec) := [(78, sTab widT)]
end Go.Proofs.YtjdohhididpomaaDoor
end

section
namespace Go.Proofs.YtjdohhididpomaaDoor
open Go Go.RowKit Vc Tb Cl
def sRB (f : Int → Bool) : CallSpec where
  G := Int
  args := fun r => #[.int .i32 r]
  pre := fun _ _ => True
  X := Bool
  res := fun x => .bool x
  post := fun r w x w' => x = f r ∧ Ext w w'
def sRN (f : Int → Nat) : CallSpec where
  G := Int
  args := fun r => #[.int .i32 r]
  pre := fun _ _ => True
  X := Nat
  res := fun x => .int .i64 x
  post := fun r w x w' => x = f r ∧ Ext w w'
def sTwoB (f : Int → Int → Bool) : CallSpec where
  G := Int × Int
  args := fun g => #[.int .i32 g.1, .int .i32 g.2]
  pre := fun _ _ => True
  X := Bool
  res := fun x => .bool x
  post := fun g w x w' => x = f g.1 g.2 ∧ Ext w w'
structure GTk where
  x : Int
  z : Int
  y : Int
  n : Nat
def sTakes : CallSpec where
  G := GTk
  args := fun g => #[.int .i32 g.x, .int .i32 g.z, .int .i32 g.y, .int .i64 g.n]
  pre := fun _ _ => True
  X := Bool
  res := fun x => .bool x
  post := fun g w x w' => x = takesB g.x g.z g.y g.n ∧ Ext w w'
def bitN : Nat → Nat
  | 1 => 1
  | 2 => 2
  | 3 => 4
  | 4 => 8
  | 5 => 16
  | _ => 0
def partP (r : Int) : Nat := bitN (partN r)
def spPic : List (Nat × CallSpec) := [(38, sRuneX .i8 kindR), (64, sWide (fun w w' => Ext w w'))]
def spAlone : List (Nat × CallSpec) := [(38, sRuneX .i8 kindR), (57, sRB joinB)]
def spGoes : List (Nat × CallSpec) := [(70, sRN partP)]
end Go.Proofs.YtjdohhididpomaaDoor
end

section
namespace Go.Proofs.YtjdohhididpomaaDoor
open Go Go.RowKit Vc Ut
def U8 (w : World) : Prop := Lib.Utf8Tabs 0 1 w
def sDec (fr : ByteArray → Int) (fn : ByteArray → Nat) : CallSpec where
  G := ByteArray
  args := fun s => #[.string s]
  pre := fun s w => U8 w ∧ s.size ≤ 67108864
  X := Int × Nat
  res := fun x => .tuple #[.int .i32 x.1, .int .i64 x.2]
  post := fun s w x w' => x.1 = fr s ∧ x.2 = fn s ∧ Ext w w'
def sTest (f : ByteArray → Bool) : CallSpec where
  G := ByteArray
  args := fun s => #[.string s]
  pre := fun s w => U8 w ∧ s.size ≤ 67108864
  X := Bool
  res := fun x => .bool x
  post := fun s w x w' => x = f s ∧ Ext w w'
def sWithin : CallSpec where
  G := Nat × Nat × Nat
  args := fun g => #[.int .u8 g.1, .int .u8 g.2.1, .int .u8 g.2.2]
  pre := fun _ _ => True
  X := Bool
  res := fun x => .bool x
  post := fun g w x w' => x = decide (g.2.1 ≤ g.1 ∧ g.1 ≤ g.2.2) ∧ w' = w
def sSecond : CallSpec where
  G := Nat
  args := fun g => #[.int .u8 g]
  pre := fun _ _ => True
  X := Nat × Nat × Nat
  res := fun x => .tuple #[.int .u8 x.1, .int .u8 x.2.1, .int .i64 x.2.2]
  post := fun g w x w' => x = secN g ∧ w' = w
def sBegins : CallSpec where
  G := ByteArray
  args := fun s => #[.string s]
  pre := fun s _ => s.size ≤ 67108864
  X := Nat × Nat
  res := fun x => .tuple #[.int .i64 x.1, .int .i64 x.2]
  post := fun s w x w' => x.1 = begN s ∧ x.2 = begS s ∧ w' = w
def sNumber : CallSpec where
  G := ByteArray
  args := fun s => #[.string s]
  pre := fun s _ => 1 ≤ s.size ∧ s.size ≤ 4
  X := Nat
  res := fun x => .int .i32 x
  post := fun s w x w' => x = numR s s.size ∧ Ext w w'
def annNumber (s : ByteArray) (w00 : World) : Ann where
  sp := []
  loops := [(4, {
    X := Nat
    sh := fun _ n => [(5, .int .i64 (n + 1)), (4, .int .i32 (numP s s.size n))]
    inv := fun _ w0 n w => n + 1 ≤ s.size ∧ Ext w0 w
    mu := fun _ _ n _ => s.size - n })]
def spNext : List (Nat × CallSpec) := [(47, sDec nxR nxN)]
end Go.Proofs.YtjdohhididpomaaDoor
end

section
namespace Go.Proofs.YtjdohhididpomaaDoor.Ut
open Go Vc
def encC (r : Int) : Nat := if 0 ≤ r ∧ r < 55296 ∨ 57344 ≤ r ∧ r ≤ 1114111 then r.toNat else 65533
def encN (c : Nat) : List Nat :=
  if c < 128 then [c] else if c < 2048 then [192 + c / 64, 128 + c % 64] else if c < 65536 then [224 + c / 4096, 128 + c / 64 % 64, 128 + c % 64]
  else [240 + c / 262144, 128 + c / 4096 % 64, 128 + c / 64 % 64, 128 + c % 64]
def encL (r : Int) : List Int := (encN (encC r)).map fun b : Nat => (b : Int)
theorem encC_le (r : Int) : encC r ≤ 1114111 := by unfold encC; split <;> omega
theorem encN_lt {c : Nat} (h : c ≤ 1114111) : ∀ b ∈ encN c, b < 256 := by
  unfold encN
  intro b hb
  repeat' split at hb
  all_goals simp only [List.mem_cons, List.not_mem_nil, or_false] at hb
  all_goals omega
theorem encN_len (c : Nat) : 1 ≤ (encN c).length ∧ (encN c).length ≤ 4 := by
  unfold encN
  repeat' split
  all_goals simp
theorem encL_len (r : Int) : 1 ≤ (encL r).length ∧ (encL r).length ≤ 4 := by unfold encL; rw [List.length_map]; exact encN_len _
theorem encode_eq (r : Int) : (Utf8.encode r).data.toList = (encN (encC r)).map UInt8.ofNat := by
  have hv : Utf8.valid r = decide (0 ≤ r ∧ r < 55296 ∨ 57344 ≤ r ∧ r ≤ 1114111) := by
    unfold Utf8.valid
    by_cases h : 0 ≤ r ∧ r < 55296 ∨ 57344 ≤ r ∧ r ≤ 1114111
    · rw [decide_eq_true h]; simp only [Bool.or_eq_true, Bool.and_eq_true, decide_eq_true_eq]; exact h
    · rw [decide_eq_false h]
      by_cases hh : (decide (0 ≤ r) && decide (r < 55296) || decide (57344 ≤ r) && decide (r ≤ 1114111)) = true
      · simp only [Bool.or_eq_true, Bool.and_eq_true, decide_eq_true_eq] at hh; exact absurd hh h
      · simpa using hh
  have hc : (if Utf8.valid r then r.toNat else Utf8.runeError) = encC r := by
    unfold encC; rw [hv]; simp only [decide_eq_true_eq]; rfl
  unfold Utf8.encode
  simp only [hc]
  unfold encN
  repeat' split
  all_goals rfl
theorem runesBytes_app (xs ys : List Int) : runesBytes (xs ++ ys) = runesBytes xs ++ runesBytes ys := by
  have key : ∀ (l : List Int) (s : ByteArray), l.foldl (fun r n => r ++ Utf8.encode n) s = s ++ l.foldl (fun r n => r ++ Utf8.encode n) ByteArray.empty := by
    intro l
    induction l with
    | nil => intro s; simp
    | cons x l ih => intro s; rw [List.foldl_cons, ih, List.foldl_cons, ih (ByteArray.empty ++ Utf8.encode x), ByteArray.empty_append, ByteArray.append_assoc]
  unfold runesBytes
  rw [List.foldl_append, key]
theorem runesBytes_cons (x : Int) (xs : List Int) : runesBytes (x :: xs) = Utf8.encode x ++ runesBytes xs := by
  have := runesBytes_app [x] xs
  rw [List.singleton_append] at this
  rw [this]; unfold runesBytes; simp
theorem runesBytes_list (xs : List Int) : (runesBytes xs).data.toList = (xs.flatMap fun r => encN (encC r)).map UInt8.ofNat := by
  induction xs with
  | nil => rfl
  | cons x xs ih =>
    rw [runesBytes_cons, ByteArray.data_append, Array.toList_append, ih, encode_eq, List.flatMap_cons, List.map_append]
theorem flat_encL (xs : List Int) : xs.flatMap encL = (xs.flatMap fun r => encN (encC r)).map fun b : Nat => (b : Int) := by
  induction xs with
  | nil => rfl
  | cons x xs ih => rw [List.flatMap_cons, List.flatMap_cons, List.map_append, ih]; rfl
theorem flat_encN_lt (xs : List Int) : ∀ b ∈ xs.flatMap fun r => encN (encC r), b < 256 := by
  intro b hb
  obtain ⟨x, _, hx⟩ := List.mem_flatMap.1 hb
  exact encN_lt (encC_le x) b hx
theorem runesBytes_size (xs : List Int) : (runesBytes xs).size = (xs.flatMap encL).length := by
  rw [← size_list, runesBytes_list, flat_encL, List.length_map, List.length_map]
theorem runesBytes_bt (xs : List Int) (j : Nat) (h : j < (xs.flatMap encL).length) : ((runesBytes xs).data.toList.getD j 0).toNat = ((xs.flatMap encL).getD j 0).toNat := by
  have hl := flat_encN_lt xs
  rw [runesBytes_list]
  rw [flat_encL, List.length_map] at h
  rw [flat_encL]
  simp only [List.getD_eq_getElem?_getD, List.getElem?_map, List.getElem?_eq_getElem h, Option.map_some, Option.getD_some]
  have := hl _ (List.getElem_mem h)
  rw [UInt8.toNat_ofNat']; omega
theorem flat_encL_len (xs : List Int) : (xs.flatMap encL).length ≤ 4 * xs.length := by
  induction xs with
  | nil => simp
  | cons x xs ih => have := encL_len x; rw [List.flatMap_cons, List.length_append, List.length_cons]; omega
theorem flat_encL_nonneg (xs : List Int) : ∀ b ∈ xs.flatMap encL, 0 ≤ b ∧ b < 256 := by
  intro b hb
  rw [flat_encL] at hb
  obtain ⟨n, hn, rfl⟩ := List.mem_map.1 hb
  have := flat_encN_lt xs n hn
  omega
end Go.Proofs.YtjdohhididpomaaDoor.Ut
end

section
namespace Go.Proofs.YtjdohhididpomaaDoor
open Go Go.RowKit Vc Ut
def oneV (s : ByteArray) (n : Nat) : List Value := [.int .i64 (pos s n), .int .i32 (dcR s (pos s n)), .int .i64 (dcN s (pos s n)), .bool (isBad s n)]
def allN (s : ByteArray) : List Nat := List.range (cnt s)
def backN (s : ByteArray) : List Nat := (List.range (cnt s)).map fun k => cnt s - 1 - k
def sSL (k : IntKind) (e : TypeId) (f : ByteArray → List Int) : CallSpec where
  G := ByteArray
  args := fun s => #[.string s]
  pre := fun s w => U8 w ∧ s.size ≤ 67108864
  X := Option Addr × Nat × Nat
  res := fun x => .slice x.1 x.2.1 x.2.2
  post := fun s w x w' => x.2.1 = (f s).length ∧ Made w w' e 1 x.1 x.2.1 ((f s).map (Value.int k)) x.2.2
def badT (s : ByteArray) (n : Nat) : List Int := ((List.range n).filter (isBad s)).map fun n => (pos s n : Int)
def spBad : List (Nat × CallSpec) := [(47, sDec nxR nxN)]
def annBad (s : ByteArray) (w00 : World) : Ann where
  sp := spBad
  loops := [(3, {
    X := Nat × Option Addr × Nat
    sh := fun _ x => [(3, .slice x.2.1 (badT s x.1).length x.2.2)]
    inv := fun e w0 x w => x.1 ≤ cnt s ∧ Made w00 w 3 1 x.2.1 (badT s x.1).length ((badT s x.1).map (Value.int .i64)) x.2.2 ∧ ∃ b, gv e 9 = .pointer (some ⟨b, 0, none⟩) ∧ w00.heap.size ≤ b ∧ w.heap[b]? = some (.stringIter s (pos s x.1))
    mu := fun _ _ x _ => cnt s - x.1 })]
def sSN (f : ByteArray → Nat) : CallSpec where
  G := ByteArray
  args := fun s => #[.string s]
  pre := fun s w => U8 w ∧ s.size ≤ 67108864
  X := Nat
  res := fun x => .int .i64 x
  post := fun s w x w' => x = f s ∧ Ext w w'
def sSS (f : ByteArray → ByteArray) : CallSpec where
  G := ByteArray
  args := fun s => #[.string s]
  pre := fun s w => U8 w ∧ s.size ≤ 67108864
  X := ByteArray
  res := fun x => .string x
  post := fun s w x w' => x = f s ∧ Ext w w'
def sLS (f : List Int → ByteArray) : CallSpec where
  G := GSl
  args := fun g => #[.slice g.ad g.xs.length g.c]
  pre := fun g w => g.at .i32 w ∧ g.xs.length ≤ 67108864
  X := ByteArray
  res := fun x => .string x
  post := fun g w x w' => x = f g.xs ∧ Ext w w'
structure GPut where
  W : World
  ad : Option Addr
  c : Nat
  vs : List Int
  r : Int
def sPut : CallSpec where
  G := GPut
  args := fun g => #[.slice g.ad g.vs.length g.c, .int .i32 g.r]
  pre := fun g w => Made g.W w 5 1 g.ad g.vs.length (g.vs.map (Value.int .u8)) g.c ∧ g.vs.length ≤ 1073741824
  X := Option Addr × Nat × Nat
  res := fun x => .slice x.1 x.2.1 x.2.2
  post := fun g w x w' => x.2.1 = (g.vs ++ encL g.r).length ∧ Made g.W w' 5 1 x.1 x.2.1 ((g.vs ++ encL g.r).map (Value.int .u8)) x.2.2
def annPut (g : GPut) (w00 : World) : Ann where
  sp := []
  cuts := [(1, 2, { X := Unit, sh := fun _ _ => [(1, .int .i32 (encC g.r : Int))], inv := fun _ w0 _ w => w = w0 })]
end Go.Proofs.YtjdohhididpomaaDoor
end

section
namespace Go.Proofs.YtjdohhididpomaaDoor
open Go Go.RowKit Vc Ut Tb Cl
def nextL (s : ByteArray) : Nat := bp s 1
def lastL (s : ByteArray) : Nat := s.size - bp s (ncl s - 1)
def spCNext : List (Nat × CallSpec) := [(33, sDec nxR nxN), (56, sRB aloneB), (38, sRuneX .i8 kindR), (57, sRB joinB), (58, sRB regB), (59, sRB picB), (60, sTwoB sylB)]
def annCNext (s : ByteArray) (_ : World) : Ann where
  sp := spCNext
  cuts := [(12, 11, { X := Nat, sh := fun _ _ => [], inv := fun e w0 n w => gi e 6 = (n : Int) ∧ goB s 0 n = true ∧ Ext w0 w })]
  jumps := [(1, {
    X := Nat
    sh := fun _ n => [(3, .int .i32 (sg s 0)), (4, .int .i32 (sg s (n - 1))), (6, .int .i64 n), (7, .int .i64 (pos s n))]
    inv := fun _ w0 n w => 1 ≤ n ∧ n ≤ cnt s ∧ n ≤ 32 ∧ 0 < s.size ∧ goN s 0 (33 - n) n = firstN s 0 ∧ Ext w0 w
    mu := fun _ _ n _ => 40 - n }), (0, {
    X := Unit
    sh := fun _ _ => [(3, .int .i32 (sg s 0)), (7, .int .i64 (pos s 1))]
    inv := fun _ w0 _ w => 0 < s.size ∧ (isBad s 0 = true ∨ aloneB (sg s 0) = true) ∧ Ext w0 w
    mu := fun _ _ _ _ => 0 })]
def sgnV (s : ByteArray) (k : Nat) : List Value := [.int .i32 (sg s k), .int .i64 (pos s k), .bool (isBad s k)]
structure GFst where
  s : ByteArray
  k : Nat
  a : Option Addr
  c : Nat
def sFirst : CallSpec where
  G := GFst
  args := fun g => #[.slice g.a (cnt g.s - g.k) g.c]
  pre := fun g w => g.k < cnt g.s ∧ g.s.size ≤ 67108864 ∧ CellsAt w g.a (((List.range (cnt g.s)).drop g.k).flatMap (sgnV g.s))
  X := Nat
  res := fun x => .int .i64 x
  post := fun g w x w' => x = firstN g.s g.k ∧ Ext w w'
def pcV (s : ByteArray) (i : Nat) : List Value := [.int .i64 (bp s i), .string (s.extract (bp s i) (bp s (i + 1)))]
structure GAl where
  i : Nat
  la : Option Addr
  lc : Nat
  oa : Option Addr
  oc : Nat
def bordI (s : ByteArray) : List Int := (List.range (ncl s + 1)).map fun i => (bp s i : Int)
def isB (s : ByteArray) (p : Int) : Bool := (List.range (ncl s + 1)).any fun i => decide ((bp s i : Int) = p)
def sIsB : CallSpec where
  G := ByteArray × Int
  args := fun g => #[.string g.1, .int .i64 g.2]
  pre := fun g w => U8 w ∧ g.1.size ≤ 67108864
  X := Bool
  res := fun x => .bool x
  post := fun g w x w' => x = isB g.1 g.2 ∧ Ext w w'
def sInto : CallSpec where
  G := Int × Int × Int
  args := fun g => #[.int .i64 g.1, .int .i64 g.2.1, .int .i64 g.2.2]
  pre := fun _ _ => True
  X := Int
  res := fun x => .int .i64 x
  post := fun g w x w' => x = (if g.1 < g.2.1 then g.2.1 else if g.1 > g.2.2 then g.2.2 else g.1) ∧ w' = w
def clampN (s : ByteArray) (p : Int) : Nat := if p < 0 then 0 else if p > s.size then s.size else p.toNat
def ixP (s : ByteArray) (p : Nat) : Nat := ((List.range (ncl s)).find? fun i => decide (p < bp s (i + 1))).getD (ncl s)
def atF (s : ByteArray) (p : Int) : Nat × Nat := (bp s (ixP s (clampN s p)), bp s (ixP s (clampN s p) + 1))
def sAt : CallSpec where
  G := ByteArray × Int
  args := fun g => #[.string g.1, .int .i64 g.2]
  pre := fun g w => U8 w ∧ g.1.size ≤ 67108864
  X := Nat × Nat
  res := fun x => .tuple #[.int .i64 x.1, .int .i64 x.2]
  post := fun g w x w' => x = atF g.1 g.2 ∧ Ext w w'
end Go.Proofs.YtjdohhididpomaaDoor
end
