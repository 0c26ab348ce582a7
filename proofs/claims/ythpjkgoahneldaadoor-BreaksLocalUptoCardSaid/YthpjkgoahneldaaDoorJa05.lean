/-
  Texts joined by program: TbBrk, SpK, SpP, SpA, Up, SpB.
-/
import Derived.Test.YthpjkgoahneldaaDoorJa04
import Derived.Test.YthpjkgoahneldaaDoorJa03
import Derived.Laws.Cover4
set_option linter.unusedVariables false
set_option linter.unusedSimpArgs false

section
/-
  One of chapter 2's tables: that its cases and its steps say the same of every number.
-/
namespace Go.Proofs.YthpjkgoahneldaaDoor.Tb

def brkL : List (List RC × Int) := [([.rg 10 13, .eq 133, .rg 8232 8233], 2), ([.eq 8203], 9), ([.eq 9, .eq 32, .eq 5760, .rg 8192 8198, .rg 8200 8202, .eq 8287, .eq 12288], 1), ([.eq 160, .eq 8199, .eq 8239, .eq 8288, .eq 65279], 5), ([.eq 8205], 12), ([.eq 45, .eq 173, .eq 1418, .eq 1470, .eq 8208, .rg 8210 8212], 6), ([.le 31, .rg 127 159, .eq 173, .eq 1564, .rg 8203 8207, .rg 8234 8238, .rg 8288 8297, .eq 65279, .rg 768 879, .rg 1155 1161, .rg 1425 1469, .eq 1471, .rg 1473 1474, .rg 1476 1477, .eq 1479, .rg 1552 1562, .rg 1611 1631, .eq 1648, .rg 1750 1756, .rg 1759 1764, .rg 1767 1768, .rg 1770 1773, .eq 3633, .rg 3636 3642, .rg 3655 3662, .rg 6832 6911, .rg 7616 7679, .rg 8400 8447, .rg 12330 12333, .rg 12441 12442, .rg 65024 65039, .rg 65056 65071], 8), ([.rg 48 57, .rg 1632 1641, .rg 1776 1785, .rg 65296 65305], 10), ([.eq 44, .rg 46 47, .rg 58 59, .eq 1548, .rg 1643 1644], 11), ([.eq 40, .eq 91, .eq 123, .eq 161, .eq 171, .eq 191, .eq 8216, .eq 8218, .eq 8220, .eq 8222, .eq 8249, .eq 12296, .eq 12298, .eq 12300, .eq 12302, .eq 12304, .eq 12308, .eq 12310, .eq 12312, .eq 12314, .eq 65288, .eq 65339, .eq 65371, .eq 65375], 3), ([.eq 33, .eq 41, .eq 63, .eq 93, .eq 125, .eq 187, .eq 1563, .eq 1567, .eq 8217, .eq 8221, .eq 8250, .rg 12289 12290, .eq 12297, .eq 12299, .eq 12301, .eq 12303, .eq 12305, .eq 12309, .eq 12311, .eq 12313, .eq 12315, .eq 65281, .eq 65289, .eq 65292, .eq 65294, .rg 65306 65307, .eq 65311, .eq 65341, .eq 65373, .eq 65376], 4), ([.rg 11904 12351, .rg 12353 19903, .rg 19968 42191, .rg 44032 55203, .rg 63744 64255, .rg 65282 65374, .rg 127744 129791, .rg 131072 262141], 7)]
def brkD : Int := 0
def brkT : List (Int × Int) := [(0, 8), (9, 1), (10, 2), (14, 8), (32, 1), (33, 4), (34, 0), (40, 3), (41, 4), (42, 0), (44, 11), (45, 6), (46, 11), (48, 10), (58, 11), (60, 0), (63, 4), (64, 0), (91, 3), (92, 0), (93, 4), (94, 0), (123, 3), (124, 0), (125, 4), (126, 0), (127, 8), (133, 2), (134, 8), (160, 5), (161, 3), (162, 0), (171, 3), (172, 0), (173, 6), (174, 0), (187, 4), (188, 0), (191, 3), (192, 0), (768, 8), (880, 0), (1155, 8), (1162, 0), (1418, 6), (1419, 0), (1425, 8), (1470, 6), (1471, 8), (1472, 0), (1473, 8), (1475, 0), (1476, 8), (1478, 0), (1479, 8), (1480, 0), (1548, 11), (1549, 0), (1552, 8), (1563, 4), (1564, 8), (1565, 0), (1567, 4), (1568, 0), (1611, 8), (1632, 10), (1642, 0), (1643, 11), (1645, 0), (1648, 8), (1649, 0), (1750, 8), (1757, 0), (1759, 8), (1765, 0), (1767, 8), (1769, 0), (1770, 8), (1774, 0), (1776, 10), (1786, 0), (3633, 8), (3634, 0), (3636, 8), (3643, 0), (3655, 8), (3663, 0), (5760, 1), (5761, 0), (6832, 8), (6912, 0), (7616, 8), (7680, 0), (8192, 1), (8199, 5), (8200, 1), (8203, 9), (8204, 8), (8205, 12), (8206, 8), (8208, 6), (8209, 0), (8210, 6), (8213, 0), (8216, 3), (8217, 4), (8218, 3), (8219, 0), (8220, 3), (8221, 4), (8222, 3), (8223, 0), (8232, 2), (8234, 8), (8239, 5), (8240, 0), (8249, 3), (8250, 4), (8251, 0), (8287, 1), (8288, 5), (8289, 8), (8298, 0), (8400, 8), (8448, 0), (11904, 7), (12288, 1), (12289, 4), (12291, 7), (12296, 3), (12297, 4), (12298, 3), (12299, 4), (12300, 3), (12301, 4), (12302, 3), (12303, 4), (12304, 3), (12305, 4), (12306, 7), (12308, 3), (12309, 4), (12310, 3), (12311, 4), (12312, 3), (12313, 4), (12314, 3), (12315, 4), (12316, 7), (12330, 8), (12334, 7), (12352, 0), (12353, 7), (12441, 8), (12443, 7), (19904, 0), (19968, 7), (42192, 0), (44032, 7), (55204, 0), (63744, 7), (64256, 0), (65024, 8), (65040, 0), (65056, 8), (65072, 0), (65279, 5), (65280, 0), (65281, 4), (65282, 7), (65288, 3), (65289, 4), (65290, 7), (65292, 4), (65293, 7), (65294, 4), (65295, 7), (65296, 10), (65306, 4), (65308, 7), (65311, 4), (65312, 7), (65339, 3), (65340, 7), (65341, 4), (65342, 7), (65371, 3), (65372, 7), (65373, 4), (65374, 7), (65375, 3), (65376, 4), (65377, 0), (127744, 7), (129792, 0), (131072, 7), (262142, 0)]

theorem brk_agree : agree brkL brkD 1114111 brkT = true := by decide +kernel
def brkR (r : Int) : Int := lookC brkL brkD (knownF r)

end Go.Proofs.YthpjkgoahneldaaDoor.Tb
end

section
/-
  Specifications, chapter 2: kinds and widths (as in the seat class).
-/
namespace Go.Proofs.YthpjkgoahneldaaDoor
open Go Go.RowKit Vc Tb Cl

/-- A function of one rune that computes a small number and touches nothing. -/
def sRune (k : IntKind) (f : Int → Int) : CallSpec where
  G := Int
  args := fun r => #[.int .i32 r]
  pre := fun _ _ => True
  X := Int
  res := fun x => .int k x
  post := fun r w x w' => x = f r ∧ w' = w

/-- A function of one rune that computes a small number; new memory is made. -/
def sRuneX (k : IntKind) (f : Int → Int) : CallSpec where
  G := Int
  args := fun r => #[.int .i32 r]
  pre := fun _ _ => True
  X := Int
  res := fun x => .int k x
  post := fun r w x w' => x = f r ∧ Ext w w'

structure GFind where
  b : Nat
  T : List (Int × Int)
  r : Int

def CellsT (w : World) (b : Nat) (T : List (Int × Int)) : Prop :=
  ∀ j, j < T.length → w.cell? ⟨b, 0 + j * 2, none⟩ = some (.int .i32 (T.getD j (0, 0)).1) ∧ w.cell? ⟨b, 0 + j * 2 + 1, none⟩ = some (.int .u8 (T.getD j (0, 0)).2)

def sFind : CallSpec where
  G := GFind
  args := fun g => #[.slice (some ⟨g.b, 0, none⟩) g.T.length g.T.length, .int .i32 g.r]
  pre := fun g w => CellsT w g.b g.T ∧ 0 < g.T.length ∧ g.T.length ≤ 1000 ∧ boundsOk g.T = true ∧ (g.T.getD 0 (0, 0)).1 = 0
  X := Int × Int
  res := fun x => .tuple #[.int .u8 x.1, .int .i32 x.2]
  post := fun g w x w' => FindOk g.T (knownF g.r) x.1 x.2 ∧ Ext w w'

def annFind (g : GFind) : Ann where
  sp := []
  loops := [(4, {
    X := Nat × Nat
    sh := fun _ x => [(6, .int .i64 x.1), (7, .int .i64 x.2)]
    inv := fun _ w0 x w => x.1 < x.2 ∧ x.2 ≤ g.T.length ∧ (g.T.getD x.1 (0, 0)).1 ≤ knownF g.r ∧ (x.2 = g.T.length ∨ knownF g.r < (g.T.getD x.2 (0, 0)).1) ∧ w = w0
    mu := fun _ _ x _ => x.2 - x.1 })]
  cuts := [(1, 2, { X := Unit, sh := fun _ _ => [(1, .int .i32 (knownF g.r))], inv := fun _ w0 _ w => w = w0 })]

/-- A table's function: the step's value and its last number. -/
def sTab (T : List (Int × Int)) : CallSpec where
  G := Int
  args := fun r => #[.int .i32 r]
  pre := fun _ _ => True
  X := Int × Int
  res := fun x => .tuple #[.int .u8 x.1, .int .i32 x.2]
  post := fun r w x w' => FindOk T (knownF r) x.1 x.2 ∧ Ext w w'

def sWide (p : World → World → Prop) : CallSpec where
  G := Int × Bool
  args := fun g => #[.int .i32 g.1, .bool g.2]
  pre := fun _ _ => True
  X := Int
  res := fun x => .int .i64 x
  post := fun g w x w' => x = wideR g.1 g.2 ∧ p w w'

def spKnown : List (Nat × CallSpec) := [(128, sRune .i32 knownF)]
def spFind : List (Nat × CallSpec) := [(130, sFind)]
--#vc known_vc 128 (sRune .i32 knownF) (annOf []) []
--#vc find_vc 130 sFind (fun g _ => annFind g) []
def spKind : List (Nat × CallSpec) := [(106, sTab kindT)]
--#vc rkind_vc 102 (sRune .i8 kindR) (annOf spKnown) spKnown
--#vc kinds_vc 106 (sTab kindT) (annOf spFind) spFind
--#vc ckind_vc 75 (sRuneX .i8 kindR) (annOf spKind) spKind
def spBreak : List (Nat × CallSpec) := [(100, sTab brkT)]
--#vc rbrk_vc 87 (sRune .i8 brkR) (annOf spKnown) spKnown
--#vc brks_vc 100 (sTab brkT) (annOf spFind) spFind
--#vc cbrk_vc 64 (sRuneX .i8 brkR) (annOf spBreak) spBreak
def spWid : List (Nat × CallSpec) := [(137, sTab widT)]
def spCol : List (Nat × CallSpec) := [(139, sRune .i64 widR)]
--#vc rwid_vc 139 (sRune .i64 widR) (annOf spKnown) spKnown
--#vc wids_vc 137 (sTab widT) (annOf spFind) spFind
--#vc rwide_vc 122 (sWide (fun w w' => w' = w)) (annOf spCol) spCol
--#vc cwide_vc 114 (sWide (fun w w' => Ext w w')) (annOf spWid) spWid

end Go.Proofs.YthpjkgoahneldaaDoor
end

section
/-
  Specifications, chapter 3: what a character is, the program's words and the document's.
-/
namespace Go.Proofs.YthpjkgoahneldaaDoor
open Go Go.RowKit Vc Tb Cl

/-- A test of a rune. -/
def sRB (f : Int → Bool) : CallSpec where
  G := Int
  args := fun r => #[.int .i32 r]
  pre := fun _ _ => True
  X := Bool
  res := fun x => .bool x
  post := fun r w x w' => x = f r ∧ Ext w w'
/-- A rune's number. -/
def sRN (f : Int → Nat) : CallSpec where
  G := Int
  args := fun r => #[.int .i32 r]
  pre := fun _ _ => True
  X := Nat
  res := fun x => .int .i64 x
  post := fun r w x w' => x = f r ∧ Ext w w'
def sTwoB (f : Int → Int → Bool) : CallSpec where
  G := Int × Int
  args := fun g => #[.int .i32 g.1, .int .i32 g.2]
  pre := fun _ _ => True
  X := Bool
  res := fun x => .bool x
  post := fun g w x w' => x = f g.1 g.2 ∧ Ext w w'
structure GTk where
  x : Int
  z : Int
  y : Int
  n : Nat
def sTakes : CallSpec where
  G := GTk
  args := fun g => #[.int .i32 g.x, .int .i32 g.z, .int .i32 g.y, .int .i64 g.n]
  pre := fun _ _ => True
  X := Bool
  res := fun x => .bool x
  post := fun g w x w' => x = takesB g.x g.z g.y g.n ∧ Ext w w'
/-- The program's numbers for parts of syllables. -/
def bitN : Nat → Nat
  | 1 => 1
  | 2 => 2
  | 3 => 4
  | 4 => 8
  | 5 => 16
  | _ => 0
def partP (r : Int) : Nat := bitN (partN r)

def spPic : List (Nat × CallSpec) := [(75, sRuneX .i8 kindR), (114, sWide (fun w w' => Ext w w'))]
def spRPic : List (Nat × CallSpec) := [(102, sRune .i8 kindR), (122, sWide (fun w w' => w' = w))]
def spAlone : List (Nat × CallSpec) := [(75, sRuneX .i8 kindR), (108, sRB joinB)]
def spRAlone : List (Nat × CallSpec) := [(102, sRune .i8 kindR), (118, sRB joinB)]
def spGoes : List (Nat × CallSpec) := [(131, sRN partP)]
def spSyl : List (Nat × CallSpec) := [(150, sRN partN)]
def spTakes : List (Nat × CallSpec) := [(102, sRune .i8 kindR), (118, sRB joinB), (121, sRB regB), (141, sRB picB), (142, sTwoB sylB)]

--#vc regional_vc 109 (sRB regB) (annOf []) []
--#vc joiner_vc 108 (sRB joinB) (annOf []) []
--#vc picture_vc 110 (sRB picB) (annOf spPic) spPic
--#vc alone_vc 107 (sRB aloneB) (annOf spAlone) spAlone
--#vc part_vc 131 (sRN partP) (annOf []) []
--#vc goesP_vc 111 (sTwoB sylB) (annOf spGoes) spGoes
--#vc rregional_vc 121 (sRB regB) (annOf []) []
--#vc rjoiner_vc 118 (sRB joinB) (annOf []) []
--#vc rpicture_vc 141 (sRB picB) (annOf spRPic) spRPic
--#vc ralone_vc 124 (sRB aloneB) (annOf spRAlone) spRAlone
--#vc rpart_vc 150 (sRN partN) (annOf []) []
--#vc syl_vc 142 (sTwoB sylB) (annOf spSyl) spSyl
--#vc takes_vc 125 sTakes (annOf spTakes) spTakes

end Go.Proofs.YthpjkgoahneldaaDoor
end

section
/-
  Specifications, chapter 1: one step of the decoders, the library's and the document's.
-/
namespace Go.Proofs.YthpjkgoahneldaaDoor
open Go Go.RowKit Vc Ut

/-- The library's two tables lie as they were laid. -/
def U8 (w : World) : Prop := Lib.Utf8Tabs 0 1 w

/-- A text's number and width. -/
def sDec (fr : ByteArray → Int) (fn : ByteArray → Nat) : CallSpec where
  G := ByteArray
  args := fun s => #[.string s]
  pre := fun s w => U8 w ∧ s.size ≤ 67108864
  X := Int × Nat
  res := fun x => .tuple #[.int .i32 x.1, .int .i64 x.2]
  post := fun s w x w' => x.1 = fr s ∧ x.2 = fn s ∧ Ext w w'

/-- A test of a text. -/
def sTest (f : ByteArray → Bool) : CallSpec where
  G := ByteArray
  args := fun s => #[.string s]
  pre := fun s w => U8 w ∧ s.size ≤ 67108864
  X := Bool
  res := fun x => .bool x
  post := fun s w x w' => x = f s ∧ Ext w w'


def sWithin : CallSpec where
  G := Nat × Nat × Nat
  args := fun g => #[.int .u8 g.1, .int .u8 g.2.1, .int .u8 g.2.2]
  pre := fun _ _ => True
  X := Bool
  res := fun x => .bool x
  post := fun g w x w' => x = decide (g.2.1 ≤ g.1 ∧ g.1 ≤ g.2.2) ∧ w' = w
def sSecond : CallSpec where
  G := Nat
  args := fun g => #[.int .u8 g]
  pre := fun _ _ => True
  X := Nat × Nat × Nat
  res := fun x => .tuple #[.int .u8 x.1, .int .u8 x.2.1, .int .i64 x.2.2]
  post := fun g w x w' => x = secN g ∧ w' = w
def sBegins : CallSpec where
  G := ByteArray
  args := fun s => #[.string s]
  pre := fun s _ => s.size ≤ 67108864
  X := Nat × Nat
  res := fun x => .tuple #[.int .i64 x.1, .int .i64 x.2]
  post := fun s w x w' => x.1 = begN s ∧ x.2 = begS s ∧ w' = w
def annBegins (s : ByteArray) (w00 : World) : Ann where
  sp := [(143, sSecond), (144, sWithin)]
  loops := [(9, {
    X := Nat
    sh := fun _ n => [(7, .int .i64 n), (4, .int .u8 (loB s n)), (5, .int .u8 (hiB s n))]
    inv := fun e w0 n w => w = w0 ∧ 1 ≤ n ∧ n ≤ (secN (bt s 0)).2.2 ∧ n ≤ s.size ∧ runB s ((secN (bt s 0)).2.2 - n) n = runB s ((secN (bt s 0)).2.2 - 1) 1
    mu := fun _ _ n _ => s.size - n })]
def sNumber : CallSpec where
  G := ByteArray
  args := fun s => #[.string s]
  pre := fun s _ => 1 ≤ s.size ∧ s.size ≤ 4
  X := Nat
  res := fun x => .int .i32 x
  post := fun s w x w' => x = numR s s.size ∧ Ext w w'
def annNumber (s : ByteArray) (w00 : World) : Ann where
  sp := []
  loops := [(4, {
    X := Nat
    sh := fun _ n => [(5, .int .i64 (n + 1)), (4, .int .i32 (numP s s.size n))]
    inv := fun _ w0 n w => n + 1 ≤ s.size ∧ Ext w0 w
    mu := fun _ _ n _ => s.size - n })]

def spSecond : List (Nat × CallSpec) := [(144, sWithin)]
def spBegins : List (Nat × CallSpec) := [(143, sSecond), (144, sWithin)]
def spRNext : List (Nat × CallSpec) := [(126, sBegins), (127, sNumber)]
def spRWhole : List (Nat × CallSpec) := [(126, sBegins)]
def spNext : List (Nat × CallSpec) := [(99, sDec nxR nxN)]
--#vc within_vc 144 sWithin (annOf []) []
--#vc second_vc 143 sSecond (annOf spSecond) spSecond
--#vc begins_vc 126 sBegins annBegins spBegins
--#vc number_vc 127 sNumber annNumber []
--#vc rnext_vc 86 (sDec nxR nxN) (annOf spRNext) spRNext
--#vc next_vc 63 (sDec nxR nxN) (annOf spNext) spNext
end Go.Proofs.YthpjkgoahneldaaDoor
end

section
/-
  Runes as bytes: the model's encoder in plain words.
-/
namespace Go.Proofs.YthpjkgoahneldaaDoor.Ut
open Go Vc

/-- The number that is laid for a number. -/
def encC (r : Int) : Nat := if 0 ≤ r ∧ r < 55296 ∨ 57344 ≤ r ∧ r ≤ 1114111 then r.toNat else 65533
def encN (c : Nat) : List Nat :=
  if c < 128 then [c] else if c < 2048 then [192 + c / 64, 128 + c % 64] else if c < 65536 then [224 + c / 4096, 128 + c / 64 % 64, 128 + c % 64]
  else [240 + c / 262144, 128 + c / 4096 % 64, 128 + c / 64 % 64, 128 + c % 64]
def encL (r : Int) : List Int := (encN (encC r)).map fun b : Nat => (b : Int)
theorem encC_le (r : Int) : encC r ≤ 1114111 := by unfold encC; split <;> omega
theorem encN_lt {c : Nat} (h : c ≤ 1114111) : ∀ b ∈ encN c, b < 256 := by
  unfold encN
  intro b hb
  repeat' split at hb
  all_goals simp only [List.mem_cons, List.not_mem_nil, or_false] at hb
  all_goals omega
theorem encN_len (c : Nat) : 1 ≤ (encN c).length ∧ (encN c).length ≤ 4 := by
  unfold encN
  repeat' split
  all_goals simp
theorem encL_len (r : Int) : 1 ≤ (encL r).length ∧ (encL r).length ≤ 4 := by unfold encL; rw [List.length_map]; exact encN_len _
theorem encode_eq (r : Int) : (Utf8.encode r).data.toList = (encN (encC r)).map UInt8.ofNat := by
  have hv : Utf8.valid r = decide (0 ≤ r ∧ r < 55296 ∨ 57344 ≤ r ∧ r ≤ 1114111) := by
    unfold Utf8.valid
    by_cases h : 0 ≤ r ∧ r < 55296 ∨ 57344 ≤ r ∧ r ≤ 1114111
    · rw [decide_eq_true h]; simp only [Bool.or_eq_true, Bool.and_eq_true, decide_eq_true_eq]; exact h
    · rw [decide_eq_false h]
      by_cases hh : (decide (0 ≤ r) && decide (r < 55296) || decide (57344 ≤ r) && decide (r ≤ 1114111)) = true
      · simp only [Bool.or_eq_true, Bool.and_eq_true, decide_eq_true_eq] at hh; exact absurd hh h
      · simpa using hh
  have hc : (if Utf8.valid r then r.toNat else Utf8.runeError) = encC r := by
    unfold encC; rw [hv]; simp only [decide_eq_true_eq]; rfl
  unfold Utf8.encode
  simp only [hc]
  unfold encN
  repeat' split
  all_goals rfl

/-- The bytes of numbers, as numbers. -/
theorem runesBytes_app (xs ys : List Int) : runesBytes (xs ++ ys) = runesBytes xs ++ runesBytes ys := by
  have key : ∀ (l : List Int) (s : ByteArray), l.foldl (fun r n => r ++ Utf8.encode n) s = s ++ l.foldl (fun r n => r ++ Utf8.encode n) ByteArray.empty := by
    intro l
    induction l with
    | nil => intro s; simp
    | cons x l ih => intro s; rw [List.foldl_cons, ih, List.foldl_cons, ih (ByteArray.empty ++ Utf8.encode x), ByteArray.empty_append, ByteArray.append_assoc]
  unfold runesBytes
  rw [List.foldl_append, key]
theorem runesBytes_cons (x : Int) (xs : List Int) : runesBytes (x :: xs) = Utf8.encode x ++ runesBytes xs := by
  have := runesBytes_app [x] xs
  rw [List.singleton_append] at this
  rw [this]; unfold runesBytes; simp
theorem runesBytes_list (xs : List Int) : (runesBytes xs).data.toList = (xs.flatMap fun r => encN (encC r)).map UInt8.ofNat := by
  induction xs with
  | nil => rfl
  | cons x xs ih =>
    rw [runesBytes_cons, ByteArray.data_append, Array.toList_append, ih, encode_eq, List.flatMap_cons, List.map_append]
theorem flat_encL (xs : List Int) : xs.flatMap encL = (xs.flatMap fun r => encN (encC r)).map fun b : Nat => (b : Int) := by
  induction xs with
  | nil => rfl
  | cons x xs ih => rw [List.flatMap_cons, List.flatMap_cons, List.map_append, ih]; rfl
theorem flat_encN_lt (xs : List Int) : ∀ b ∈ xs.flatMap fun r => encN (encC r), b < 256 := by
  intro b hb
  obtain ⟨x, _, hx⟩ := List.mem_flatMap.1 hb
  exact encN_lt (encC_le x) b hx
theorem runesBytes_size (xs : List Int) : (runesBytes xs).size = (xs.flatMap encL).length := by
  rw [← size_list, runesBytes_list, flat_encL, List.length_map, List.length_map]
theorem runesBytes_bt (xs : List Int) (j : Nat) (h : j < (xs.flatMap encL).length) : ((runesBytes xs).data.toList.getD j 0).toNat = ((xs.flatMap encL).getD j 0).toNat := by
  have hl := flat_encN_lt xs
  rw [runesBytes_list]
  rw [flat_encL, List.length_map] at h
  rw [flat_encL]
  simp only [List.getD_eq_getElem?_getD, List.getElem?_map, List.getElem?_eq_getElem h, Option.map_some, Option.getD_some]
  have := hl _ (List.getElem_mem h)
  rw [UInt8.toNat_ofNat']; omega
theorem flat_encL_len (xs : List Int) : (xs.flatMap encL).length ≤ 4 * xs.length := by
  induction xs with
  | nil => simp
  | cons x xs ih => have := encL_len x; rw [List.flatMap_cons, List.length_append, List.length_cons]; omega
theorem flat_encL_nonneg (xs : List Int) : ∀ b ∈ xs.flatMap encL, 0 ≤ b ∧ b < 256 := by
  intro b hb
  rw [flat_encL] at hb
  obtain ⟨n, hn, rfl⟩ := List.mem_map.1 hb
  have := flat_encN_lt xs n hn
  omega

end Go.Proofs.YthpjkgoahneldaaDoor.Ut
end

section
/-
  Specifications, chapter 1: whole texts: the document's lists, the program's.
-/
namespace Go.Proofs.YthpjkgoahneldaaDoor
open Go Go.RowKit Vc Ut

def oneV (s : ByteArray) (n : Nat) : List Value := [.int .i64 (pos s n), .int .i32 (dcR s (pos s n)), .int .i64 (dcN s (pos s n)), .bool (isBad s n)]

def spAll : List (Nat × CallSpec) := [(86, sDec nxR nxN)]
def allN (s : ByteArray) : List Nat := List.range (cnt s)
def backN (s : ByteArray) : List Nat := (List.range (cnt s)).map fun k => cnt s - 1 - k
/-- A text's list of numbers. -/
def sSL (k : IntKind) (e : TypeId) (f : ByteArray → List Int) : CallSpec where
  G := ByteArray
  args := fun s => #[.string s]
  pre := fun s w => U8 w ∧ s.size ≤ 67108864
  X := Option Addr × Nat × Nat
  res := fun x => .slice x.1 x.2.1 x.2.2
  post := fun s w x w' => x.2.1 = (f s).length ∧ Made w w' e 1 x.1 x.2.1 ((f s).map (Value.int k)) x.2.2
def badT (s : ByteArray) (n : Nat) : List Int := ((List.range n).filter (isBad s)).map fun n => (pos s n : Int)
def spBad : List (Nat × CallSpec) := [(99, sDec nxR nxN)]
def annBad (s : ByteArray) (w00 : World) : Ann where
  sp := spBad
  loops := [(3, {
    X := Nat × Option Addr × Nat
    sh := fun _ x => [(3, .slice x.2.1 (badT s x.1).length x.2.2)]
    inv := fun e w0 x w => x.1 ≤ cnt s ∧ Made w00 w 3 1 x.2.1 (badT s x.1).length ((badT s x.1).map (Value.int .i64)) x.2.2 ∧ ∃ b, gv e 9 = .pointer (some ⟨b, 0, none⟩) ∧ w00.heap.size ≤ b ∧ w.heap[b]? = some (.stringIter s (pos s x.1))
    mu := fun _ _ x _ => cnt s - x.1 })]
/-- A text's number. -/
def sSN (f : ByteArray → Nat) : CallSpec where
  G := ByteArray
  args := fun s => #[.string s]
  pre := fun s w => U8 w ∧ s.size ≤ 67108864
  X := Nat
  res := fun x => .int .i64 x
  post := fun s w x w' => x = f s ∧ Ext w w'
/-- A text out of a text. -/
def sSS (f : ByteArray → ByteArray) : CallSpec where
  G := ByteArray
  args := fun s => #[.string s]
  pre := fun s w => U8 w ∧ s.size ≤ 67108864
  X := ByteArray
  res := fun x => .string x
  post := fun s w x w' => x = f s ∧ Ext w w'
/-- A text out of numbers. -/
def sLS (f : List Int → ByteArray) : CallSpec where
  G := GSl
  args := fun g => #[.slice g.ad g.xs.length g.c]
  pre := fun g w => g.at .i32 w ∧ g.xs.length ≤ 67108864
  X := ByteArray
  res := fun x => .string x
  post := fun g w x w' => x = f g.xs ∧ Ext w w'

structure GPut where
  W : World
  ad : Option Addr
  c : Nat
  vs : List Int
  r : Int
def sPut : CallSpec where
  G := GPut
  args := fun g => #[.slice g.ad g.vs.length g.c, .int .i32 g.r]
  pre := fun g w => Made g.W w 5 1 g.ad g.vs.length (g.vs.map (Value.int .u8)) g.c ∧ g.vs.length ≤ 1073741824
  X := Option Addr × Nat × Nat
  res := fun x => .slice x.1 x.2.1 x.2.2
  post := fun g w x w' => x.2.1 = (g.vs ++ encL g.r).length ∧ Made g.W w' 5 1 x.1 x.2.1 ((g.vs ++ encL g.r).map (Value.int .u8)) x.2.2
def annPut (g : GPut) (w00 : World) : Ann where
  sp := []
  cuts := [(1, 2, { X := Unit, sh := fun _ _ => [(1, .int .i32 (encC g.r : Int))], inv := fun _ w0 _ w => w = w0 })]
end Go.Proofs.YthpjkgoahneldaaDoor
end
