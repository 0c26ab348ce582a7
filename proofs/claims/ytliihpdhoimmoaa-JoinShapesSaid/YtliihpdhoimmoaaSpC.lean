/-
  Specifications, chapter 11: shapes; the law's own helpers.
-/
import Derived.Test.YtliihpdhoimmoaaSpB
import Derived.Test.YtliihpdhoimmoaaPlD
set_option linter.unusedVariables false
set_option linter.unusedSimpArgs false
namespace Go.Proofs.Ytliihpdhoimmoaa
open Go Go.RowKit Vc Tb

/-- lent: a copy with two guards behind it. -/
def sLent : CallSpec where
  G := GSl
  args := fun g => #[.slice g.ad g.xs.length g.c]
  pre := fun g w => g.at .i32 w
  X := Nat × Nat
  res := fun x => .slice (some ⟨x.1, 0, none⟩) x.2 (x.2 + 2)
  post := fun g w x w' => x.2 = g.xs.length ∧ Made w w' 21 1 (some ⟨x.1, 0, none⟩) (g.xs.length + 2) ((g.xs ++ [-9, -9]).map (Value.int .i32)) (g.xs.length + 2)

def annNone {α : Type} (sp : List (Nat × CallSpec)) (_ : α) : Ann := { sp := sp }

structure GKept where
  ad : Option Addr
  g : GSl

def sKept : CallSpec where
  G := GKept
  args := fun k => #[.slice k.ad k.g.xs.length (k.g.xs.length + 2), .slice k.g.ad k.g.xs.length k.g.c]
  pre := fun k w => CellsAt w k.ad ((k.g.xs ++ [-9, -9]).map (Value.int .i32)) ∧ k.g.at .i32 w
  X := Unit
  res := fun _ => .bool true
  post := fun _ w _ w' => Ext w w'

def annKept (k : GKept) (w00 : World) : Ann where
  sp := []
  loops := [(3, {
    X := Nat
    sh := fun _ x => [(14, .int .i64 x)]
    inv := fun _ _ x w => x ≤ k.g.xs.length + 2 ∧ Ext w00 w
    mu := fun _ _ x _ => k.g.xs.length + 2 - x })]

/-- Two answers that are alike. -/
structure GFresh where
  a : Option Addr
  b : Option Addr
  n : Nat
  ca : Nat
  cb : Nat
  va : List Value
  vb : List Value
  one : Int
  two : Int

def GFresh.S (g : GFresh) : Nat → Prop := fun q => blk g.a = some q ∨ blk g.b = some q

def sFresh (k : IntKind) (e : TypeId) : CallSpec where
  G := GFresh
  args := fun g => #[.slice g.a g.n g.ca, .slice g.b g.n g.cb, .int k g.one, .int k g.two]
  pre := fun g w => Row w e 1 g.a g.n g.va g.ca ∧ Row w e 1 g.b g.n g.vb g.cb ∧ (∀ q, blk g.a = some q → blk g.b ≠ some q) ∧ g.n ≤ 35184372087808
  X := Unit
  res := fun _ => .bool true
  post := fun g w _ w' => Fr g.S w w'

structure XFresh where
  i : Nat
  x : Option Addr
  cx : Nat
  y : Option Addr
  cy : Nat

/-- (ad', m, c') has grown out of (ad, n): all its cells are v, and so are those of (ad, n). -/
def Grown1 (w0 w : World) (e : TypeId) (v : Value) (ad : Option Addr) (n : Nat) (ad' : Option Addr) (m c' : Nat) : Prop :=
  Row w e 1 ad' m (List.replicate m v) c' ∧ CellsAt w ad (List.replicate n v) ∧ (ad' = ad ∨ ∀ q, blk ad' = some q → w0.heap.size ≤ q)

def annFresh (k : IntKind) (e : TypeId) (g : GFresh) (w00 : World) : Ann where
  sp := []
  loops := [(2, {
    X := Nat
    sh := fun _ i => [(17, .int .i64 i)]
    inv := fun _ _ i w => i ≤ g.n ∧ Row w e 1 g.a g.n (List.replicate i (.int k g.one) ++ g.va.drop i) g.ca ∧ Fr g.S w00 w ∧ Row w e 1 g.b g.n g.vb g.cb
    mu := fun _ _ i _ => g.n - i }), (7, {
    X := Nat
    sh := fun _ i => [(27, .int .i64 i)]
    inv := fun _ _ i w => i ≤ g.n ∧ Row w e 1 g.b g.n (List.replicate i (.int k g.two) ++ g.vb.drop i) g.cb ∧ Fr g.S w00 w ∧ Row w e 1 g.a g.n (List.replicate g.n (.int k g.one)) g.ca
    mu := fun _ _ i _ => g.n - i }), (13, {
    X := XFresh
    sh := fun _ q => [(37, .int .i64 q.i), (11, .slice q.x (g.n + q.i) q.cx), (12, .slice q.y (g.n + q.i) q.cy)]
    inv := fun _ _ q w => q.i ≤ 40 ∧ Grown1 w00 w e (.int k g.one) g.a g.n q.x (g.n + q.i) q.cx ∧ Grown1 w00 w e (.int k g.two) g.b g.n q.y (g.n + q.i) q.cy ∧ (∀ b, blk q.x = some b → blk q.y ≠ some b) ∧ Fr g.S w00 w
    mu := fun _ _ q _ => 40 - q.i }), (18, {
    X := Nat
    sh := fun _ i => [(50, .int .i64 i)]
    inv := fun _ w0 i w => i ≤ g.n + 40 ∧ Ext w0 w
    mu := fun _ _ i _ => g.n + 40 - i }), (24, {
    X := Nat
    sh := fun _ i => [(70, .int .i64 i)]
    inv := fun _ w0 i w => i ≤ g.n ∧ Ext w0 w
    mu := fun _ _ i _ => g.n - i })]

def lettersV : List Value := letterK.flatMap fun t => [.int .i32 t.1, .int .i32 t.2.1]

def sLetters : CallSpec where
  G := Unit
  args := fun _ => #[]
  pre := fun _ _ => True
  X := Nat
  res := fun b => .slice (some ⟨b, 0, none⟩) 36 36
  post := fun _ w b w' => CellsAt w' (some ⟨b, 0, none⟩) lettersV ∧ Ext w w'

/-- A number out of a rune and a form. -/
def sShape : CallSpec where
  G := Int × Int
  args := fun g => #[.int .i32 g.1, .int .i8 g.2]
  pre := fun _ _ => True
  X := Int
  res := fun x => .int .i32 x
  post := fun g w x w' => x = shapeOf g.1 g.2 ∧ Ext w w'

def spRShape : List (Nat × CallSpec) := [(30, sLetters), (28, sRune .i8 joinR)]
def annRShape (g : Int × Int) (w00 : World) : Ann where
  sp := spRShape
  loops := [(3, {
    X := Nat
    sh := fun _ i => [(6, .int .i64 i)]
    inv := fun _ w0 i w => i ≤ 36 ∧ lookK letterK g.1 = lookK (letterK.drop i) g.1 ∧ Ext w0 w
    mu := fun _ _ i _ => 36 - i })]

def spShape : List (Nat × CallSpec) := [(31, sRuneX .i32 firstA), (26, sRuneX .i8 joinR)]

def sPlain : CallSpec where
  G := Int
  args := fun r => #[.int .i32 r]
  pre := fun _ _ => True
  X := Option Addr × Nat × Nat
  res := fun x => .slice x.1 x.2.1 x.2.2
  post := fun r w x w' => x.2.1 = (plainR r).length ∧ Made w w' 21 1 x.1 x.2.1 ((plainR r).map (Value.int .i32)) x.2.2

def spRPlain : List (Nat × CallSpec) := [(30, sLetters), (24, sShape)]
def annRPlain (r : Int) (w00 : World) : Ann where
  sp := spRPlain
  loops := [(5, {
    X := Nat
    sh := fun _ i => [(4, .int .i64 i)]
    inv := fun _ w0 i w => i ≤ 36 ∧ findK letterK r = findK (letterK.drop i) r ∧ Ext w0 w
    mu := fun _ _ i _ => 36 - i }), (8, {
    X := Nat
    sh := fun _ j => [(5, .int .i8 j)]
    inv := fun e w0 j w => j ≤ 4 ∧ Ext w0 w ∧ (∀ f : Nat, f < j → shapeK (letterK.getD (gi e 4).toNat (0, 0, 0)).2.1 (letterK.getD (gi e 4).toNat (0, 0, 0)).2.2 f ≠ r)
    mu := fun _ _ j _ => 4 - j })]

def spPlain : List (Nat × CallSpec) := [(31, sRuneX .i32 firstA)]
def annPlain (r : Int) (w00 : World) : Ann where
  sp := spPlain
  loops := [(8, {
    X := Nat
    sh := fun _ i => [(5, .int .i32 (1569 + i)), (4, .int .i32 (letA r i))]
    inv := fun _ w0 i w => i ≤ 42 ∧ Ext w0 w
    mu := fun _ _ i _ => 42 - i })]

def spRShaped : List (Nat × CallSpec) := [(10, sList .i32 .i8 27 formsR), (24, sShape)]
def annRShaped (g : GSl) (w00 : World) : Ann where
  sp := spRShaped
  loops := [(4, {
    X := Nat × Option Addr × Nat
    sh := fun _ x => [(5, .int .i64 x.1), (3, .slice x.2.1 x.1 x.2.2)]
    inv := fun _ w0 x w => x.1 ≤ g.xs.length ∧ Made w0 w 21 1 x.2.1 x.1 (((shapedR g.xs).take x.1).map (Value.int .i32)) x.2.2
    mu := fun _ _ x _ => g.xs.length - x.1 })]

def spShaped : List (Nat × CallSpec) := [(12, sList .i32 .i8 27 formsR), (23, sShape)]
def annShaped (g : GSl) (w00 : World) : Ann where
  sp := spShaped
  loops := [(3, {
    X := Nat
    sh := fun _ x => [(12, .int .i64 x)]
    inv := fun e w0 x w => x ≤ g.xs.length ∧ ∃ b, gv e 3 = .slice (some ⟨b, 0, none⟩) g.xs.length g.xs.length ∧ Fr (fun q => q = b) w0 w ∧ Row w 21 1 (some ⟨b, 0, none⟩) g.xs.length (((shapedR g.xs).take x ++ List.replicate (g.xs.length - x) 0).map (Value.int .i32)) g.xs.length
    mu := fun _ _ x _ => g.xs.length - x })]

/-- .. of no great list. -/
def sListU (ki ko : IntKind) (e : TypeId) (f : List Int → List Int) : CallSpec where
  G := GSl
  args := fun g => #[.slice g.ad g.xs.length g.c]
  pre := fun g w => g.at ki w ∧ g.xs.length ≤ 4194304
  X := Option Addr × Nat × Nat
  res := fun x => .slice x.1 x.2.1 x.2.2
  post := fun g w x w' => x.2.1 = (f g.xs).length ∧ Made w w' e 1 x.1 x.2.1 ((f g.xs).map (Value.int ko)) x.2.2

def spPlainL : List (Nat × CallSpec) := [(22, sPlain)]
def annPlainL (g : GSl) (w00 : World) : Ann where
  sp := spPlainL
  loops := [(3, {
    X := Nat × Option Addr × Nat
    sh := fun _ x => [(8, .int .i64 x.1), (3, .slice x.2.1 ((g.xs.take x.1).flatMap plainR).length x.2.2)]
    inv := fun _ w0 x w => x.1 ≤ g.xs.length ∧ Made w0 w 21 1 x.2.1 ((g.xs.take x.1).flatMap plainR).length (((g.xs.take x.1).flatMap plainR).map (Value.int .i32)) x.2.2
    mu := fun _ _ x _ => g.xs.length - x.1 })]

/-- A law, asked nothing. -/
def sYes : CallSpec where
  G := Unit
  args := fun _ => #[]
  pre := fun _ _ => True
  X := Unit
  res := fun _ => .bool true
  post := fun _ w _ w' => Ext w w'

def spWorks : List (Nat × CallSpec) := [(12, sList .i32 .i8 27 formsR), (13, sSame .i8), (23, sShape),
  (18, sList .i32 .i32 21 shapedR), (19, sSame .i32), (22, sPlain)]

--#vc lent_vc 11 sLent (fun g _ => annNone [] g) []
--#vc kept_vc 14 sKept annKept []
--#vc fresh8_vc 15 (sFresh .i8 27) (annFresh .i8 27) []
--#vc fresh32_vc 20 (sFresh .i32 21) (annFresh .i32 21) []
--#vc letters_vc 30 sLetters (fun g _ => annNone [] g) []
--#vc rshape_vc 24 sShape annRShape spRShape
--#vc first_vc 31 (sRuneX .i32 firstA) (fun g _ => annNone [] g) []
--#vc shape_vc 23 sShape (fun g _ => annNone spShape g) spShape
--#vc rplain_vc 21 sPlain annRPlain spRPlain
--#vc plain_vc 22 sPlain annPlain spPlain
--#vc rshaped_vc 17 (sList .i32 .i32 21 shapedR) annRShaped spRShaped
--#vc shaped_vc 18 (sList .i32 .i32 21 shapedR) annShaped spShaped
--#vc plainl_vc 25 (sListU .i32 .i32 21 (fun xs => xs.flatMap plainR)) annPlainL spPlainL
--#vc works_vc 16 sYes (fun g _ => annNone spWorks g) spWorks

end Go.Proofs.Ytliihpdhoimmoaa
