/-
  Verification conditions, printed by a program out of the specifications beside this text: each theorem says that the condition suffices. (Lean's kernel compares the printed condition with what 'wpE' computes.)
-/
import Derived.Test.YtniiamobbgnjaaaDoorSpP
import Derived.Test.YtniiamobbgnjaaaDoorProg
import Derived.KernelRfl
set_option linter.unusedVariables false
namespace Go.Proofs.YtniiamobbgnjaaaDoor
open Go Go.RowKit Vc Tb Cl

set_option maxRecDepth 1000000 in
theorem regional_vc (hsp : SpecsOk Tryd.prog []) (h : ∀ (g : Int) (w : World),
True →
∃ (x : Bool),
Value.bool (decide ((127462 : Int) ≤ g) && decide (g ≤ (127487 : Int))) = Value.bool x ∧ x = regB g ∧ Ext w w) :
    ((sRB regB)).Ok Tryd.prog 38 :=
  ok_of_vc (sRB regB) (annOf []) [] (fun _ _ => rfl) (fun _ _ => rfl) hsp Tryd.func38 rfl (n := 1) (fun _ => rfl) (by kernel_rfl) (vcast (by kernel_rfl) h)

set_option maxRecDepth 1000000 in
theorem joiner_vc (hsp : SpecsOk Tryd.prog []) (h : ∀ (g : Int) (w : World),
True → ∃ (x : Bool), Value.bool (g == (8204 : Int) || g == (8205 : Int)) = Value.bool x ∧ x = joinB g ∧ Ext w w) :
    ((sRB joinB)).Ok Tryd.prog 37 :=
  ok_of_vc (sRB joinB) (annOf []) [] (fun _ _ => rfl) (fun _ _ => rfl) hsp Tryd.func37 rfl (n := 1) (fun _ => rfl) (by kernel_rfl) (vcast (by kernel_rfl) h)

set_option maxRecDepth 1000000 in
theorem picture_vc (hsp : SpecsOk Tryd.prog spPic) (h : ∀ (g : Int) (w : World),
True →
∃ (g1 : Int),
#[Value.int IntKind.i32 g] = #[Value.int IntKind.i32 g1] ∧
True ∧
∀ (x : Int) (w' : World),
x = kindR g1 ∧ Ext w w' →
bcase (x == (7 : Int))
(∃ (g2 : Int × Bool),
#[Value.int IntKind.i32 g, Value.bool false] = #[Value.int IntKind.i32 g2.fst, Value.bool g2.snd] ∧
True ∧
∀ (x1 : Int) (w'1 : World),
x1 = wideR g2.fst g2.snd ∧ Ext w' w'1 →
∃ (x2 : Bool), Value.bool (x1 == (2 : Int)) = Value.bool x2 ∧ x2 = picB g ∧ Ext w w'1)
(∃ (x1 : Bool), Value.bool false = Value.bool x1 ∧ x1 = picB g ∧ Ext w w')) :
    ((sRB picB)).Ok Tryd.prog 39 :=
  ok_of_vc (sRB picB) (annOf spPic) spPic (fun _ _ => rfl) (fun _ _ => rfl) hsp Tryd.func39 rfl (n := 1) (fun _ => rfl) (by kernel_rfl) (vcast (by kernel_rfl) h)

set_option maxRecDepth 1000000 in
theorem alone_vc (hsp : SpecsOk Tryd.prog spAlone) (h : ∀ (g : Int) (w : World),
True →
∃ (g1 : Int),
#[Value.int IntKind.i32 g] = #[Value.int IntKind.i32 g1] ∧
True ∧
∀ (x : Int) (w' : World),
x = kindR g1 ∧ Ext w w' →
bcase (x == (0 : Int)) (∃ (x1 : Bool), Value.bool true = Value.bool x1 ∧ x1 = aloneB g ∧ Ext w w')
(bcase (x == (1 : Int))
(∃ (g2 : Int),
#[Value.int IntKind.i32 g] = #[Value.int IntKind.i32 g2] ∧
True ∧
∀ (x1 : Bool) (w'1 : World),
x1 = joinB g2 ∧ Ext w' w'1 → ∃ (x2 : Bool), (Value.bool !x1) = Value.bool x2 ∧ x2 = aloneB g ∧ Ext w w'1)
(∃ (x1 : Bool), Value.bool (g == (8232 : Int) || g == (8233 : Int)) = Value.bool x1 ∧ x1 = aloneB g ∧ Ext w w'))) :
    ((sRB aloneB)).Ok Tryd.prog 35 :=
  ok_of_vc (sRB aloneB) (annOf spAlone) spAlone (fun _ _ => rfl) (fun _ _ => rfl) hsp Tryd.func35 rfl (n := 1) (fun _ => rfl) (by kernel_rfl) (vcast (by kernel_rfl) h)

set_option maxRecDepth 1000000 in
theorem part_vc (hsp : SpecsOk Tryd.prog []) (h : ∀ (g : Int) (w : World),
True →
bcase (decide (g < (4352 : Int)) || decide (g > (55203 : Int)))
(∃ (x : Nat), Value.int IntKind.i64 (0 : Int) = Value.int IntKind.i64 (↑x : Int) ∧ x = partP g ∧ Ext w w)
(bcase (decide (g ≤ (4447 : Int)))
(∃ (x : Nat), Value.int IntKind.i64 (1 : Int) = Value.int IntKind.i64 (↑x : Int) ∧ x = partP g ∧ Ext w w)
(bcase (decide (g ≤ (4519 : Int)))
(∃ (x : Nat), Value.int IntKind.i64 (2 : Int) = Value.int IntKind.i64 (↑x : Int) ∧ x = partP g ∧ Ext w w)
(bcase (decide (g ≤ (4607 : Int)))
(∃ (x : Nat), Value.int IntKind.i64 (4 : Int) = Value.int IntKind.i64 (↑x : Int) ∧ x = partP g ∧ Ext w w)
(bcase (decide (g < (44032 : Int)))
(∃ (x : Nat), Value.int IntKind.i64 (0 : Int) = Value.int IntKind.i64 (↑x : Int) ∧ x = partP g ∧ Ext w w)
(InR IntKind.i32 (g - (44032 : Int)) ∧
(0 : Int) ≤ g - (44032 : Int) ∧
(0 : Int) < (28 : Int) ∧
bcase ((g - (44032 : Int)) % (28 : Int) == (0 : Int))
(∃ (x : Nat), Value.int IntKind.i64 (8 : Int) = Value.int IntKind.i64 (↑x : Int) ∧ x = partP g ∧ Ext w w)
(∃ (x : Nat), Value.int IntKind.i64 (16 : Int) = Value.int IntKind.i64 (↑x : Int) ∧ x = partP g ∧ Ext w w))))))) :
    ((sRN partP)).Ok Tryd.prog 50 :=
  ok_of_vc (sRN partP) (annOf []) [] (fun _ _ => rfl) (fun _ _ => rfl) hsp Tryd.func50 rfl (n := 1) (fun _ => rfl) (by kernel_rfl) (vcast (by kernel_rfl) h)

set_option maxRecDepth 1000000 in
theorem goesP_vc (hsp : SpecsOk Tryd.prog spGoes) (h : ∀ (g : Int × Int) (w : World),
True →
∃ (g1 : Int),
#[Value.int IntKind.i32 g.fst] = #[Value.int IntKind.i32 g1] ∧
True ∧
∀ (x : Nat) (w' : World),
x = partP g1 ∧ Ext w w' →
bcase ((↑x : Int) == (1 : Int))
(∃ (g2 : Int),
#[Value.int IntKind.i32 g.snd] = #[Value.int IntKind.i32 g2] ∧
True ∧
∀ (x1 : Nat) (w'1 : World),
x1 = partP g2 ∧ Ext w' w'1 →
∃ (x2 : Bool),
Value.bool
(IntKind.i64.wrap
(↑(BitVec.ofInt IntKind.i64.bits (27 : Int) &&& BitVec.ofInt IntKind.i64.bits (↑x1 : Int)).toNat : Int) !=
(0 : Int)) =
Value.bool x2 ∧
x2 = sylB g.fst g.snd ∧ Ext w w'1)
(bcase ((↑x : Int) == (2 : Int) || (↑x : Int) == (8 : Int))
(∃ (g2 : Int),
#[Value.int IntKind.i32 g.snd] = #[Value.int IntKind.i32 g2] ∧
True ∧
∀ (x1 : Nat) (w'1 : World),
x1 = partP g2 ∧ Ext w' w'1 →
∃ (x2 : Bool),
Value.bool
(IntKind.i64.wrap
(↑(BitVec.ofInt IntKind.i64.bits (6 : Int) &&& BitVec.ofInt IntKind.i64.bits (↑x1 : Int)).toNat : Int) !=
(0 : Int)) =
Value.bool x2 ∧
x2 = sylB g.fst g.snd ∧ Ext w w'1)
(bcase ((↑x : Int) == (4 : Int) || (↑x : Int) == (16 : Int))
(∃ (g2 : Int),
#[Value.int IntKind.i32 g.snd] = #[Value.int IntKind.i32 g2] ∧
True ∧
∀ (x1 : Nat) (w'1 : World),
x1 = partP g2 ∧ Ext w' w'1 →
∃ (x2 : Bool),
Value.bool
(IntKind.i64.wrap
(↑(BitVec.ofInt IntKind.i64.bits (4 : Int) &&& BitVec.ofInt IntKind.i64.bits (↑x1 : Int)).toNat : Int) !=
(0 : Int)) =
Value.bool x2 ∧
x2 = sylB g.fst g.snd ∧ Ext w w'1)
(∃ (g2 : Int),
#[Value.int IntKind.i32 g.snd] = #[Value.int IntKind.i32 g2] ∧
True ∧
∀ (x1 : Nat) (w'1 : World),
x1 = partP g2 ∧ Ext w' w'1 → ∃ (x2 : Bool), Value.bool false = Value.bool x2 ∧ x2 = sylB g.fst g.snd ∧ Ext w w'1)))) :
    ((sTwoB sylB)).Ok Tryd.prog 40 :=
  ok_of_vc (sTwoB sylB) (annOf spGoes) spGoes (fun _ _ => rfl) (fun _ _ => rfl) hsp Tryd.func40 rfl (n := 2) (fun _ => rfl) (by kernel_rfl) (vcast (by kernel_rfl) h)

set_option maxRecDepth 1000000 in
theorem rregional_vc (hsp : SpecsOk Tryd.prog []) (h : ∀ (g : Int) (w : World),
True →
∃ (x : Bool),
Value.bool (decide (g ≥ (127462 : Int)) && decide (g ≤ (127487 : Int))) = Value.bool x ∧ x = regB g ∧ Ext w w) :
    ((sRB regB)).Ok Tryd.prog 56 :=
  ok_of_vc (sRB regB) (annOf []) [] (fun _ _ => rfl) (fun _ _ => rfl) hsp Tryd.func56 rfl (n := 1) (fun _ => rfl) (by kernel_rfl) (vcast (by kernel_rfl) h)

set_option maxRecDepth 1000000 in
theorem rjoiner_vc (hsp : SpecsOk Tryd.prog []) (h : ∀ (g : Int) (w : World),
True → ∃ (x : Bool), Value.bool (g == (8204 : Int) || g == (8205 : Int)) = Value.bool x ∧ x = joinB g ∧ Ext w w) :
    ((sRB joinB)).Ok Tryd.prog 55 :=
  ok_of_vc (sRB joinB) (annOf []) [] (fun _ _ => rfl) (fun _ _ => rfl) hsp Tryd.func55 rfl (n := 1) (fun _ => rfl) (by kernel_rfl) (vcast (by kernel_rfl) h)

set_option maxRecDepth 1000000 in
theorem rpicture_vc (hsp : SpecsOk Tryd.prog spRPic) (h : ∀ (g : Int) (w : World),
True →
∃ (g1 : Int),
#[Value.int IntKind.i32 g] = #[Value.int IntKind.i32 g1] ∧
True ∧
∀ (x : Int) (w' : World),
x = kindR g1 ∧ w' = w →
bcase (x == (7 : Int))
(∃ (g2 : Int × Bool),
#[Value.int IntKind.i32 g, Value.bool false] = #[Value.int IntKind.i32 g2.fst, Value.bool g2.snd] ∧
True ∧
∀ (x1 : Int) (w'1 : World),
x1 = wideR g2.fst g2.snd ∧ w'1 = w' →
∃ (x2 : Bool), Value.bool (x1 == (2 : Int)) = Value.bool x2 ∧ x2 = picB g ∧ Ext w w'1)
(∃ (x1 : Bool), Value.bool false = Value.bool x1 ∧ x1 = picB g ∧ Ext w w')) :
    ((sRB picB)).Ok Tryd.prog 57 :=
  ok_of_vc (sRB picB) (annOf spRPic) spRPic (fun _ _ => rfl) (fun _ _ => rfl) hsp Tryd.func57 rfl (n := 1) (fun _ => rfl) (by kernel_rfl) (vcast (by kernel_rfl) h)

set_option maxRecDepth 1000000 in
theorem ralone_vc (hsp : SpecsOk Tryd.prog spRAlone) (h : ∀ (g : Int) (w : World),
True →
∃ (g1 : Int),
#[Value.int IntKind.i32 g] = #[Value.int IntKind.i32 g1] ∧
True ∧
∀ (x : Int) (w' : World),
x = kindR g1 ∧ w' = w →
bcase (x == (0 : Int)) (∃ (x1 : Bool), Value.bool true = Value.bool x1 ∧ x1 = aloneB g ∧ Ext w w')
(bcase (g == (8232 : Int)) (∃ (x1 : Bool), Value.bool true = Value.bool x1 ∧ x1 = aloneB g ∧ Ext w w')
(bcase (g == (8233 : Int)) (∃ (x1 : Bool), Value.bool true = Value.bool x1 ∧ x1 = aloneB g ∧ Ext w w')
(bcase (x == (1 : Int))
(∃ (g2 : Int),
#[Value.int IntKind.i32 g] = #[Value.int IntKind.i32 g2] ∧
True ∧
∀ (x1 : Bool) (w'1 : World),
x1 = joinB g2 ∧ Ext w' w'1 → ∃ (x2 : Bool), (Value.bool !x1) = Value.bool x2 ∧ x2 = aloneB g ∧ Ext w w'1)
(∃ (x1 : Bool), Value.bool false = Value.bool x1 ∧ x1 = aloneB g ∧ Ext w w'))))) :
    ((sRB aloneB)).Ok Tryd.prog 45 :=
  ok_of_vc (sRB aloneB) (annOf spRAlone) spRAlone (fun _ _ => rfl) (fun _ _ => rfl) hsp Tryd.func45 rfl (n := 1) (fun _ => rfl) (by kernel_rfl) (vcast (by kernel_rfl) h)

set_option maxRecDepth 1000000 in
theorem rpart_vc (hsp : SpecsOk Tryd.prog []) (h : ∀ (g : Int) (w : World),
True →
bcase (decide (g ≥ (4352 : Int)) && decide (g ≤ (4447 : Int)))
(∃ (x : Nat), Value.int IntKind.i64 (1 : Int) = Value.int IntKind.i64 (↑x : Int) ∧ x = partN g ∧ Ext w w)
(bcase (decide (g ≥ (4448 : Int)) && decide (g ≤ (4519 : Int)))
(∃ (x : Nat), Value.int IntKind.i64 (2 : Int) = Value.int IntKind.i64 (↑x : Int) ∧ x = partN g ∧ Ext w w)
(bcase (decide (g ≥ (4520 : Int)) && decide (g ≤ (4607 : Int)))
(∃ (x : Nat), Value.int IntKind.i64 (3 : Int) = Value.int IntKind.i64 (↑x : Int) ∧ x = partN g ∧ Ext w w)
(bcase (decide (g ≥ (44032 : Int)))
(bcase (decide (g ≤ (55203 : Int)))
(InR IntKind.i32 (g - (44032 : Int)) ∧
(0 : Int) ≤ g - (44032 : Int) ∧
(0 : Int) < (28 : Int) ∧
bcase ((g - (44032 : Int)) % (28 : Int) == (0 : Int))
(∃ (x : Nat), Value.int IntKind.i64 (4 : Int) = Value.int IntKind.i64 (↑x : Int) ∧ x = partN g ∧ Ext w w)
(bcase (decide (g ≥ (44032 : Int)) && decide (g ≤ (55203 : Int)))
(∃ (x : Nat), Value.int IntKind.i64 (5 : Int) = Value.int IntKind.i64 (↑x : Int) ∧ x = partN g ∧ Ext w w)
(∃ (x : Nat), Value.int IntKind.i64 (0 : Int) = Value.int IntKind.i64 (↑x : Int) ∧ x = partN g ∧ Ext w w)))
(bcase (decide (g ≥ (44032 : Int)) && decide (g ≤ (55203 : Int)))
(∃ (x : Nat), Value.int IntKind.i64 (5 : Int) = Value.int IntKind.i64 (↑x : Int) ∧ x = partN g ∧ Ext w w)
(∃ (x : Nat), Value.int IntKind.i64 (0 : Int) = Value.int IntKind.i64 (↑x : Int) ∧ x = partN g ∧ Ext w w)))
(bcase (decide (g ≥ (44032 : Int)) && decide (g ≤ (55203 : Int)))
(∃ (x : Nat), Value.int IntKind.i64 (5 : Int) = Value.int IntKind.i64 (↑x : Int) ∧ x = partN g ∧ Ext w w)
(∃ (x : Nat), Value.int IntKind.i64 (0 : Int) = Value.int IntKind.i64 (↑x : Int) ∧ x = partN g ∧ Ext w w)))))) :
    ((sRN partN)).Ok Tryd.prog 65 :=
  ok_of_vc (sRN partN) (annOf []) [] (fun _ _ => rfl) (fun _ _ => rfl) hsp Tryd.func65 rfl (n := 1) (fun _ => rfl) (by kernel_rfl) (vcast (by kernel_rfl) h)

set_option maxRecDepth 1000000 in
theorem syl_vc (hsp : SpecsOk Tryd.prog spSyl) (h : ∀ (g : Int × Int) (w : World),
True →
∃ (g1 : Int),
#[Value.int IntKind.i32 g.fst] = #[Value.int IntKind.i32 g1] ∧
True ∧
∀ (x : Nat) (w' : World),
x = partN g1 ∧ Ext w w' →
∃ (g2 : Int),
#[Value.int IntKind.i32 g.snd] = #[Value.int IntKind.i32 g2] ∧
True ∧
∀ (x1 : Nat) (w'1 : World),
x1 = partN g2 ∧ Ext w' w'1 →
bcase ((↑x : Int) == (1 : Int))
(∃ (x2 : Bool),
Value.bool
((↑x1 : Int) == (1 : Int) || ((↑x1 : Int) == (2 : Int) || ((↑x1 : Int) == (4 : Int) || (↑x1 : Int) == (5 : Int)))) =
Value.bool x2 ∧
x2 = sylB g.fst g.snd ∧ Ext w w'1)
(bcase ((↑x : Int) == (2 : Int) || (↑x : Int) == (4 : Int))
(∃ (x2 : Bool),
Value.bool ((↑x1 : Int) == (2 : Int) || (↑x1 : Int) == (3 : Int)) = Value.bool x2 ∧ x2 = sylB g.fst g.snd ∧ Ext w w'1)
(bcase ((↑x : Int) == (3 : Int) || (↑x : Int) == (5 : Int))
(∃ (x2 : Bool), Value.bool ((↑x1 : Int) == (3 : Int)) = Value.bool x2 ∧ x2 = sylB g.fst g.snd ∧ Ext w w'1)
(∃ (x2 : Bool), Value.bool false = Value.bool x2 ∧ x2 = sylB g.fst g.snd ∧ Ext w w'1)))) :
    ((sTwoB sylB)).Ok Tryd.prog 58 :=
  ok_of_vc (sTwoB sylB) (annOf spSyl) spSyl (fun _ _ => rfl) (fun _ _ => rfl) hsp Tryd.func58 rfl (n := 2) (fun _ => rfl) (by kernel_rfl) (vcast (by kernel_rfl) h)

set_option maxRecDepth 1000000 in
theorem takes_vc (hsp : SpecsOk Tryd.prog spTakes) (h : ∀ (g : GTk) (w : World),
True →
∃ (g1 : Int),
#[Value.int IntKind.i32 g.y] = #[Value.int IntKind.i32 g1] ∧
True ∧
∀ (x : Int) (w' : World),
x = kindR g1 ∧ w' = w →
bcase (x == (2 : Int)) (∃ (x1 : Bool), Value.bool true = Value.bool x1 ∧ x1 = takesB g.x g.z g.y g.n ∧ Ext w w')
(∃ (g2 : Int),
#[Value.int IntKind.i32 g.y] = #[Value.int IntKind.i32 g2] ∧
True ∧
∀ (x1 : Bool) (w'1 : World),
x1 = joinB g2 ∧ Ext w' w'1 →
bcase x1 (∃ (x2 : Bool), Value.bool true = Value.bool x2 ∧ x2 = takesB g.x g.z g.y g.n ∧ Ext w w'1)
(bcase ((↑g.n : Int) == (1 : Int))
(∃ (g3 : Int),
#[Value.int IntKind.i32 g.x] = #[Value.int IntKind.i32 g3] ∧
True ∧
∀ (x2 : Bool) (w'2 : World),
x2 = regB g3 ∧ Ext w'1 w'2 →
bcase x2
(∃ (g4 : Int),
#[Value.int IntKind.i32 g.y] = #[Value.int IntKind.i32 g4] ∧
True ∧
∀ (x3 : Bool) (w'3 : World),
x3 = regB g4 ∧ Ext w'2 w'3 →
bcase x3 (∃ (x4 : Bool), Value.bool true = Value.bool x4 ∧ x4 = takesB g.x g.z g.y g.n ∧ Ext w w'3)
(bcase (g.z == (8205 : Int))
(∃ (g5 : Int),
#[Value.int IntKind.i32 g.x] = #[Value.int IntKind.i32 g5] ∧
True ∧
∀ (x4 : Bool) (w'4 : World),
x4 = picB g5 ∧ Ext w'3 w'4 →
bcase x4
(∃ (g6 : Int),
#[Value.int IntKind.i32 g.y] = #[Value.int IntKind.i32 g6] ∧
True ∧
∀ (x5 : Bool) (w'5 : World),
x5 = picB g6 ∧ Ext w'4 w'5 →
bcase x5 (∃ (x6 : Bool), Value.bool true = Value.bool x6 ∧ x6 = takesB g.x g.z g.y g.n ∧ Ext w w'5)
(∃ (g7 : Int × Int),
#[Value.int IntKind.i32 g.z, Value.int IntKind.i32 g.y] =
#[Value.int IntKind.i32 g7.fst, Value.int IntKind.i32 g7.snd] ∧
True ∧
∀ (x6 : Bool) (w'6 : World),
x6 = sylB g7.fst g7.snd ∧ Ext w'5 w'6 →
∃ (x7 : Bool), Value.bool x6 = Value.bool x7 ∧ x7 = takesB g.x g.z g.y g.n ∧ Ext w w'6))
(∃ (g6 : Int × Int),
#[Value.int IntKind.i32 g.z, Value.int IntKind.i32 g.y] =
#[Value.int IntKind.i32 g6.fst, Value.int IntKind.i32 g6.snd] ∧
True ∧
∀ (x5 : Bool) (w'5 : World),
x5 = sylB g6.fst g6.snd ∧ Ext w'4 w'5 →
∃ (x6 : Bool), Value.bool x5 = Value.bool x6 ∧ x6 = takesB g.x g.z g.y g.n ∧ Ext w w'5))
(∃ (g5 : Int × Int),
#[Value.int IntKind.i32 g.z, Value.int IntKind.i32 g.y] =
#[Value.int IntKind.i32 g5.fst, Value.int IntKind.i32 g5.snd] ∧
True ∧
∀ (x4 : Bool) (w'4 : World),
x4 = sylB g5.fst g5.snd ∧ Ext w'3 w'4 →
∃ (x5 : Bool), Value.bool x4 = Value.bool x5 ∧ x5 = takesB g.x g.z g.y g.n ∧ Ext w w'4)))
(bcase (g.z == (8205 : Int))
(∃ (g4 : Int),
#[Value.int IntKind.i32 g.x] = #[Value.int IntKind.i32 g4] ∧
True ∧
∀ (x3 : Bool) (w'3 : World),
x3 = picB g4 ∧ Ext w'2 w'3 →
bcase x3
(∃ (g5 : Int),
#[Value.int IntKind.i32 g.y] = #[Value.int IntKind.i32 g5] ∧
True ∧
∀ (x4 : Bool) (w'4 : World),
x4 = picB g5 ∧ Ext w'3 w'4 →
bcase x4 (∃ (x5 : Bool), Value.bool true = Value.bool x5 ∧ x5 = takesB g.x g.z g.y g.n ∧ Ext w w'4)
(∃ (g6 : Int × Int),
#[Value.int IntKind.i32 g.z, Value.int IntKind.i32 g.y] =
#[Value.int IntKind.i32 g6.fst, Value.int IntKind.i32 g6.snd] ∧
True ∧
∀ (x5 : Bool) (w'5 : World),
x5 = sylB g6.fst g6.snd ∧ Ext w'4 w'5 →
∃ (x6 : Bool), Value.bool x5 = Value.bool x6 ∧ x6 = takesB g.x g.z g.y g.n ∧ Ext w w'5))
(∃ (g5 : Int × Int),
#[Value.int IntKind.i32 g.z, Value.int IntKind.i32 g.y] =
#[Value.int IntKind.i32 g5.fst, Value.int IntKind.i32 g5.snd] ∧
True ∧
∀ (x4 : Bool) (w'4 : World),
x4 = sylB g5.fst g5.snd ∧ Ext w'3 w'4 →
∃ (x5 : Bool), Value.bool x4 = Value.bool x5 ∧ x5 = takesB g.x g.z g.y g.n ∧ Ext w w'4))
(∃ (g4 : Int × Int),
#[Value.int IntKind.i32 g.z, Value.int IntKind.i32 g.y] =
#[Value.int IntKind.i32 g4.fst, Value.int IntKind.i32 g4.snd] ∧
True ∧
∀ (x3 : Bool) (w'3 : World),
x3 = sylB g4.fst g4.snd ∧ Ext w'2 w'3 →
∃ (x4 : Bool), Value.bool x3 = Value.bool x4 ∧ x4 = takesB g.x g.z g.y g.n ∧ Ext w w'3)))
(bcase (g.z == (8205 : Int))
(∃ (g3 : Int),
#[Value.int IntKind.i32 g.x] = #[Value.int IntKind.i32 g3] ∧
True ∧
∀ (x2 : Bool) (w'2 : World),
x2 = picB g3 ∧ Ext w'1 w'2 →
bcase x2
(∃ (g4 : Int),
#[Value.int IntKind.i32 g.y] = #[Value.int IntKind.i32 g4] ∧
True ∧
∀ (x3 : Bool) (w'3 : World),
x3 = picB g4 ∧ Ext w'2 w'3 →
bcase x3 (∃ (x4 : Bool), Value.bool true = Value.bool x4 ∧ x4 = takesB g.x g.z g.y g.n ∧ Ext w w'3)
(∃ (g5 : Int × Int),
#[Value.int IntKind.i32 g.z, Value.int IntKind.i32 g.y] =
#[Value.int IntKind.i32 g5.fst, Value.int IntKind.i32 g5.snd] ∧
True ∧
∀ (x4 : Bool) (w'4 : World),
x4 = sylB g5.fst g5.snd ∧ Ext w'3 w'4 →
∃ (x5 : Bool), Value.bool x4 = Value.bool x5 ∧ x5 = takesB g.x g.z g.y g.n ∧ Ext w w'4))
(∃ (g4 : Int × Int),
#[Value.int IntKind.i32 g.z, Value.int IntKind.i32 g.y] =
#[Value.int IntKind.i32 g4.fst, Value.int IntKind.i32 g4.snd] ∧
True ∧
∀ (x3 : Bool) (w'3 : World),
x3 = sylB g4.fst g4.snd ∧ Ext w'2 w'3 →
∃ (x4 : Bool), Value.bool x3 = Value.bool x4 ∧ x4 = takesB g.x g.z g.y g.n ∧ Ext w w'3))
(∃ (g3 : Int × Int),
#[Value.int IntKind.i32 g.z, Value.int IntKind.i32 g.y] =
#[Value.int IntKind.i32 g3.fst, Value.int IntKind.i32 g3.snd] ∧
True ∧
∀ (x2 : Bool) (w'2 : World),
x2 = sylB g3.fst g3.snd ∧ Ext w'1 w'2 →
∃ (x3 : Bool), Value.bool x2 = Value.bool x3 ∧ x3 = takesB g.x g.z g.y g.n ∧ Ext w w'2))))) :
    (sTakes).Ok Tryd.prog 46 :=
  ok_of_vc sTakes (annOf spTakes) spTakes (fun _ _ => rfl) (fun _ _ => rfl) hsp Tryd.func46 rfl (n := 4) (fun _ => rfl) (by kernel_rfl) (vcast (by kernel_rfl) h)

end Go.Proofs.YtniiamobbgnjaaaDoor
