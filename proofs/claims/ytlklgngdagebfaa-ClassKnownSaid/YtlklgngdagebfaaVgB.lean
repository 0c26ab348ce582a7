/-
  Verification conditions, printed by a program out of the specifications beside this text: each theorem says that the condition suffices. (Lean's kernel compares the printed condition with what 'wpE' computes.)
-/
import Derived.Test.YtlklgngdagebfaaSpB
import Derived.Test.YtlklgngdagebfaaProg
import Derived.KernelRfl
set_option linter.unusedVariables false
namespace Go.Proofs.Ytlklgngdagebfaa
open Go Go.RowKit Vc Tb

set_option maxRecDepth 1000000 in
theorem pair_vc (hsp : SpecsOk Try.prog []) (h : ∀ (g : Int) (w : World),
True →
(∃ (x : Nat),
Value.int IntKind.i64 (0 : Int) = Value.int IntKind.i64 (↑x : Int) ∧
w = w ∧ x ≤ (30 : Nat) ∧ ∀ (j : Nat), j < x → braL.getD j (0 : Int) ≠ g) ∧
∀ (u : Nat → Value) (x : Nat) (w' : World),
(w' = w ∧ x ≤ (30 : Nat) ∧ ∀ (j : Nat), j < x → braL.getD j (0 : Int) ≠ g) →
bcase (decide ((↑x : Int) < (30 : Int)))
(∃ (k : Nat),
(↑x : Int) = (↑k : Int) ∧
k < (30 : Nat) ∧
∃ (n : Int),
(Array.foldl (fun (cs : Array Value) (x : Value × Nat) => cs.setIfInBounds ((29 : Nat) * (1 : Nat) + x.snd) x.fst)
(Array.foldl (fun (cs : Array Value) (x : Value × Nat) => cs.setIfInBounds ((28 : Nat) * (1 : Nat) + x.snd) x.fst)
(Array.foldl (fun (cs : Array Value) (x : Value × Nat) => cs.setIfInBounds ((27 : Nat) * (1 : Nat) + x.snd) x.fst)
(Array.foldl (fun (cs : Array Value) (x : Value × Nat) => cs.setIfInBounds ((26 : Nat) * (1 : Nat) + x.snd) x.fst)
(Array.foldl (fun (cs : Array Value) (x : Value × Nat) => cs.setIfInBounds ((25 : Nat) * (1 : Nat) + x.snd) x.fst)
(Array.foldl (fun (cs : Array Value) (x : Value × Nat) => cs.setIfInBounds ((24 : Nat) * (1 : Nat) + x.snd) x.fst)
(Array.foldl (fun (cs : Array Value) (x : Value × Nat) => cs.setIfInBounds ((23 : Nat) * (1 : Nat) + x.snd) x.fst)
(Array.foldl (fun (cs : Array Value) (x : Value × Nat) => cs.setIfInBounds ((22 : Nat) * (1 : Nat) + x.snd) x.fst)
(Array.foldl (fun (cs : Array Value) (x : Value × Nat) => cs.setIfInBounds ((21 : Nat) * (1 : Nat) + x.snd) x.fst)
(Array.foldl (fun (cs : Array Value) (x : Value × Nat) => cs.setIfInBounds ((20 : Nat) * (1 : Nat) + x.snd) x.fst)
(Array.foldl (fun (cs : Array Value) (x : Value × Nat) => cs.setIfInBounds ((19 : Nat) * (1 : Nat) + x.snd) x.fst)
(Array.foldl (fun (cs : Array Value) (x : Value × Nat) => cs.setIfInBounds ((18 : Nat) * (1 : Nat) + x.snd) x.fst)
(Array.foldl (fun (cs : Array Value) (x : Value × Nat) => cs.setIfInBounds ((17 : Nat) * (1 : Nat) + x.snd) x.fst)
(Array.foldl (fun (cs : Array Value) (x : Value × Nat) => cs.setIfInBounds ((16 : Nat) * (1 : Nat) + x.snd) x.fst)
(Array.foldl (fun (cs : Array Value) (x : Value × Nat) => cs.setIfInBounds ((15 : Nat) * (1 : Nat) + x.snd) x.fst)
(Array.foldl (fun (cs : Array Value) (x : Value × Nat) => cs.setIfInBounds ((14 : Nat) * (1 : Nat) + x.snd) x.fst)
(Array.foldl (fun (cs : Array Value) (x : Value × Nat) => cs.setIfInBounds ((13 : Nat) * (1 : Nat) + x.snd) x.fst)
(Array.foldl (fun (cs : Array Value) (x : Value × Nat) => cs.setIfInBounds ((12 : Nat) * (1 : Nat) + x.snd) x.fst)
(Array.foldl (fun (cs : Array Value) (x : Value × Nat) => cs.setIfInBounds ((11 : Nat) * (1 : Nat) + x.snd) x.fst)
(Array.foldl (fun (cs : Array Value) (x : Value × Nat) => cs.setIfInBounds ((10 : Nat) * (1 : Nat) + x.snd) x.fst)
(Array.foldl (fun (cs : Array Value) (x : Value × Nat) => cs.setIfInBounds ((9 : Nat) * (1 : Nat) + x.snd) x.fst)
(Array.foldl (fun (cs : Array Value) (x : Value × Nat) => cs.setIfInBounds ((8 : Nat) * (1 : Nat) + x.snd) x.fst)
(Array.foldl (fun (cs : Array Value) (x : Value × Nat) => cs.setIfInBounds ((7 : Nat) * (1 : Nat) + x.snd) x.fst)
(Array.foldl (fun (cs : Array Value) (x : Value × Nat) => cs.setIfInBounds ((6 : Nat) * (1 : Nat) + x.snd) x.fst)
(Array.foldl (fun (cs : Array Value) (x : Value × Nat) => cs.setIfInBounds ((5 : Nat) * (1 : Nat) + x.snd) x.fst)
(Array.foldl (fun (cs : Array Value) (x : Value × Nat) => cs.setIfInBounds ((4 : Nat) * (1 : Nat) + x.snd) x.fst)
(Array.foldl (fun (cs : Array Value) (x : Value × Nat) => cs.setIfInBounds ((3 : Nat) * (1 : Nat) + x.snd) x.fst)
(Array.foldl (fun (cs : Array Value) (x : Value × Nat) => cs.setIfInBounds ((2 : Nat) * (1 : Nat) + x.snd) x.fst)
(Array.foldl (fun (cs : Array Value) (x : Value × Nat) => cs.setIfInBounds ((1 : Nat) * (1 : Nat) + x.snd) x.fst)
(Array.foldl (fun (cs : Array Value) (x : Value × Nat) => cs.setIfInBounds ((0 : Nat) * (1 : Nat) + x.snd) x.fst)
(Value.agg
#[Value.int IntKind.i32 (0 : Int), Value.int IntKind.i32 (0 : Int), Value.int IntKind.i32 (0 : Int),
Value.int IntKind.i32 (0 : Int), Value.int IntKind.i32 (0 : Int), Value.int IntKind.i32 (0 : Int),
Value.int IntKind.i32 (0 : Int), Value.int IntKind.i32 (0 : Int), Value.int IntKind.i32 (0 : Int),
Value.int IntKind.i32 (0 : Int), Value.int IntKind.i32 (0 : Int), Value.int IntKind.i32 (0 : Int),
Value.int IntKind.i32 (0 : Int), Value.int IntKind.i32 (0 : Int), Value.int IntKind.i32 (0 : Int),
Value.int IntKind.i32 (0 : Int), Value.int IntKind.i32 (0 : Int), Value.int IntKind.i32 (0 : Int),
Value.int IntKind.i32 (0 : Int), Value.int IntKind.i32 (0 : Int), Value.int IntKind.i32 (0 : Int),
Value.int IntKind.i32 (0 : Int), Value.int IntKind.i32 (0 : Int), Value.int IntKind.i32 (0 : Int),
Value.int IntKind.i32 (0 : Int), Value.int IntKind.i32 (0 : Int), Value.int IntKind.i32 (0 : Int),
Value.int IntKind.i32 (0 : Int), Value.int IntKind.i32 (0 : Int), Value.int IntKind.i32 (0 : Int)]).cells
(Value.int IntKind.i32 (40 : Int)).cells.zipIdx)
(Value.int IntKind.i32 (41 : Int)).cells.zipIdx)
(Value.int IntKind.i32 (91 : Int)).cells.zipIdx)
(Value.int IntKind.i32 (93 : Int)).cells.zipIdx)
(Value.int IntKind.i32 (123 : Int)).cells.zipIdx)
(Value.int IntKind.i32 (125 : Int)).cells.zipIdx)
(Value.int IntKind.i32 (12296 : Int)).cells.zipIdx)
(Value.int IntKind.i32 (12297 : Int)).cells.zipIdx)
(Value.int IntKind.i32 (12298 : Int)).cells.zipIdx)
(Value.int IntKind.i32 (12299 : Int)).cells.zipIdx)
(Value.int IntKind.i32 (12300 : Int)).cells.zipIdx)
(Value.int IntKind.i32 (12301 : Int)).cells.zipIdx)
(Value.int IntKind.i32 (12302 : Int)).cells.zipIdx)
(Value.int IntKind.i32 (12303 : Int)).cells.zipIdx)
(Value.int IntKind.i32 (12304 : Int)).cells.zipIdx)
(Value.int IntKind.i32 (12305 : Int)).cells.zipIdx)
(Value.int IntKind.i32 (12308 : Int)).cells.zipIdx)
(Value.int IntKind.i32 (12309 : Int)).cells.zipIdx)
(Value.int IntKind.i32 (12310 : Int)).cells.zipIdx)
(Value.int IntKind.i32 (12311 : Int)).cells.zipIdx)
(Value.int IntKind.i32 (12312 : Int)).cells.zipIdx)
(Value.int IntKind.i32 (12313 : Int)).cells.zipIdx)
(Value.int IntKind.i32 (12314 : Int)).cells.zipIdx)
(Value.int IntKind.i32 (12315 : Int)).cells.zipIdx)
(Value.int IntKind.i32 (65288 : Int)).cells.zipIdx)
(Value.int IntKind.i32 (65289 : Int)).cells.zipIdx)
(Value.int IntKind.i32 (65339 : Int)).cells.zipIdx)
(Value.int IntKind.i32 (65341 : Int)).cells.zipIdx)
(Value.int IntKind.i32 (65371 : Int)).cells.zipIdx)
(Value.int IntKind.i32 (65373 : Int)).cells.zipIdx)[k]? =
some (Value.int IntKind.i32 n) ∧
bcase (n == g)
(bcase
(bif decide ((↑x : Int) < (6 : Int)) then decide ((↑x : Int) > (1 : Int)) || decide (g ≥ (65339 : Int))
else decide (g ≥ (65339 : Int)))
((0 : Int) ≤ (↑x : Int) ∧
(0 : Int) < (2 : Int) ∧
bcase ((↑x : Int) % (2 : Int) != (0 : Int))
(InR IntKind.i32 (g + IntKind.i32.wrap ((0 : Int) - (2 : Int))) ∧
(0 : Int) ≤ (↑x : Int) ∧
(0 : Int) < (2 : Int) ∧
∃ (x1 : Int × Bool × Bool),
Value.tuple
#[Value.int IntKind.i32 (g + IntKind.i32.wrap ((0 : Int) - (2 : Int))),
Value.bool ((↑x : Int) % (2 : Int) == (0 : Int)), Value.bool true] =
Value.tuple #[Value.int IntKind.i32 x1.fst, Value.bool x1.snd.fst, Value.bool x1.snd.snd] ∧
x1 = pairF g ∧ Ext w w')
(InR IntKind.i32 (g + (2 : Int)) ∧
(0 : Int) ≤ (↑x : Int) ∧
(0 : Int) < (2 : Int) ∧
∃ (x1 : Int × Bool × Bool),
Value.tuple
#[Value.int IntKind.i32 (g + (2 : Int)), Value.bool ((↑x : Int) % (2 : Int) == (0 : Int)), Value.bool true] =
Value.tuple #[Value.int IntKind.i32 x1.fst, Value.bool x1.snd.fst, Value.bool x1.snd.snd] ∧
x1 = pairF g ∧ Ext w w'))
((0 : Int) ≤ (↑x : Int) ∧
(0 : Int) < (2 : Int) ∧
bcase ((↑x : Int) % (2 : Int) != (0 : Int))
(InR IntKind.i32 (g + IntKind.i32.wrap ((0 : Int) - (1 : Int))) ∧
(0 : Int) ≤ (↑x : Int) ∧
(0 : Int) < (2 : Int) ∧
∃ (x1 : Int × Bool × Bool),
Value.tuple
#[Value.int IntKind.i32 (g + IntKind.i32.wrap ((0 : Int) - (1 : Int))),
Value.bool ((↑x : Int) % (2 : Int) == (0 : Int)), Value.bool true] =
Value.tuple #[Value.int IntKind.i32 x1.fst, Value.bool x1.snd.fst, Value.bool x1.snd.snd] ∧
x1 = pairF g ∧ Ext w w')
(InR IntKind.i32 (g + (1 : Int)) ∧
(0 : Int) ≤ (↑x : Int) ∧
(0 : Int) < (2 : Int) ∧
∃ (x1 : Int × Bool × Bool),
Value.tuple
#[Value.int IntKind.i32 (g + (1 : Int)), Value.bool ((↑x : Int) % (2 : Int) == (0 : Int)), Value.bool true] =
Value.tuple #[Value.int IntKind.i32 x1.fst, Value.bool x1.snd.fst, Value.bool x1.snd.snd] ∧
x1 = pairF g ∧ Ext w w')))
(InR IntKind.i64 ((↑x : Int) + (1 : Int)) ∧
∃ (y : Nat),
Value.int IntKind.i64 ((↑x : Int) + (1 : Int)) = Value.int IntKind.i64 (↑y : Int) ∧
(w' = w ∧ y ≤ (30 : Nat) ∧ ∀ (j : Nat), j < y → braL.getD j (0 : Int) ≠ g) ∧ (30 : Nat) - y < (30 : Nat) - x))
(∃ (x1 : Int × Bool × Bool),
Value.tuple #[Value.int IntKind.i32 (0 : Int), Value.bool false, Value.bool false] =
Value.tuple #[Value.int IntKind.i32 x1.fst, Value.bool x1.snd.fst, Value.bool x1.snd.snd] ∧
x1 = pairF g ∧ Ext w w')) :
    (sPair).Ok Try.prog 24 :=
  ok_of_vc sPair annPair [] (fun _ _ => rfl) (fun _ _ => rfl) hsp Try.func24 rfl (n := 1) (fun _ => rfl) (by kernel_rfl) (vcast (by kernel_rfl) h)

set_option maxRecDepth 1000000 in
theorem mirror_vc (hsp : SpecsOk Try.prog spMir) (h : ∀ (g : Int) (w : World),
True →
∃ (g1 : Int),
#[Value.int IntKind.i32 g] = #[Value.int IntKind.i32 g1] ∧
True ∧
∀ (x : Int × Bool × Bool) (w' : World),
x = pairF g1 ∧ Ext w w' →
bcase x.snd.snd (∃ (x1 : Int), Value.int IntKind.i32 x.fst = Value.int IntKind.i32 x1 ∧ x1 = mirF g ∧ Ext w w')
(bcase (g == (60 : Int) || g == (65308 : Int))
(InR IntKind.i32 (g + (2 : Int)) ∧
∃ (x1 : Int), Value.int IntKind.i32 (g + (2 : Int)) = Value.int IntKind.i32 x1 ∧ x1 = mirF g ∧ Ext w w')
(bcase (g == (62 : Int) || g == (65310 : Int))
(InR IntKind.i32 (g - (2 : Int)) ∧
∃ (x1 : Int), Value.int IntKind.i32 (g - (2 : Int)) = Value.int IntKind.i32 x1 ∧ x1 = mirF g ∧ Ext w w')
(bcase (g == (171 : Int))
(∃ (x1 : Int), Value.int IntKind.i32 (187 : Int) = Value.int IntKind.i32 x1 ∧ x1 = mirF g ∧ Ext w w')
(bcase (g == (187 : Int))
(∃ (x1 : Int), Value.int IntKind.i32 (171 : Int) = Value.int IntKind.i32 x1 ∧ x1 = mirF g ∧ Ext w w')
(bcase (g == (8249 : Int) || g == (8250 : Int))
(InR IntKind.i32 ((16499 : Int) - g) ∧
∃ (x1 : Int), Value.int IntKind.i32 ((16499 : Int) - g) = Value.int IntKind.i32 x1 ∧ x1 = mirF g ∧ Ext w w')
(bcase (g == (8804 : Int) || g == (8805 : Int))
(InR IntKind.i32 ((17609 : Int) - g) ∧
∃ (x1 : Int), Value.int IntKind.i32 ((17609 : Int) - g) = Value.int IntKind.i32 x1 ∧ x1 = mirF g ∧ Ext w w')
(∃ (x1 : Int), Value.int IntKind.i32 g = Value.int IntKind.i32 x1 ∧ x1 = mirF g ∧ Ext w w')))))))) :
    ((sRuneX .i32 mirF)).Ok Try.prog 26 :=
  ok_of_vc (sRuneX .i32 mirF) (annOf spMir) spMir (fun _ _ => rfl) (fun _ _ => rfl) hsp Try.func26 rfl (n := 1) (fun _ => rfl) (by kernel_rfl) (vcast (by kernel_rfl) h)

set_option maxRecDepth 1000000 in
theorem bras_vc (hsp : SpecsOk Try.prog []) (h : ∀ (g : Unit) (w : World),
True →
∀ (b : Nat) (w1 : World),
New w
(Obj.cells
#[Value.int IntKind.i32 (40 : Int), Value.int IntKind.i32 (41 : Int), Value.int IntKind.i32 (91 : Int),
Value.int IntKind.i32 (93 : Int), Value.int IntKind.i32 (123 : Int), Value.int IntKind.i32 (125 : Int),
Value.int IntKind.i32 (12296 : Int), Value.int IntKind.i32 (12297 : Int), Value.int IntKind.i32 (12298 : Int),
Value.int IntKind.i32 (12299 : Int), Value.int IntKind.i32 (12300 : Int), Value.int IntKind.i32 (12301 : Int),
Value.int IntKind.i32 (12302 : Int), Value.int IntKind.i32 (12303 : Int), Value.int IntKind.i32 (12304 : Int),
Value.int IntKind.i32 (12305 : Int), Value.int IntKind.i32 (12308 : Int), Value.int IntKind.i32 (12309 : Int),
Value.int IntKind.i32 (12310 : Int), Value.int IntKind.i32 (12311 : Int), Value.int IntKind.i32 (12312 : Int),
Value.int IntKind.i32 (12313 : Int), Value.int IntKind.i32 (12314 : Int), Value.int IntKind.i32 (12315 : Int),
Value.int IntKind.i32 (65288 : Int), Value.int IntKind.i32 (65289 : Int), Value.int IntKind.i32 (65339 : Int),
Value.int IntKind.i32 (65341 : Int), Value.int IntKind.i32 (65371 : Int), Value.int IntKind.i32 (65373 : Int)]
(21 : Nat))
b w1 →
∃ (x : Option Addr × Nat),
Value.slice (some { block := b, off := (0 : Nat) }) (30 : Nat) (30 : Nat) = Value.slice x.fst (30 : Nat) x.snd ∧
Made w w1 (21 : TypeId) (1 : Nat) x.fst braL.length (List.map (Value.int IntKind.i32) braL) x.snd) :
    ((sLit braL)).Ok Try.prog 40 :=
  ok_of_vc (sLit braL) (annOf []) [] (fun _ _ => rfl) (fun _ _ => rfl) hsp Try.func40 rfl (n := 0) (fun _ => rfl) (by kernel_rfl) (vcast (by kernel_rfl) h)

set_option maxRecDepth 1000000 in
theorem mirs_vc (hsp : SpecsOk Try.prog []) (h : ∀ (g : Unit) (w : World),
True →
∀ (b : Nat) (w1 : World),
New w
(Obj.cells
#[Value.int IntKind.i32 (60 : Int), Value.int IntKind.i32 (62 : Int), Value.int IntKind.i32 (171 : Int),
Value.int IntKind.i32 (187 : Int), Value.int IntKind.i32 (8249 : Int), Value.int IntKind.i32 (8250 : Int),
Value.int IntKind.i32 (8804 : Int), Value.int IntKind.i32 (8805 : Int), Value.int IntKind.i32 (65308 : Int),
Value.int IntKind.i32 (65310 : Int)]
(21 : Nat))
b w1 →
∃ (x : Option Addr × Nat),
Value.slice (some { block := b, off := (0 : Nat) }) (10 : Nat) (10 : Nat) = Value.slice x.fst (10 : Nat) x.snd ∧
Made w w1 (21 : TypeId) (1 : Nat) x.fst mirL.length (List.map (Value.int IntKind.i32) mirL) x.snd) :
    ((sLit mirL)).Ok Try.prog 42 :=
  ok_of_vc (sLit mirL) (annOf []) [] (fun _ _ => rfl) (fun _ _ => rfl) hsp Try.func42 rfl (n := 0) (fun _ => rfl) (by kernel_rfl) (vcast (by kernel_rfl) h)

set_option maxRecDepth 1000000 in
theorem bords_vc (hsp : SpecsOk Try.prog []) (h : ∀ (g : Unit) (w : World),
True →
∀ (b : Nat) (w1 : World),
New w
(Obj.cells
#[Value.int IntKind.i32 (0 : Int), Value.int IntKind.i32 (9 : Int), Value.int IntKind.i32 (10 : Int),
Value.int IntKind.i32 (11 : Int), Value.int IntKind.i32 (12 : Int), Value.int IntKind.i32 (13 : Int),
Value.int IntKind.i32 (14 : Int), Value.int IntKind.i32 (28 : Int), Value.int IntKind.i32 (31 : Int),
Value.int IntKind.i32 (32 : Int), Value.int IntKind.i32 (33 : Int), Value.int IntKind.i32 (34 : Int),
Value.int IntKind.i32 (35 : Int), Value.int IntKind.i32 (36 : Int), Value.int IntKind.i32 (37 : Int),
Value.int IntKind.i32 (38 : Int), Value.int IntKind.i32 (40 : Int), Value.int IntKind.i32 (41 : Int),
Value.int IntKind.i32 (42 : Int), Value.int IntKind.i32 (43 : Int), Value.int IntKind.i32 (44 : Int),
Value.int IntKind.i32 (45 : Int), Value.int IntKind.i32 (46 : Int), Value.int IntKind.i32 (48 : Int),
Value.int IntKind.i32 (58 : Int), Value.int IntKind.i32 (59 : Int), Value.int IntKind.i32 (60 : Int),
Value.int IntKind.i32 (63 : Int), Value.int IntKind.i32 (64 : Int), Value.int IntKind.i32 (65 : Int),
Value.int IntKind.i32 (91 : Int), Value.int IntKind.i32 (92 : Int), Value.int IntKind.i32 (93 : Int),
Value.int IntKind.i32 (94 : Int), Value.int IntKind.i32 (95 : Int), Value.int IntKind.i32 (96 : Int),
Value.int IntKind.i32 (97 : Int), Value.int IntKind.i32 (123 : Int), Value.int IntKind.i32 (124 : Int),
Value.int IntKind.i32 (125 : Int), Value.int IntKind.i32 (126 : Int), Value.int IntKind.i32 (127 : Int),
Value.int IntKind.i32 (133 : Int), Value.int IntKind.i32 (134 : Int), Value.int IntKind.i32 (160 : Int),
Value.int IntKind.i32 (161 : Int), Value.int IntKind.i32 (162 : Int), Value.int IntKind.i32 (164 : Int),
Value.int IntKind.i32 (165 : Int), Value.int IntKind.i32 (166 : Int), Value.int IntKind.i32 (167 : Int),
Value.int IntKind.i32 (168 : Int), Value.int IntKind.i32 (169 : Int), Value.int IntKind.i32 (170 : Int),
Value.int IntKind.i32 (171 : Int), Value.int IntKind.i32 (172 : Int), Value.int IntKind.i32 (173 : Int),
Value.int IntKind.i32 (174 : Int), Value.int IntKind.i32 (175 : Int), Value.int IntKind.i32 (176 : Int),
Value.int IntKind.i32 (178 : Int), Value.int IntKind.i32 (180 : Int), Value.int IntKind.i32 (181 : Int),
Value.int IntKind.i32 (182 : Int), Value.int IntKind.i32 (184 : Int), Value.int IntKind.i32 (185 : Int),
Value.int IntKind.i32 (186 : Int), Value.int IntKind.i32 (187 : Int), Value.int IntKind.i32 (188 : Int),
Value.int IntKind.i32 (191 : Int), Value.int IntKind.i32 (192 : Int), Value.int IntKind.i32 (215 : Int),
Value.int IntKind.i32 (216 : Int), Value.int IntKind.i32 (247 : Int), Value.int IntKind.i32 (248 : Int),
Value.int IntKind.i32 (768 : Int), Value.int IntKind.i32 (789 : Int), Value.int IntKind.i32 (790 : Int),
Value.int IntKind.i32 (794 : Int), Value.int IntKind.i32 (795 : Int), Value.int IntKind.i32 (796 : Int),
Value.int IntKind.i32 (801 : Int), Value.int IntKind.i32 (803 : Int), Value.int IntKind.i32 (807 : Int),
Value.int IntKind.i32 (809 : Int), Value.int IntKind.i32 (820 : Int), Value.int IntKind.i32 (825 : Int),
Value.int IntKind.i32 (829 : Int), Value.int IntKind.i32 (837 : Int), Value.int IntKind.i32 (838 : Int),
Value.int IntKind.i32 (839 : Int), Value.int IntKind.i32 (842 : Int), Value.int IntKind.i32 (845 : Int),
Value.int IntKind.i32 (847 : Int), Value.int IntKind.i32 (848 : Int), Value.int IntKind.i32 (851 : Int),
Value.int IntKind.i32 (855 : Int), Value.int IntKind.i32 (856 : Int), Value.int IntKind.i32 (857 : Int),
Value.int IntKind.i32 (859 : Int), Value.int IntKind.i32 (860 : Int), Value.int IntKind.i32 (861 : Int),
Value.int IntKind.i32 (863 : Int), Value.int IntKind.i32 (864 : Int), Value.int IntKind.i32 (866 : Int),
Value.int IntKind.i32 (867 : Int), Value.int IntKind.i32 (880 : Int), Value.int IntKind.i32 (884 : Int),
Value.int IntKind.i32 (886 : Int), Value.int IntKind.i32 (894 : Int), Value.int IntKind.i32 (895 : Int),
Value.int IntKind.i32 (896 : Int), Value.int IntKind.i32 (902 : Int), Value.int IntKind.i32 (903 : Int),
Value.int IntKind.i32 (904 : Int), Value.int IntKind.i32 (913 : Int), Value.int IntKind.i32 (938 : Int),
Value.int IntKind.i32 (945 : Int), Value.int IntKind.i32 (970 : Int), Value.int IntKind.i32 (1040 : Int),
Value.int IntKind.i32 (1104 : Int), Value.int IntKind.i32 (1154 : Int), Value.int IntKind.i32 (1155 : Int),
Value.int IntKind.i32 (1160 : Int), Value.int IntKind.i32 (1162 : Int), Value.int IntKind.i32 (1367 : Int),
Value.int IntKind.i32 (1377 : Int), Value.int IntKind.i32 (1416 : Int), Value.int IntKind.i32 (1417 : Int),
Value.int IntKind.i32 (1418 : Int), Value.int IntKind.i32 (1419 : Int), Value.int IntKind.i32 (1424 : Int),
Value.int IntKind.i32 (1425 : Int), Value.int IntKind.i32 (1456 : Int), Value.int IntKind.i32 (1457 : Int),
Value.int IntKind.i32 (1458 : Int), Value.int IntKind.i32 (1459 : Int), Value.int IntKind.i32 (1460 : Int),
Value.int IntKind.i32 (1461 : Int), Value.int IntKind.i32 (1462 : Int), Value.int IntKind.i32 (1463 : Int),
Value.int IntKind.i32 (1464 : Int), Value.int IntKind.i32 (1465 : Int), Value.int IntKind.i32 (1467 : Int),
Value.int IntKind.i32 (1468 : Int), Value.int IntKind.i32 (1469 : Int), Value.int IntKind.i32 (1470 : Int),
Value.int IntKind.i32 (1471 : Int), Value.int IntKind.i32 (1472 : Int), Value.int IntKind.i32 (1473 : Int),
Value.int IntKind.i32 (1474 : Int), Value.int IntKind.i32 (1475 : Int), Value.int IntKind.i32 (1476 : Int),
Value.int IntKind.i32 (1477 : Int), Value.int IntKind.i32 (1478 : Int), Value.int IntKind.i32 (1479 : Int),
Value.int IntKind.i32 (1480 : Int), Value.int IntKind.i32 (1488 : Int), Value.int IntKind.i32 (1523 : Int),
Value.int IntKind.i32 (1525 : Int), Value.int IntKind.i32 (1536 : Int), Value.int IntKind.i32 (1542 : Int),
Value.int IntKind.i32 (1544 : Int), Value.int IntKind.i32 (1548 : Int), Value.int IntKind.i32 (1549 : Int),
Value.int IntKind.i32 (1550 : Int), Value.int IntKind.i32 (1552 : Int), Value.int IntKind.i32 (1560 : Int),
Value.int IntKind.i32 (1561 : Int), Value.int IntKind.i32 (1562 : Int), Value.int IntKind.i32 (1563 : Int),
Value.int IntKind.i32 (1564 : Int), Value.int IntKind.i32 (1565 : Int), Value.int IntKind.i32 (1567 : Int),
Value.int IntKind.i32 (1568 : Int), Value.int IntKind.i32 (1570 : Int), Value.int IntKind.i32 (1574 : Int),
Value.int IntKind.i32 (1575 : Int), Value.int IntKind.i32 (1576 : Int), Value.int IntKind.i32 (1577 : Int),
Value.int IntKind.i32 (1578 : Int), Value.int IntKind.i32 (1583 : Int), Value.int IntKind.i32 (1587 : Int),
Value.int IntKind.i32 (1595 : Int), Value.int IntKind.i32 (1600 : Int), Value.int IntKind.i32 (1601 : Int),
Value.int IntKind.i32 (1608 : Int), Value.int IntKind.i32 (1610 : Int), Value.int IntKind.i32 (1611 : Int),
Value.int IntKind.i32 (1612 : Int), Value.int IntKind.i32 (1613 : Int), Value.int IntKind.i32 (1614 : Int),
Value.int IntKind.i32 (1615 : Int), Value.int IntKind.i32 (1616 : Int), Value.int IntKind.i32 (1617 : Int),
Value.int IntKind.i32 (1618 : Int), Value.int IntKind.i32 (1619 : Int), Value.int IntKind.i32 (1621 : Int),
Value.int IntKind.i32 (1623 : Int), Value.int IntKind.i32 (1631 : Int), Value.int IntKind.i32 (1632 : Int),
Value.int IntKind.i32 (1642 : Int), Value.int IntKind.i32 (1643 : Int), Value.int IntKind.i32 (1645 : Int),
Value.int IntKind.i32 (1646 : Int), Value.int IntKind.i32 (1648 : Int), Value.int IntKind.i32 (1649 : Int),
Value.int IntKind.i32 (1748 : Int), Value.int IntKind.i32 (1749 : Int), Value.int IntKind.i32 (1750 : Int),
Value.int IntKind.i32 (1757 : Int), Value.int IntKind.i32 (1758 : Int), Value.int IntKind.i32 (1759 : Int),
Value.int IntKind.i32 (1763 : Int), Value.int IntKind.i32 (1764 : Int), Value.int IntKind.i32 (1765 : Int),
Value.int IntKind.i32 (1767 : Int), Value.int IntKind.i32 (1769 : Int), Value.int IntKind.i32 (1770 : Int),
Value.int IntKind.i32 (1771 : Int), Value.int IntKind.i32 (1773 : Int), Value.int IntKind.i32 (1774 : Int),
Value.int IntKind.i32 (1776 : Int), Value.int IntKind.i32 (1786 : Int), Value.int IntKind.i32 (1789 : Int),
Value.int IntKind.i32 (1984 : Int), Value.int IntKind.i32 (2144 : Int), Value.int IntKind.i32 (3585 : Int),
Value.int IntKind.i32 (3633 : Int), Value.int IntKind.i32 (3634 : Int), Value.int IntKind.i32 (3636 : Int),
Value.int IntKind.i32 (3640 : Int), Value.int IntKind.i32 (3642 : Int), Value.int IntKind.i32 (3643 : Int),
Value.int IntKind.i32 (3655 : Int), Value.int IntKind.i32 (3656 : Int), Value.int IntKind.i32 (3660 : Int),
Value.int IntKind.i32 (3663 : Int), Value.int IntKind.i32 (4256 : Int), Value.int IntKind.i32 (4352 : Int),
Value.int IntKind.i32 (4448 : Int), Value.int IntKind.i32 (4608 : Int), Value.int IntKind.i32 (5760 : Int),
Value.int IntKind.i32 (5761 : Int), Value.int IntKind.i32 (6832 : Int), Value.int IntKind.i32 (6912 : Int),
Value.int IntKind.i32 (7616 : Int), Value.int IntKind.i32 (7680 : Int), Value.int IntKind.i32 (8192 : Int),
Value.int IntKind.i32 (8199 : Int), Value.int IntKind.i32 (8200 : Int), Value.int IntKind.i32 (8203 : Int),
Value.int IntKind.i32 (8204 : Int), Value.int IntKind.i32 (8205 : Int), Value.int IntKind.i32 (8206 : Int),
Value.int IntKind.i32 (8207 : Int), Value.int IntKind.i32 (8208 : Int), Value.int IntKind.i32 (8209 : Int),
Value.int IntKind.i32 (8210 : Int), Value.int IntKind.i32 (8213 : Int), Value.int IntKind.i32 (8215 : Int),
Value.int IntKind.i32 (8216 : Int), Value.int IntKind.i32 (8217 : Int), Value.int IntKind.i32 (8218 : Int),
Value.int IntKind.i32 (8219 : Int), Value.int IntKind.i32 (8220 : Int), Value.int IntKind.i32 (8221 : Int),
Value.int IntKind.i32 (8222 : Int), Value.int IntKind.i32 (8223 : Int), Value.int IntKind.i32 (8224 : Int),
Value.int IntKind.i32 (8232 : Int), Value.int IntKind.i32 (8233 : Int), Value.int IntKind.i32 (8234 : Int),
Value.int IntKind.i32 (8235 : Int), Value.int IntKind.i32 (8236 : Int), Value.int IntKind.i32 (8237 : Int),
Value.int IntKind.i32 (8238 : Int), Value.int IntKind.i32 (8239 : Int), Value.int IntKind.i32 (8240 : Int),
Value.int IntKind.i32 (8245 : Int), Value.int IntKind.i32 (8249 : Int), Value.int IntKind.i32 (8250 : Int),
Value.int IntKind.i32 (8251 : Int), Value.int IntKind.i32 (8252 : Int), Value.int IntKind.i32 (8287 : Int),
Value.int IntKind.i32 (8288 : Int), Value.int IntKind.i32 (8289 : Int), Value.int IntKind.i32 (8294 : Int),
Value.int IntKind.i32 (8295 : Int), Value.int IntKind.i32 (8296 : Int), Value.int IntKind.i32 (8297 : Int),
Value.int IntKind.i32 (8298 : Int), Value.int IntKind.i32 (8304 : Int), Value.int IntKind.i32 (8314 : Int),
Value.int IntKind.i32 (8320 : Int), Value.int IntKind.i32 (8330 : Int), Value.int IntKind.i32 (8352 : Int),
Value.int IntKind.i32 (8400 : Int), Value.int IntKind.i32 (8413 : Int), Value.int IntKind.i32 (8417 : Int),
Value.int IntKind.i32 (8418 : Int), Value.int IntKind.i32 (8421 : Int), Value.int IntKind.i32 (8448 : Int),
Value.int IntKind.i32 (8592 : Int), Value.int IntKind.i32 (8602 : Int), Value.int IntKind.i32 (8704 : Int),
Value.int IntKind.i32 (8722 : Int), Value.int IntKind.i32 (8723 : Int), Value.int IntKind.i32 (8960 : Int),
Value.int IntKind.i32 (8986 : Int), Value.int IntKind.i32 (8988 : Int), Value.int IntKind.i32 (9001 : Int),
Value.int IntKind.i32 (9003 : Int), Value.int IntKind.i32 (9193 : Int), Value.int IntKind.i32 (9204 : Int),
Value.int IntKind.i32 (9312 : Int), Value.int IntKind.i32 (9372 : Int), Value.int IntKind.i32 (9451 : Int),
Value.int IntKind.i32 (9472 : Int), Value.int IntKind.i32 (9676 : Int), Value.int IntKind.i32 (9677 : Int),
Value.int IntKind.i32 (9682 : Int), Value.int IntKind.i32 (9733 : Int), Value.int IntKind.i32 (9735 : Int),
Value.int IntKind.i32 (9748 : Int), Value.int IntKind.i32 (9750 : Int), Value.int IntKind.i32 (9800 : Int),
Value.int IntKind.i32 (9812 : Int), Value.int IntKind.i32 (9824 : Int), Value.int IntKind.i32 (9832 : Int),
Value.int IntKind.i32 (9917 : Int), Value.int IntKind.i32 (9919 : Int), Value.int IntKind.i32 (9989 : Int),
Value.int IntKind.i32 (9990 : Int), Value.int IntKind.i32 (10060 : Int), Value.int IntKind.i32 (10061 : Int),
Value.int IntKind.i32 (10067 : Int), Value.int IntKind.i32 (10072 : Int), Value.int IntKind.i32 (10133 : Int),
Value.int IntKind.i32 (10136 : Int), Value.int IntKind.i32 (11088 : Int), Value.int IntKind.i32 (11089 : Int),
Value.int IntKind.i32 (11264 : Int), Value.int IntKind.i32 (11744 : Int), Value.int IntKind.i32 (11904 : Int),
Value.int IntKind.i32 (12288 : Int), Value.int IntKind.i32 (12289 : Int), Value.int IntKind.i32 (12291 : Int),
Value.int IntKind.i32 (12292 : Int), Value.int IntKind.i32 (12293 : Int), Value.int IntKind.i32 (12296 : Int),
Value.int IntKind.i32 (12297 : Int), Value.int IntKind.i32 (12298 : Int), Value.int IntKind.i32 (12299 : Int),
Value.int IntKind.i32 (12300 : Int), Value.int IntKind.i32 (12301 : Int), Value.int IntKind.i32 (12302 : Int),
Value.int IntKind.i32 (12303 : Int), Value.int IntKind.i32 (12304 : Int), Value.int IntKind.i32 (12305 : Int),
Value.int IntKind.i32 (12306 : Int), Value.int IntKind.i32 (12308 : Int), Value.int IntKind.i32 (12309 : Int),
Value.int IntKind.i32 (12310 : Int), Value.int IntKind.i32 (12311 : Int), Value.int IntKind.i32 (12312 : Int),
Value.int IntKind.i32 (12313 : Int), Value.int IntKind.i32 (12314 : Int), Value.int IntKind.i32 (12315 : Int),
Value.int IntKind.i32 (12316 : Int), Value.int IntKind.i32 (12320 : Int), Value.int IntKind.i32 (12321 : Int),
Value.int IntKind.i32 (12330 : Int), Value.int IntKind.i32 (12331 : Int), Value.int IntKind.i32 (12332 : Int),
Value.int IntKind.i32 (12333 : Int), Value.int IntKind.i32 (12334 : Int), Value.int IntKind.i32 (12336 : Int),
Value.int IntKind.i32 (12337 : Int), Value.int IntKind.i32 (12351 : Int), Value.int IntKind.i32 (12352 : Int),
Value.int IntKind.i32 (12353 : Int), Value.int IntKind.i32 (12441 : Int), Value.int IntKind.i32 (12443 : Int),
Value.int IntKind.i32 (12544 : Int), Value.int IntKind.i32 (12549 : Int), Value.int IntKind.i32 (12687 : Int),
Value.int IntKind.i32 (13312 : Int), Value.int IntKind.i32 (19904 : Int), Value.int IntKind.i32 (19968 : Int),
Value.int IntKind.i32 (40960 : Int), Value.int IntKind.i32 (42192 : Int), Value.int IntKind.i32 (44032 : Int),
Value.int IntKind.i32 (55204 : Int), Value.int IntKind.i32 (55296 : Int), Value.int IntKind.i32 (57344 : Int),
Value.int IntKind.i32 (63744 : Int), Value.int IntKind.i32 (64256 : Int), Value.int IntKind.i32 (64285 : Int),
Value.int IntKind.i32 (64336 : Int), Value.int IntKind.i32 (65020 : Int), Value.int IntKind.i32 (65024 : Int),
Value.int IntKind.i32 (65040 : Int), Value.int IntKind.i32 (65056 : Int), Value.int IntKind.i32 (65072 : Int),
Value.int IntKind.i32 (65136 : Int), Value.int IntKind.i32 (65277 : Int), Value.int IntKind.i32 (65279 : Int),
Value.int IntKind.i32 (65280 : Int), Value.int IntKind.i32 (65281 : Int), Value.int IntKind.i32 (65282 : Int),
Value.int IntKind.i32 (65283 : Int), Value.int IntKind.i32 (65286 : Int), Value.int IntKind.i32 (65288 : Int),
Value.int IntKind.i32 (65289 : Int), Value.int IntKind.i32 (65290 : Int), Value.int IntKind.i32 (65291 : Int),
Value.int IntKind.i32 (65292 : Int), Value.int IntKind.i32 (65293 : Int), Value.int IntKind.i32 (65294 : Int),
Value.int IntKind.i32 (65295 : Int), Value.int IntKind.i32 (65296 : Int), Value.int IntKind.i32 (65306 : Int),
Value.int IntKind.i32 (65307 : Int), Value.int IntKind.i32 (65308 : Int), Value.int IntKind.i32 (65311 : Int),
Value.int IntKind.i32 (65312 : Int), Value.int IntKind.i32 (65313 : Int), Value.int IntKind.i32 (65339 : Int),
Value.int IntKind.i32 (65340 : Int), Value.int IntKind.i32 (65341 : Int), Value.int IntKind.i32 (65342 : Int),
Value.int IntKind.i32 (65345 : Int), Value.int IntKind.i32 (65371 : Int), Value.int IntKind.i32 (65372 : Int),
Value.int IntKind.i32 (65373 : Int), Value.int IntKind.i32 (65374 : Int), Value.int IntKind.i32 (65375 : Int),
Value.int IntKind.i32 (65376 : Int), Value.int IntKind.i32 (65377 : Int), Value.int IntKind.i32 (65382 : Int),
Value.int IntKind.i32 (65501 : Int), Value.int IntKind.i32 (65504 : Int), Value.int IntKind.i32 (65511 : Int),
Value.int IntKind.i32 (65532 : Int), Value.int IntKind.i32 (65534 : Int), Value.int IntKind.i32 (67584 : Int),
Value.int IntKind.i32 (69632 : Int), Value.int IntKind.i32 (126976 : Int), Value.int IntKind.i32 (127744 : Int),
Value.int IntKind.i32 (128592 : Int), Value.int IntKind.i32 (128640 : Int), Value.int IntKind.i32 (128768 : Int),
Value.int IntKind.i32 (129280 : Int), Value.int IntKind.i32 (129792 : Int), Value.int IntKind.i32 (131072 : Int),
Value.int IntKind.i32 (262142 : Int), Value.int IntKind.i32 (1114112 : Int)]
(21 : Nat))
b w1 →
∃ (x : Option Addr × Nat),
Value.slice (some { block := b, off := (0 : Nat) }) (458 : Nat) (458 : Nat) = Value.slice x.fst (458 : Nat) x.snd ∧
Made w w1 (21 : TypeId) (1 : Nat) x.fst bordL.length (List.map (Value.int IntKind.i32) bordL) x.snd) :
    ((sLit bordL)).Ok Try.prog 43 :=
  ok_of_vc (sLit bordL) (annOf []) [] (fun _ _ => rfl) (fun _ _ => rfl) hsp Try.func43 rfl (n := 0) (fun _ => rfl) (by kernel_rfl) (vcast (by kernel_rfl) h)

set_option maxRecDepth 1000000 in
theorem other_vc (hsp : SpecsOk Try.prog []) (h : ∀ (g : GOth) (w : World),
GSl.at IntKind.i32 g.l w ∧ g.l.xs.length ≤ (30 : Nat) ∧ g.l.xs.length % (2 : Nat) = (0 : Nat) →
(∃ (x : Nat),
Value.int IntKind.i64 (0 : Int) = Value.int IntKind.i64 (↑x : Int) ∧
w = w ∧ x ≤ g.l.xs.length ∧ ∀ (j : Nat), j < x → g.l.xs.getD j (0 : Int) ≠ g.r) ∧
∀ (u : Nat → Value) (x : Nat) (w' : World),
(w' = w ∧ x ≤ g.l.xs.length ∧ ∀ (j : Nat), j < x → g.l.xs.getD j (0 : Int) ≠ g.r) →
bcase (decide ((↑x : Int) < (↑g.l.xs.length : Int)))
(∃ (k : Nat),
(↑x : Int) = (↑k : Int) ∧
k < g.l.xs.length ∧
ptrE g.l.ad fun (b o : Nat) =>
∃ (n : Int),
w'.cell? { block := b, off := o + k } = some (Value.int IntKind.i32 n) ∧
bcase (n == g.r)
(∃ (k1 : Nat),
IntKind.i64.wrap (↑(BitVec.ofInt IntKind.i64.bits (↑x : Int) ^^^ BitVec.ofInt IntKind.i64.bits (1 : Int)).toNat : Int) =
(↑k1 : Int) ∧
k1 < g.l.xs.length ∧
ptrE g.l.ad fun (b1 o1 : Nat) =>
∃ (n1 : Int),
w'.cell? { block := b1, off := o1 + k1 } = some (Value.int IntKind.i32 n1) ∧
∃ (x1 : Int × Bool),
Value.tuple #[Value.int IntKind.i32 n1, Value.bool true] =
Value.tuple #[Value.int IntKind.i32 x1.fst, Value.bool x1.snd] ∧
x1 = otherF g.l.xs g.r ∧ w' = w)
(InR IntKind.i64 ((↑x : Int) + (1 : Int)) ∧
∃ (y : Nat),
Value.int IntKind.i64 ((↑x : Int) + (1 : Int)) = Value.int IntKind.i64 (↑y : Int) ∧
(w' = w ∧ y ≤ g.l.xs.length ∧ ∀ (j : Nat), j < y → g.l.xs.getD j (0 : Int) ≠ g.r) ∧
g.l.xs.length - y < g.l.xs.length - x))
(∃ (x1 : Int × Bool),
Value.tuple #[Value.int IntKind.i32 (0 : Int), Value.bool false] =
Value.tuple #[Value.int IntKind.i32 x1.fst, Value.bool x1.snd] ∧
x1 = otherF g.l.xs g.r ∧ w' = w)) :
    (sOther).Ok Try.prog 41 :=
  ok_of_vc sOther annOther [] (fun _ _ => rfl) (fun _ _ => rfl) hsp Try.func41 rfl (n := 2) (fun _ => rfl) (by kernel_rfl) (vcast (by kernel_rfl) h)

set_option maxRecDepth 1000000 in
theorem rpair_vc (hsp : SpecsOk Try.prog spRPair) (h : ∀ (g : Int) (w : World),
True →
∃ (g1 : Unit),
(#[] : Array Value) = #[] ∧
True ∧
∀ (x : Option Addr × Nat) (w' : World),
Made w w' (21 : TypeId) (1 : Nat) x.fst braL.length (List.map (Value.int IntKind.i32) braL) x.snd →
(∃ (x1 : Nat),
Value.int IntKind.i64 (0 : Int) = Value.int IntKind.i64 (↑x1 : Int) ∧
w' = w' ∧ x1 ≤ (30 : Nat) ∧ ∀ (j : Nat), j < x1 → braL.getD j (0 : Int) ≠ g) ∧
∀ (u : Nat → Value) (x1 : Nat) (w'1 : World),
(w'1 = w' ∧ x1 ≤ (30 : Nat) ∧ ∀ (j : Nat), j < x1 → braL.getD j (0 : Int) ≠ g) →
bcase (decide ((↑x1 : Int) < (↑braL.length : Int)))
(∃ (k : Nat),
(↑x1 : Int) = (↑k : Int) ∧
k < braL.length ∧
ptrE x.fst fun (b o : Nat) =>
∃ (n : Int),
w'1.cell? { block := b, off := o + k } = some (Value.int IntKind.i32 n) ∧
bcase (n == g)
(∃ (k1 : Nat),
IntKind.i64.wrap
(↑(BitVec.ofInt IntKind.i64.bits (↑x1 : Int) ^^^ BitVec.ofInt IntKind.i64.bits (1 : Int)).toNat : Int) =
(↑k1 : Int) ∧
k1 < braL.length ∧
ptrE x.fst fun (b1 o1 : Nat) =>
∃ (n1 : Int),
w'1.cell? { block := b1, off := o1 + k1 } = some (Value.int IntKind.i32 n1) ∧
(0 : Int) ≤ (↑x1 : Int) ∧
(0 : Int) < (2 : Int) ∧
∃ (x2 : Int × Bool × Bool),
Value.tuple #[Value.int IntKind.i32 n1, Value.bool ((↑x1 : Int) % (2 : Int) == (0 : Int)), Value.bool true] =
Value.tuple #[Value.int IntKind.i32 x2.fst, Value.bool x2.snd.fst, Value.bool x2.snd.snd] ∧
x2 = pairF g ∧ Ext w w'1)
(InR IntKind.i64 ((↑x1 : Int) + (1 : Int)) ∧
∃ (y : Nat),
Value.int IntKind.i64 ((↑x1 : Int) + (1 : Int)) = Value.int IntKind.i64 (↑y : Int) ∧
(w'1 = w' ∧ y ≤ (30 : Nat) ∧ ∀ (j : Nat), j < y → braL.getD j (0 : Int) ≠ g) ∧ (30 : Nat) - y < (30 : Nat) - x1))
(∃ (x2 : Int × Bool × Bool),
Value.tuple #[Value.int IntKind.i32 (0 : Int), Value.bool false, Value.bool false] =
Value.tuple #[Value.int IntKind.i32 x2.fst, Value.bool x2.snd.fst, Value.bool x2.snd.snd] ∧
x2 = pairF g ∧ Ext w w'1)) :
    (sPair).Ok Try.prog 25 :=
  ok_of_vc sPair annRPair spRPair (fun _ _ => rfl) (fun _ _ => rfl) hsp Try.func25 rfl (n := 1) (fun _ => rfl) (by kernel_rfl) (vcast (by kernel_rfl) h)

set_option maxRecDepth 1000000 in
theorem rmirror_vc (hsp : SpecsOk Try.prog spRMir) (h : ∀ (g : Int) (w : World),
True →
∃ (g1 : Unit),
(#[] : Array Value) = #[] ∧
True ∧
∀ (x : Option Addr × Nat) (w' : World),
Made w w' (21 : TypeId) (1 : Nat) x.fst braL.length (List.map (Value.int IntKind.i32) braL) x.snd →
∃ (g2 : GOth),
#[Value.slice x.fst (30 : Nat) x.snd, Value.int IntKind.i32 g] =
#[Value.slice g2.l.ad g2.l.xs.length g2.l.c, Value.int IntKind.i32 g2.r] ∧
(GSl.at IntKind.i32 g2.l w' ∧ g2.l.xs.length ≤ (30 : Nat) ∧ g2.l.xs.length % (2 : Nat) = (0 : Nat)) ∧
∀ (x1 : Int × Bool) (w'1 : World),
x1 = otherF g2.l.xs g2.r ∧ w'1 = w' →
bcase x1.snd (∃ (x2 : Int), Value.int IntKind.i32 x1.fst = Value.int IntKind.i32 x2 ∧ x2 = mirF g ∧ Ext w w'1)
(∃ (g3 : Unit),
(#[] : Array Value) = #[] ∧
True ∧
∀ (x2 : Option Addr × Nat) (w'2 : World),
Made w'1 w'2 (21 : TypeId) (1 : Nat) x2.fst mirL.length (List.map (Value.int IntKind.i32) mirL) x2.snd →
∃ (g4 : GOth),
#[Value.slice x2.fst (10 : Nat) x2.snd, Value.int IntKind.i32 g] =
#[Value.slice g4.l.ad g4.l.xs.length g4.l.c, Value.int IntKind.i32 g4.r] ∧
(GSl.at IntKind.i32 g4.l w'2 ∧ g4.l.xs.length ≤ (30 : Nat) ∧ g4.l.xs.length % (2 : Nat) = (0 : Nat)) ∧
∀ (x3 : Int × Bool) (w'3 : World),
x3 = otherF g4.l.xs g4.r ∧ w'3 = w'2 →
bcase x3.snd (∃ (x4 : Int), Value.int IntKind.i32 x3.fst = Value.int IntKind.i32 x4 ∧ x4 = mirF g ∧ Ext w w'3)
(∃ (x4 : Int), Value.int IntKind.i32 g = Value.int IntKind.i32 x4 ∧ x4 = mirF g ∧ Ext w w'3))) :
    ((sRuneX .i32 mirF)).Ok Try.prog 27 :=
  ok_of_vc (sRuneX .i32 mirF) (annOf spRMir) spRMir (fun _ _ => rfl) (fun _ _ => rfl) hsp Try.func27 rfl (n := 1) (fun _ => rfl) (by kernel_rfl) (vcast (by kernel_rfl) h)

set_option maxRecDepth 1000000 in
theorem value_vc (hsp : SpecsOk Try.prog spValue) (h : ∀ (g : Int × Int) (w : World),
True →
bcase (g.fst == (0 : Int))
(∃ (g1 : Int),
#[Value.int IntKind.i32 g.snd] = #[Value.int IntKind.i32 g1] ∧
True ∧
∀ (x : Int) (w' : World),
x = kindR g1 ∧ w' = w →
InR IntKind.i64 x ∧
∃ (x1 : Int × Bool),
Value.tuple #[Value.int IntKind.i64 x, Value.bool true] =
Value.tuple #[Value.int IntKind.i64 x1.fst, Value.bool x1.snd] ∧
x1 = valueF g.fst g.snd ∧ w' = w)
(bcase (g.fst == (1 : Int))
(∃ (g1 : Int),
#[Value.int IntKind.i32 g.snd] = #[Value.int IntKind.i32 g1] ∧
True ∧
∀ (x : Int) (w' : World),
x = dirR g1 ∧ w' = w →
InR IntKind.i64 x ∧
∃ (x1 : Int × Bool),
Value.tuple #[Value.int IntKind.i64 x, Value.bool true] =
Value.tuple #[Value.int IntKind.i64 x1.fst, Value.bool x1.snd] ∧
x1 = valueF g.fst g.snd ∧ w' = w)
(bcase (g.fst == (2 : Int))
(∃ (g1 : Int),
#[Value.int IntKind.i32 g.snd] = #[Value.int IntKind.i32 g1] ∧
True ∧
∀ (x : Int) (w' : World),
x = widR g1 ∧ w' = w →
∃ (x1 : Int × Bool),
Value.tuple #[Value.int IntKind.i64 x, Value.bool true] =
Value.tuple #[Value.int IntKind.i64 x1.fst, Value.bool x1.snd] ∧
x1 = valueF g.fst g.snd ∧ w' = w)
(bcase (g.fst == (3 : Int))
(∃ (g1 : Int),
#[Value.int IntKind.i32 g.snd] = #[Value.int IntKind.i32 g1] ∧
True ∧
∀ (x : Int) (w' : World),
x = markR g1 ∧ w' = w →
InR IntKind.i64 x ∧
∃ (x1 : Int × Bool),
Value.tuple #[Value.int IntKind.i64 x, Value.bool true] =
Value.tuple #[Value.int IntKind.i64 x1.fst, Value.bool x1.snd] ∧
x1 = valueF g.fst g.snd ∧ w' = w)
(bcase (g.fst == (4 : Int))
(∃ (g1 : Int),
#[Value.int IntKind.i32 g.snd] = #[Value.int IntKind.i32 g1] ∧
True ∧
∀ (x : Int) (w' : World),
x = joinR g1 ∧ w' = w →
InR IntKind.i64 x ∧
∃ (x1 : Int × Bool),
Value.tuple #[Value.int IntKind.i64 x, Value.bool true] =
Value.tuple #[Value.int IntKind.i64 x1.fst, Value.bool x1.snd] ∧
x1 = valueF g.fst g.snd ∧ w' = w)
(bcase (g.fst == (5 : Int))
(∃ (g1 : Int),
#[Value.int IntKind.i32 g.snd] = #[Value.int IntKind.i32 g1] ∧
True ∧
∀ (x : Int) (w' : World),
x = brkR g1 ∧ w' = w →
InR IntKind.i64 x ∧
∃ (x1 : Int × Bool),
Value.tuple #[Value.int IntKind.i64 x, Value.bool true] =
Value.tuple #[Value.int IntKind.i64 x1.fst, Value.bool x1.snd] ∧
x1 = valueF g.fst g.snd ∧ w' = w)
(∃ (x : Int × Bool),
Value.tuple #[Value.int IntKind.i64 (0 : Int), Value.bool false] =
Value.tuple #[Value.int IntKind.i64 x.fst, Value.bool x.snd] ∧
x = valueF g.fst g.snd ∧ w = w))))))) :
    (sValue).Ok Try.prog 44 :=
  ok_of_vc sValue (annOf spValue) spValue (fun _ _ => rfl) (fun _ _ => rfl) hsp Try.func44 rfl (n := 2) (fun _ => rfl) (by kernel_rfl) (vcast (by kernel_rfl) h)

set_option maxRecDepth 1000000 in
theorem spans_vc (hsp : SpecsOk Try.prog spSpans) (h : ∀ (g : Int × Int) (w : World),
True →
bcase (g.fst == (0 : Int))
((∃ (x : GSp),
Value.int IntKind.i32 (0 : Int) = Value.int IntKind.i32 x.r ∧
Value.slice none (0 : Nat) (0 : Nat) = Value.slice x.a x.out.length x.c ∧
x.k ≤ (300 : Nat) ∧
x.out.length ≤ x.k ∧
(0 : Int) ≤ x.r ∧
x.r ≤ (1114112 : Int) ∧
(x.r < (55296 : Int) ∨ (57344 : Int) ≤ x.r) ∧
x.out ++ pick g.snd (segsF (tabT g.fst) ((300 : Nat) - x.k) x.r) = spansF (tabT g.fst) g.snd ∧
doneF (tabT g.fst) ((300 : Nat) - x.k) x.r = true ∧
Made w w (38 : TypeId) (2 : Nat) x.a x.out.length (List.flatMap spV x.out) x.c) ∧
∀ (u : Nat → Value) (x : GSp) (w' : World),
x.k ≤ (300 : Nat) ∧
x.out.length ≤ x.k ∧
(0 : Int) ≤ x.r ∧
x.r ≤ (1114112 : Int) ∧
(x.r < (55296 : Int) ∨ (57344 : Int) ≤ x.r) ∧
x.out ++ pick g.snd (segsF (tabT g.fst) ((300 : Nat) - x.k) x.r) = spansF (tabT g.fst) g.snd ∧
doneF (tabT g.fst) ((300 : Nat) - x.k) x.r = true ∧
Made w w' (38 : TypeId) (2 : Nat) x.a x.out.length (List.flatMap spV x.out) x.c →
bcase (decide (x.r ≤ (1114111 : Int)))
(∃ (g1 : Int),
#[Value.int IntKind.i32 x.r] = #[Value.int IntKind.i32 g1] ∧
True ∧
∀ (x1 : Int × Int) (w'1 : World),
FindOk kindT (knownF g1) x1.fst x1.snd ∧ Ext w' w'1 →
bcase (decide (x.r < (55296 : Int)))
(InR IntKind.i64 x1.fst ∧
bcase (x1.fst == g.snd)
(∀ (b : Nat) (w1 : World),
New w'1
(Obj.cells
#[Value.int IntKind.i32 x.r, Value.int IntKind.i32 (if (55295 : Int) < x1.snd then (55295 : Int) else x1.snd)]
(38 : Nat))
b w1 →
∃ (a' : Option Addr),
∃ (c' : Nat),
∃ (w'2 : World),
AppRun Try.prog #[(34 : Nat), (34 : Nat)] (34 : Nat) (Value.slice x.a x.out.length x.c)
(Value.slice (some { block := b, off := (0 : Nat) }) (1 : Nat) (1 : Nat)) w1 a' (x.out.length + (1 : Nat)) c' w'2 ∧
KO w1 w'2 ∧
InR IntKind.i32 ((if (55295 : Int) < x1.snd then (55295 : Int) else x1.snd) + (1 : Int)) ∧
bcase ((if (55295 : Int) < x1.snd then (55295 : Int) else x1.snd) + (1 : Int) == (55296 : Int))
(∃ (y : GSp),
Value.int IntKind.i32 (57344 : Int) = Value.int IntKind.i32 y.r ∧
Value.slice a' (x.out.length + (1 : Nat)) c' = Value.slice y.a y.out.length y.c ∧
(y.k ≤ (300 : Nat) ∧
y.out.length ≤ y.k ∧
(0 : Int) ≤ y.r ∧
y.r ≤ (1114112 : Int) ∧
(y.r < (55296 : Int) ∨ (57344 : Int) ≤ y.r) ∧
y.out ++ pick g.snd (segsF (tabT g.fst) ((300 : Nat) - y.k) y.r) = spansF (tabT g.fst) g.snd ∧
doneF (tabT g.fst) ((300 : Nat) - y.k) y.r = true ∧
Made w w'2 (38 : TypeId) (2 : Nat) y.a y.out.length (List.flatMap spV y.out) y.c) ∧
((1114113 : Int) - y.r).toNat < ((1114113 : Int) - x.r).toNat)
(∃ (y : GSp),
Value.int IntKind.i32 ((if (55295 : Int) < x1.snd then (55295 : Int) else x1.snd) + (1 : Int)) =
Value.int IntKind.i32 y.r ∧
Value.slice a' (x.out.length + (1 : Nat)) c' = Value.slice y.a y.out.length y.c ∧
(y.k ≤ (300 : Nat) ∧
y.out.length ≤ y.k ∧
(0 : Int) ≤ y.r ∧
y.r ≤ (1114112 : Int) ∧
(y.r < (55296 : Int) ∨ (57344 : Int) ≤ y.r) ∧
y.out ++ pick g.snd (segsF (tabT g.fst) ((300 : Nat) - y.k) y.r) = spansF (tabT g.fst) g.snd ∧
doneF (tabT g.fst) ((300 : Nat) - y.k) y.r = true ∧
Made w w'2 (38 : TypeId) (2 : Nat) y.a y.out.length (List.flatMap spV y.out) y.c) ∧
((1114113 : Int) - y.r).toNat < ((1114113 : Int) - x.r).toNat))
(InR IntKind.i32 ((if (55295 : Int) < x1.snd then (55295 : Int) else x1.snd) + (1 : Int)) ∧
bcase ((if (55295 : Int) < x1.snd then (55295 : Int) else x1.snd) + (1 : Int) == (55296 : Int))
(∃ (y : GSp),
Value.int IntKind.i32 (57344 : Int) = Value.int IntKind.i32 y.r ∧
Value.slice x.a x.out.length x.c = Value.slice y.a y.out.length y.c ∧
(y.k ≤ (300 : Nat) ∧
y.out.length ≤ y.k ∧
(0 : Int) ≤ y.r ∧
y.r ≤ (1114112 : Int) ∧
(y.r < (55296 : Int) ∨ (57344 : Int) ≤ y.r) ∧
y.out ++ pick g.snd (segsF (tabT g.fst) ((300 : Nat) - y.k) y.r) = spansF (tabT g.fst) g.snd ∧
doneF (tabT g.fst) ((300 : Nat) - y.k) y.r = true ∧
Made w w'1 (38 : TypeId) (2 : Nat) y.a y.out.length (List.flatMap spV y.out) y.c) ∧
((1114113 : Int) - y.r).toNat < ((1114113 : Int) - x.r).toNat)
(∃ (y : GSp),
Value.int IntKind.i32 ((if (55295 : Int) < x1.snd then (55295 : Int) else x1.snd) + (1 : Int)) =
Value.int IntKind.i32 y.r ∧
Value.slice x.a x.out.length x.c = Value.slice y.a y.out.length y.c ∧
(y.k ≤ (300 : Nat) ∧
y.out.length ≤ y.k ∧
(0 : Int) ≤ y.r ∧
y.r ≤ (1114112 : Int) ∧
(y.r < (55296 : Int) ∨ (57344 : Int) ≤ y.r) ∧
y.out ++ pick g.snd (segsF (tabT g.fst) ((300 : Nat) - y.k) y.r) = spansF (tabT g.fst) g.snd ∧
doneF (tabT g.fst) ((300 : Nat) - y.k) y.r = true ∧
Made w w'1 (38 : TypeId) (2 : Nat) y.a y.out.length (List.flatMap spV y.out) y.c) ∧
((1114113 : Int) - y.r).toNat < ((1114113 : Int) - x.r).toNat)))
(InR IntKind.i64 x1.fst ∧
bcase (x1.fst == g.snd)
(∀ (b : Nat) (w1 : World),
New w'1 (Obj.cells #[Value.int IntKind.i32 x.r, Value.int IntKind.i32 x1.snd] (38 : Nat)) b w1 →
∃ (a' : Option Addr),
∃ (c' : Nat),
∃ (w'2 : World),
AppRun Try.prog #[(34 : Nat), (34 : Nat)] (34 : Nat) (Value.slice x.a x.out.length x.c)
(Value.slice (some { block := b, off := (0 : Nat) }) (1 : Nat) (1 : Nat)) w1 a' (x.out.length + (1 : Nat)) c' w'2 ∧
KO w1 w'2 ∧
InR IntKind.i32 (x1.snd + (1 : Int)) ∧
bcase (x1.snd + (1 : Int) == (55296 : Int))
(∃ (y : GSp),
Value.int IntKind.i32 (57344 : Int) = Value.int IntKind.i32 y.r ∧
Value.slice a' (x.out.length + (1 : Nat)) c' = Value.slice y.a y.out.length y.c ∧
(y.k ≤ (300 : Nat) ∧
y.out.length ≤ y.k ∧
(0 : Int) ≤ y.r ∧
y.r ≤ (1114112 : Int) ∧
(y.r < (55296 : Int) ∨ (57344 : Int) ≤ y.r) ∧
y.out ++ pick g.snd (segsF (tabT g.fst) ((300 : Nat) - y.k) y.r) = spansF (tabT g.fst) g.snd ∧
doneF (tabT g.fst) ((300 : Nat) - y.k) y.r = true ∧
Made w w'2 (38 : TypeId) (2 : Nat) y.a y.out.length (List.flatMap spV y.out) y.c) ∧
((1114113 : Int) - y.r).toNat < ((1114113 : Int) - x.r).toNat)
(∃ (y : GSp),
Value.int IntKind.i32 (x1.snd + (1 : Int)) = Value.int IntKind.i32 y.r ∧
Value.slice a' (x.out.length + (1 : Nat)) c' = Value.slice y.a y.out.length y.c ∧
(y.k ≤ (300 : Nat) ∧
y.out.length ≤ y.k ∧
(0 : Int) ≤ y.r ∧
y.r ≤ (1114112 : Int) ∧
(y.r < (55296 : Int) ∨ (57344 : Int) ≤ y.r) ∧
y.out ++ pick g.snd (segsF (tabT g.fst) ((300 : Nat) - y.k) y.r) = spansF (tabT g.fst) g.snd ∧
doneF (tabT g.fst) ((300 : Nat) - y.k) y.r = true ∧
Made w w'2 (38 : TypeId) (2 : Nat) y.a y.out.length (List.flatMap spV y.out) y.c) ∧
((1114113 : Int) - y.r).toNat < ((1114113 : Int) - x.r).toNat))
(InR IntKind.i32 (x1.snd + (1 : Int)) ∧
bcase (x1.snd + (1 : Int) == (55296 : Int))
(∃ (y : GSp),
Value.int IntKind.i32 (57344 : Int) = Value.int IntKind.i32 y.r ∧
Value.slice x.a x.out.length x.c = Value.slice y.a y.out.length y.c ∧
(y.k ≤ (300 : Nat) ∧
y.out.length ≤ y.k ∧
(0 : Int) ≤ y.r ∧
y.r ≤ (1114112 : Int) ∧
(y.r < (55296 : Int) ∨ (57344 : Int) ≤ y.r) ∧
y.out ++ pick g.snd (segsF (tabT g.fst) ((300 : Nat) - y.k) y.r) = spansF (tabT g.fst) g.snd ∧
doneF (tabT g.fst) ((300 : Nat) - y.k) y.r = true ∧
Made w w'1 (38 : TypeId) (2 : Nat) y.a y.out.length (List.flatMap spV y.out) y.c) ∧
((1114113 : Int) - y.r).toNat < ((1114113 : Int) - x.r).toNat)
(∃ (y : GSp),
Value.int IntKind.i32 (x1.snd + (1 : Int)) = Value.int IntKind.i32 y.r ∧
Value.slice x.a x.out.length x.c = Value.slice y.a y.out.length y.c ∧
(y.k ≤ (300 : Nat) ∧
y.out.length ≤ y.k ∧
(0 : Int) ≤ y.r ∧
y.r ≤ (1114112 : Int) ∧
(y.r < (55296 : Int) ∨ (57344 : Int) ≤ y.r) ∧
y.out ++ pick g.snd (segsF (tabT g.fst) ((300 : Nat) - y.k) y.r) = spansF (tabT g.fst) g.snd ∧
doneF (tabT g.fst) ((300 : Nat) - y.k) y.r = true ∧
Made w w'1 (38 : TypeId) (2 : Nat) y.a y.out.length (List.flatMap spV y.out) y.c) ∧
((1114113 : Int) - y.r).toNat < ((1114113 : Int) - x.r).toNat))))
(∃ (x1 : Option Addr × Nat × Nat),
Value.slice x.a x.out.length x.c = Value.slice x1.fst x1.snd.fst x1.snd.snd ∧
x1.snd.fst = (spansT g.fst g.snd).length ∧
Made w w' (38 : TypeId) (2 : Nat) x1.fst x1.snd.fst (List.flatMap spV (spansT g.fst g.snd)) x1.snd.snd))
(bcase (g.fst == (1 : Int))
((∃ (x : GSp),
Value.int IntKind.i32 (0 : Int) = Value.int IntKind.i32 x.r ∧
Value.slice none (0 : Nat) (0 : Nat) = Value.slice x.a x.out.length x.c ∧
x.k ≤ (300 : Nat) ∧
x.out.length ≤ x.k ∧
(0 : Int) ≤ x.r ∧
x.r ≤ (1114112 : Int) ∧
(x.r < (55296 : Int) ∨ (57344 : Int) ≤ x.r) ∧
x.out ++ pick g.snd (segsF (tabT g.fst) ((300 : Nat) - x.k) x.r) = spansF (tabT g.fst) g.snd ∧
doneF (tabT g.fst) ((300 : Nat) - x.k) x.r = true ∧
Made w w (38 : TypeId) (2 : Nat) x.a x.out.length (List.flatMap spV x.out) x.c) ∧
∀ (u : Nat → Value) (x : GSp) (w' : World),
x.k ≤ (300 : Nat) ∧
x.out.length ≤ x.k ∧
(0 : Int) ≤ x.r ∧
x.r ≤ (1114112 : Int) ∧
(x.r < (55296 : Int) ∨ (57344 : Int) ≤ x.r) ∧
x.out ++ pick g.snd (segsF (tabT g.fst) ((300 : Nat) - x.k) x.r) = spansF (tabT g.fst) g.snd ∧
doneF (tabT g.fst) ((300 : Nat) - x.k) x.r = true ∧
Made w w' (38 : TypeId) (2 : Nat) x.a x.out.length (List.flatMap spV x.out) x.c →
bcase (decide (x.r ≤ (1114111 : Int)))
(∃ (g1 : Int),
#[Value.int IntKind.i32 x.r] = #[Value.int IntKind.i32 g1] ∧
True ∧
∀ (x1 : Int × Int) (w'1 : World),
FindOk dirT (knownF g1) x1.fst x1.snd ∧ Ext w' w'1 →
bcase (decide (x.r < (55296 : Int)))
(InR IntKind.i64 x1.fst ∧
bcase (x1.fst == g.snd)
(∀ (b : Nat) (w1 : World),
New w'1
(Obj.cells
#[Value.int IntKind.i32 x.r, Value.int IntKind.i32 (if (55295 : Int) < x1.snd then (55295 : Int) else x1.snd)]
(38 : Nat))
b w1 →
∃ (a' : Option Addr),
∃ (c' : Nat),
∃ (w'2 : World),
AppRun Try.prog #[(34 : Nat), (34 : Nat)] (34 : Nat) (Value.slice x.a x.out.length x.c)
(Value.slice (some { block := b, off := (0 : Nat) }) (1 : Nat) (1 : Nat)) w1 a' (x.out.length + (1 : Nat)) c' w'2 ∧
KO w1 w'2 ∧
InR IntKind.i32 ((if (55295 : Int) < x1.snd then (55295 : Int) else x1.snd) + (1 : Int)) ∧
bcase ((if (55295 : Int) < x1.snd then (55295 : Int) else x1.snd) + (1 : Int) == (55296 : Int))
(∃ (y : GSp),
Value.int IntKind.i32 (57344 : Int) = Value.int IntKind.i32 y.r ∧
Value.slice a' (x.out.length + (1 : Nat)) c' = Value.slice y.a y.out.length y.c ∧
(y.k ≤ (300 : Nat) ∧
y.out.length ≤ y.k ∧
(0 : Int) ≤ y.r ∧
y.r ≤ (1114112 : Int) ∧
(y.r < (55296 : Int) ∨ (57344 : Int) ≤ y.r) ∧
y.out ++ pick g.snd (segsF (tabT g.fst) ((300 : Nat) - y.k) y.r) = spansF (tabT g.fst) g.snd ∧
doneF (tabT g.fst) ((300 : Nat) - y.k) y.r = true ∧
Made w w'2 (38 : TypeId) (2 : Nat) y.a y.out.length (List.flatMap spV y.out) y.c) ∧
((1114113 : Int) - y.r).toNat < ((1114113 : Int) - x.r).toNat)
(∃ (y : GSp),
Value.int IntKind.i32 ((if (55295 : Int) < x1.snd then (55295 : Int) else x1.snd) + (1 : Int)) =
Value.int IntKind.i32 y.r ∧
Value.slice a' (x.out.length + (1 : Nat)) c' = Value.slice y.a y.out.length y.c ∧
(y.k ≤ (300 : Nat) ∧
y.out.length ≤ y.k ∧
(0 : Int) ≤ y.r ∧
y.r ≤ (1114112 : Int) ∧
(y.r < (55296 : Int) ∨ (57344 : Int) ≤ y.r) ∧
y.out ++ pick g.snd (segsF (tabT g.fst) ((300 : Nat) - y.k) y.r) = spansF (tabT g.fst) g.snd ∧
doneF (tabT g.fst) ((300 : Nat) - y.k) y.r = true ∧
Made w w'2 (38 : TypeId) (2 : Nat) y.a y.out.length (List.flatMap spV y.out) y.c) ∧
((1114113 : Int) - y.r).toNat < ((1114113 : Int) - x.r).toNat))
(InR IntKind.i32 ((if (55295 : Int) < x1.snd then (55295 : Int) else x1.snd) + (1 : Int)) ∧
bcase ((if (55295 : Int) < x1.snd then (55295 : Int) else x1.snd) + (1 : Int) == (55296 : Int))
(∃ (y : GSp),
Value.int IntKind.i32 (57344 : Int) = Value.int IntKind.i32 y.r ∧
Value.slice x.a x.out.length x.c = Value.slice y.a y.out.length y.c ∧
(y.k ≤ (300 : Nat) ∧
y.out.length ≤ y.k ∧
(0 : Int) ≤ y.r ∧
y.r ≤ (1114112 : Int) ∧
(y.r < (55296 : Int) ∨ (57344 : Int) ≤ y.r) ∧
y.out ++ pick g.snd (segsF (tabT g.fst) ((300 : Nat) - y.k) y.r) = spansF (tabT g.fst) g.snd ∧
doneF (tabT g.fst) ((300 : Nat) - y.k) y.r = true ∧
Made w w'1 (38 : TypeId) (2 : Nat) y.a y.out.length (List.flatMap spV y.out) y.c) ∧
((1114113 : Int) - y.r).toNat < ((1114113 : Int) - x.r).toNat)
(∃ (y : GSp),
Value.int IntKind.i32 ((if (55295 : Int) < x1.snd then (55295 : Int) else x1.snd) + (1 : Int)) =
Value.int IntKind.i32 y.r ∧
Value.slice x.a x.out.length x.c = Value.slice y.a y.out.length y.c ∧
(y.k ≤ (300 : Nat) ∧
y.out.length ≤ y.k ∧
(0 : Int) ≤ y.r ∧
y.r ≤ (1114112 : Int) ∧
(y.r < (55296 : Int) ∨ (57344 : Int) ≤ y.r) ∧
y.out ++ pick g.snd (segsF (tabT g.fst) ((300 : Nat) - y.k) y.r) = spansF (tabT g.fst) g.snd ∧
doneF (tabT g.fst) ((300 : Nat) - y.k) y.r = true ∧
Made w w'1 (38 : TypeId) (2 : Nat) y.a y.out.length (List.flatMap spV y.out) y.c) ∧
((1114113 : Int) - y.r).toNat < ((1114113 : Int) - x.r).toNat)))
(InR IntKind.i64 x1.fst ∧
bcase (x1.fst == g.snd)
(∀ (b : Nat) (w1 : World),
New w'1 (Obj.cells #[Value.int IntKind.i32 x.r, Value.int IntKind.i32 x1.snd] (38 : Nat)) b w1 →
∃ (a' : Option Addr),
∃ (c' : Nat),
∃ (w'2 : World),
AppRun Try.prog #[(34 : Nat), (34 : Nat)] (34 : Nat) (Value.slice x.a x.out.length x.c)
(Value.slice (some { block := b, off := (0 : Nat) }) (1 : Nat) (1 : Nat)) w1 a' (x.out.length + (1 : Nat)) c' w'2 ∧
KO w1 w'2 ∧
InR IntKind.i32 (x1.snd + (1 : Int)) ∧
bcase (x1.snd + (1 : Int) == (55296 : Int))
(∃ (y : GSp),
Value.int IntKind.i32 (57344 : Int) = Value.int IntKind.i32 y.r ∧
Value.slice a' (x.out.length + (1 : Nat)) c' = Value.slice y.a y.out.length y.c ∧
(y.k ≤ (300 : Nat) ∧
y.out.length ≤ y.k ∧
(0 : Int) ≤ y.r ∧
y.r ≤ (1114112 : Int) ∧
(y.r < (55296 : Int) ∨ (57344 : Int) ≤ y.r) ∧
y.out ++ pick g.snd (segsF (tabT g.fst) ((300 : Nat) - y.k) y.r) = spansF (tabT g.fst) g.snd ∧
doneF (tabT g.fst) ((300 : Nat) - y.k) y.r = true ∧
Made w w'2 (38 : TypeId) (2 : Nat) y.a y.out.length (List.flatMap spV y.out) y.c) ∧
((1114113 : Int) - y.r).toNat < ((1114113 : Int) - x.r).toNat)
(∃ (y : GSp),
Value.int IntKind.i32 (x1.snd + (1 : Int)) = Value.int IntKind.i32 y.r ∧
Value.slice a' (x.out.length + (1 : Nat)) c' = Value.slice y.a y.out.length y.c ∧
(y.k ≤ (300 : Nat) ∧
y.out.length ≤ y.k ∧
(0 : Int) ≤ y.r ∧
y.r ≤ (1114112 : Int) ∧
(y.r < (55296 : Int) ∨ (57344 : Int) ≤ y.r) ∧
y.out ++ pick g.snd (segsF (tabT g.fst) ((300 : Nat) - y.k) y.r) = spansF (tabT g.fst) g.snd ∧
doneF (tabT g.fst) ((300 : Nat) - y.k) y.r = true ∧
Made w w'2 (38 : TypeId) (2 : Nat) y.a y.out.length (List.flatMap spV y.out) y.c) ∧
((1114113 : Int) - y.r).toNat < ((1114113 : Int) - x.r).toNat))
(InR IntKind.i32 (x1.snd + (1 : Int)) ∧
bcase (x1.snd + (1 : Int) == (55296 : Int))
(∃ (y : GSp),
Value.int IntKind.i32 (57344 : Int) = Value.int IntKind.i32 y.r ∧
Value.slice x.a x.out.length x.c = Value.slice y.a y.out.length y.c ∧
(y.k ≤ (300 : Nat) ∧
y.out.length ≤ y.k ∧
(0 : Int) ≤ y.r ∧
y.r ≤ (1114112 : Int) ∧
(y.r < (55296 : Int) ∨ (57344 : Int) ≤ y.r) ∧
y.out ++ pick g.snd (segsF (tabT g.fst) ((300 : Nat) - y.k) y.r) = spansF (tabT g.fst) g.snd ∧
doneF (tabT g.fst) ((300 : Nat) - y.k) y.r = true ∧
Made w w'1 (38 : TypeId) (2 : Nat) y.a y.out.length (List.flatMap spV y.out) y.c) ∧
((1114113 : Int) - y.r).toNat < ((1114113 : Int) - x.r).toNat)
(∃ (y : GSp),
Value.int IntKind.i32 (x1.snd + (1 : Int)) = Value.int IntKind.i32 y.r ∧
Value.slice x.a x.out.length x.c = Value.slice y.a y.out.length y.c ∧
(y.k ≤ (300 : Nat) ∧
y.out.length ≤ y.k ∧
(0 : Int) ≤ y.r ∧
y.r ≤ (1114112 : Int) ∧
(y.r < (55296 : Int) ∨ (57344 : Int) ≤ y.r) ∧
y.out ++ pick g.snd (segsF (tabT g.fst) ((300 : Nat) - y.k) y.r) = spansF (tabT g.fst) g.snd ∧
doneF (tabT g.fst) ((300 : Nat) - y.k) y.r = true ∧
Made w w'1 (38 : TypeId) (2 : Nat) y.a y.out.length (List.flatMap spV y.out) y.c) ∧
((1114113 : Int) - y.r).toNat < ((1114113 : Int) - x.r).toNat))))
(∃ (x1 : Option Addr × Nat × Nat),
Value.slice x.a x.out.length x.c = Value.slice x1.fst x1.snd.fst x1.snd.snd ∧
x1.snd.fst = (spansT g.fst g.snd).length ∧
Made w w' (38 : TypeId) (2 : Nat) x1.fst x1.snd.fst (List.flatMap spV (spansT g.fst g.snd)) x1.snd.snd))
(bcase (g.fst == (2 : Int))
((∃ (x : GSp),
Value.int IntKind.i32 (0 : Int) = Value.int IntKind.i32 x.r ∧
Value.slice none (0 : Nat) (0 : Nat) = Value.slice x.a x.out.length x.c ∧
x.k ≤ (300 : Nat) ∧
x.out.length ≤ x.k ∧
(0 : Int) ≤ x.r ∧
x.r ≤ (1114112 : Int) ∧
(x.r < (55296 : Int) ∨ (57344 : Int) ≤ x.r) ∧
x.out ++ pick g.snd (segsF (tabT g.fst) ((300 : Nat) - x.k) x.r) = spansF (tabT g.fst) g.snd ∧
doneF (tabT g.fst) ((300 : Nat) - x.k) x.r = true ∧
Made w w (38 : TypeId) (2 : Nat) x.a x.out.length (List.flatMap spV x.out) x.c) ∧
∀ (u : Nat → Value) (x : GSp) (w' : World),
x.k ≤ (300 : Nat) ∧
x.out.length ≤ x.k ∧
(0 : Int) ≤ x.r ∧
x.r ≤ (1114112 : Int) ∧
(x.r < (55296 : Int) ∨ (57344 : Int) ≤ x.r) ∧
x.out ++ pick g.snd (segsF (tabT g.fst) ((300 : Nat) - x.k) x.r) = spansF (tabT g.fst) g.snd ∧
doneF (tabT g.fst) ((300 : Nat) - x.k) x.r = true ∧
Made w w' (38 : TypeId) (2 : Nat) x.a x.out.length (List.flatMap spV x.out) x.c →
bcase (decide (x.r ≤ (1114111 : Int)))
(∃ (g1 : Int),
#[Value.int IntKind.i32 x.r] = #[Value.int IntKind.i32 g1] ∧
True ∧
∀ (x1 : Int × Int) (w'1 : World),
FindOk widT (knownF g1) x1.fst x1.snd ∧ Ext w' w'1 →
bcase (decide (x.r < (55296 : Int)))
(InR IntKind.i64 x1.fst ∧
bcase (x1.fst == g.snd)
(∀ (b : Nat) (w1 : World),
New w'1
(Obj.cells
#[Value.int IntKind.i32 x.r, Value.int IntKind.i32 (if (55295 : Int) < x1.snd then (55295 : Int) else x1.snd)]
(38 : Nat))
b w1 →
∃ (a' : Option Addr),
∃ (c' : Nat),
∃ (w'2 : World),
AppRun Try.prog #[(34 : Nat), (34 : Nat)] (34 : Nat) (Value.slice x.a x.out.length x.c)
(Value.slice (some { block := b, off := (0 : Nat) }) (1 : Nat) (1 : Nat)) w1 a' (x.out.length + (1 : Nat)) c' w'2 ∧
KO w1 w'2 ∧
InR IntKind.i32 ((if (55295 : Int) < x1.snd then (55295 : Int) else x1.snd) + (1 : Int)) ∧
bcase ((if (55295 : Int) < x1.snd then (55295 : Int) else x1.snd) + (1 : Int) == (55296 : Int))
(∃ (y : GSp),
Value.int IntKind.i32 (57344 : Int) = Value.int IntKind.i32 y.r ∧
Value.slice a' (x.out.length + (1 : Nat)) c' = Value.slice y.a y.out.length y.c ∧
(y.k ≤ (300 : Nat) ∧
y.out.length ≤ y.k ∧
(0 : Int) ≤ y.r ∧
y.r ≤ (1114112 : Int) ∧
(y.r < (55296 : Int) ∨ (57344 : Int) ≤ y.r) ∧
y.out ++ pick g.snd (segsF (tabT g.fst) ((300 : Nat) - y.k) y.r) = spansF (tabT g.fst) g.snd ∧
doneF (tabT g.fst) ((300 : Nat) - y.k) y.r = true ∧
Made w w'2 (38 : TypeId) (2 : Nat) y.a y.out.length (List.flatMap spV y.out) y.c) ∧
((1114113 : Int) - y.r).toNat < ((1114113 : Int) - x.r).toNat)
(∃ (y : GSp),
Value.int IntKind.i32 ((if (55295 : Int) < x1.snd then (55295 : Int) else x1.snd) + (1 : Int)) =
Value.int IntKind.i32 y.r ∧
Value.slice a' (x.out.length + (1 : Nat)) c' = Value.slice y.a y.out.length y.c ∧
(y.k ≤ (300 : Nat) ∧
y.out.length ≤ y.k ∧
(0 : Int) ≤ y.r ∧
y.r ≤ (1114112 : Int) ∧
(y.r < (55296 : Int) ∨ (57344 : Int) ≤ y.r) ∧
y.out ++ pick g.snd (segsF (tabT g.fst) ((300 : Nat) - y.k) y.r) = spansF (tabT g.fst) g.snd ∧
doneF (tabT g.fst) ((300 : Nat) - y.k) y.r = true ∧
Made w w'2 (38 : TypeId) (2 : Nat) y.a y.out.length (List.flatMap spV y.out) y.c) ∧
((1114113 : Int) - y.r).toNat < ((1114113 : Int) - x.r).toNat))
(InR IntKind.i32 ((if (55295 : Int) < x1.snd then (55295 : Int) else x1.snd) + (1 : Int)) ∧
bcase ((if (55295 : Int) < x1.snd then (55295 : Int) else x1.snd) + (1 : Int) == (55296 : Int))
(∃ (y : GSp),
Value.int IntKind.i32 (57344 : Int) = Value.int IntKind.i32 y.r ∧
Value.slice x.a x.out.length x.c = Value.slice y.a y.out.length y.c ∧
(y.k ≤ (300 : Nat) ∧
y.out.length ≤ y.k ∧
(0 : Int) ≤ y.r ∧
y.r ≤ (1114112 : Int) ∧
(y.r < (55296 : Int) ∨ (57344 : Int) ≤ y.r) ∧
y.out ++ pick g.snd (segsF (tabT g.fst) ((300 : Nat) - y.k) y.r) = spansF (tabT g.fst) g.snd ∧
doneF (tabT g.fst) ((300 : Nat) - y.k) y.r = true ∧
Made w w'1 (38 : TypeId) (2 : Nat) y.a y.out.length (List.flatMap spV y.out) y.c) ∧
((1114113 : Int) - y.r).toNat < ((1114113 : Int) - x.r).toNat)
(∃ (y : GSp),
Value.int IntKind.i32 ((if (55295 : Int) < x1.snd then (55295 : Int) else x1.snd) + (1 : Int)) =
Value.int IntKind.i32 y.r ∧
Value.slice x.a x.out.length x.c = Value.slice y.a y.out.length y.c ∧
(y.k ≤ (300 : Nat) ∧
y.out.length ≤ y.k ∧
(0 : Int) ≤ y.r ∧
y.r ≤ (1114112 : Int) ∧
(y.r < (55296 : Int) ∨ (57344 : Int) ≤ y.r) ∧
y.out ++ pick g.snd (segsF (tabT g.fst) ((300 : Nat) - y.k) y.r) = spansF (tabT g.fst) g.snd ∧
doneF (tabT g.fst) ((300 : Nat) - y.k) y.r = true ∧
Made w w'1 (38 : TypeId) (2 : Nat) y.a y.out.length (List.flatMap spV y.out) y.c) ∧
((1114113 : Int) - y.r).toNat < ((1114113 : Int) - x.r).toNat)))
(InR IntKind.i64 x1.fst ∧
bcase (x1.fst == g.snd)
(∀ (b : Nat) (w1 : World),
New w'1 (Obj.cells #[Value.int IntKind.i32 x.r, Value.int IntKind.i32 x1.snd] (38 : Nat)) b w1 →
∃ (a' : Option Addr),
∃ (c' : Nat),
∃ (w'2 : World),
AppRun Try.prog #[(34 : Nat), (34 : Nat)] (34 : Nat) (Value.slice x.a x.out.length x.c)
(Value.slice (some { block := b, off := (0 : Nat) }) (1 : Nat) (1 : Nat)) w1 a' (x.out.length + (1 : Nat)) c' w'2 ∧
KO w1 w'2 ∧
InR IntKind.i32 (x1.snd + (1 : Int)) ∧
bcase (x1.snd + (1 : Int) == (55296 : Int))
(∃ (y : GSp),
Value.int IntKind.i32 (57344 : Int) = Value.int IntKind.i32 y.r ∧
Value.slice a' (x.out.length + (1 : Nat)) c' = Value.slice y.a y.out.length y.c ∧
(y.k ≤ (300 : Nat) ∧
y.out.length ≤ y.k ∧
(0 : Int) ≤ y.r ∧
y.r ≤ (1114112 : Int) ∧
(y.r < (55296 : Int) ∨ (57344 : Int) ≤ y.r) ∧
y.out ++ pick g.snd (segsF (tabT g.fst) ((300 : Nat) - y.k) y.r) = spansF (tabT g.fst) g.snd ∧
doneF (tabT g.fst) ((300 : Nat) - y.k) y.r = true ∧
Made w w'2 (38 : TypeId) (2 : Nat) y.a y.out.length (List.flatMap spV y.out) y.c) ∧
((1114113 : Int) - y.r).toNat < ((1114113 : Int) - x.r).toNat)
(∃ (y : GSp),
Value.int IntKind.i32 (x1.snd + (1 : Int)) = Value.int IntKind.i32 y.r ∧
Value.slice a' (x.out.length + (1 : Nat)) c' = Value.slice y.a y.out.length y.c ∧
(y.k ≤ (300 : Nat) ∧
y.out.length ≤ y.k ∧
(0 : Int) ≤ y.r ∧
y.r ≤ (1114112 : Int) ∧
(y.r < (55296 : Int) ∨ (57344 : Int) ≤ y.r) ∧
y.out ++ pick g.snd (segsF (tabT g.fst) ((300 : Nat) - y.k) y.r) = spansF (tabT g.fst) g.snd ∧
doneF (tabT g.fst) ((300 : Nat) - y.k) y.r = true ∧
Made w w'2 (38 : TypeId) (2 : Nat) y.a y.out.length (List.flatMap spV y.out) y.c) ∧
((1114113 : Int) - y.r).toNat < ((1114113 : Int) - x.r).toNat))
(InR IntKind.i32 (x1.snd + (1 : Int)) ∧
bcase (x1.snd + (1 : Int) == (55296 : Int))
(∃ (y : GSp),
Value.int IntKind.i32 (57344 : Int) = Value.int IntKind.i32 y.r ∧
Value.slice x.a x.out.length x.c = Value.slice y.a y.out.length y.c ∧
(y.k ≤ (300 : Nat) ∧
y.out.length ≤ y.k ∧
(0 : Int) ≤ y.r ∧
y.r ≤ (1114112 : Int) ∧
(y.r < (55296 : Int) ∨ (57344 : Int) ≤ y.r) ∧
y.out ++ pick g.snd (segsF (tabT g.fst) ((300 : Nat) - y.k) y.r) = spansF (tabT g.fst) g.snd ∧
doneF (tabT g.fst) ((300 : Nat) - y.k) y.r = true ∧
Made w w'1 (38 : TypeId) (2 : Nat) y.a y.out.length (List.flatMap spV y.out) y.c) ∧
((1114113 : Int) - y.r).toNat < ((1114113 : Int) - x.r).toNat)
(∃ (y : GSp),
Value.int IntKind.i32 (x1.snd + (1 : Int)) = Value.int IntKind.i32 y.r ∧
Value.slice x.a x.out.length x.c = Value.slice y.a y.out.length y.c ∧
(y.k ≤ (300 : Nat) ∧
y.out.length ≤ y.k ∧
(0 : Int) ≤ y.r ∧
y.r ≤ (1114112 : Int) ∧
(y.r < (55296 : Int) ∨ (57344 : Int) ≤ y.r) ∧
y.out ++ pick g.snd (segsF (tabT g.fst) ((300 : Nat) - y.k) y.r) = spansF (tabT g.fst) g.snd ∧
doneF (tabT g.fst) ((300 : Nat) - y.k) y.r = true ∧
Made w w'1 (38 : TypeId) (2 : Nat) y.a y.out.length (List.flatMap spV y.out) y.c) ∧
((1114113 : Int) - y.r).toNat < ((1114113 : Int) - x.r).toNat))))
(∃ (x1 : Option Addr × Nat × Nat),
Value.slice x.a x.out.length x.c = Value.slice x1.fst x1.snd.fst x1.snd.snd ∧
x1.snd.fst = (spansT g.fst g.snd).length ∧
Made w w' (38 : TypeId) (2 : Nat) x1.fst x1.snd.fst (List.flatMap spV (spansT g.fst g.snd)) x1.snd.snd))
(bcase (g.fst == (3 : Int))
((∃ (x : GSp),
Value.int IntKind.i32 (0 : Int) = Value.int IntKind.i32 x.r ∧
Value.slice none (0 : Nat) (0 : Nat) = Value.slice x.a x.out.length x.c ∧
x.k ≤ (300 : Nat) ∧
x.out.length ≤ x.k ∧
(0 : Int) ≤ x.r ∧
x.r ≤ (1114112 : Int) ∧
(x.r < (55296 : Int) ∨ (57344 : Int) ≤ x.r) ∧
x.out ++ pick g.snd (segsF (tabT g.fst) ((300 : Nat) - x.k) x.r) = spansF (tabT g.fst) g.snd ∧
doneF (tabT g.fst) ((300 : Nat) - x.k) x.r = true ∧
Made w w (38 : TypeId) (2 : Nat) x.a x.out.length (List.flatMap spV x.out) x.c) ∧
∀ (u : Nat → Value) (x : GSp) (w' : World),
x.k ≤ (300 : Nat) ∧
x.out.length ≤ x.k ∧
(0 : Int) ≤ x.r ∧
x.r ≤ (1114112 : Int) ∧
(x.r < (55296 : Int) ∨ (57344 : Int) ≤ x.r) ∧
x.out ++ pick g.snd (segsF (tabT g.fst) ((300 : Nat) - x.k) x.r) = spansF (tabT g.fst) g.snd ∧
doneF (tabT g.fst) ((300 : Nat) - x.k) x.r = true ∧
Made w w' (38 : TypeId) (2 : Nat) x.a x.out.length (List.flatMap spV x.out) x.c →
bcase (decide (x.r ≤ (1114111 : Int)))
(∃ (g1 : Int),
#[Value.int IntKind.i32 x.r] = #[Value.int IntKind.i32 g1] ∧
True ∧
∀ (x1 : Int × Int) (w'1 : World),
FindOk markT (knownF g1) x1.fst x1.snd ∧ Ext w' w'1 →
bcase (decide (x.r < (55296 : Int)))
(InR IntKind.i64 x1.fst ∧
bcase (x1.fst == g.snd)
(∀ (b : Nat) (w1 : World),
New w'1
(Obj.cells
#[Value.int IntKind.i32 x.r, Value.int IntKind.i32 (if (55295 : Int) < x1.snd then (55295 : Int) else x1.snd)]
(38 : Nat))
b w1 →
∃ (a' : Option Addr),
∃ (c' : Nat),
∃ (w'2 : World),
AppRun Try.prog #[(34 : Nat), (34 : Nat)] (34 : Nat) (Value.slice x.a x.out.length x.c)
(Value.slice (some { block := b, off := (0 : Nat) }) (1 : Nat) (1 : Nat)) w1 a' (x.out.length + (1 : Nat)) c' w'2 ∧
KO w1 w'2 ∧
InR IntKind.i32 ((if (55295 : Int) < x1.snd then (55295 : Int) else x1.snd) + (1 : Int)) ∧
bcase ((if (55295 : Int) < x1.snd then (55295 : Int) else x1.snd) + (1 : Int) == (55296 : Int))
(∃ (y : GSp),
Value.int IntKind.i32 (57344 : Int) = Value.int IntKind.i32 y.r ∧
Value.slice a' (x.out.length + (1 : Nat)) c' = Value.slice y.a y.out.length y.c ∧
(y.k ≤ (300 : Nat) ∧
y.out.length ≤ y.k ∧
(0 : Int) ≤ y.r ∧
y.r ≤ (1114112 : Int) ∧
(y.r < (55296 : Int) ∨ (57344 : Int) ≤ y.r) ∧
y.out ++ pick g.snd (segsF (tabT g.fst) ((300 : Nat) - y.k) y.r) = spansF (tabT g.fst) g.snd ∧
doneF (tabT g.fst) ((300 : Nat) - y.k) y.r = true ∧
Made w w'2 (38 : TypeId) (2 : Nat) y.a y.out.length (List.flatMap spV y.out) y.c) ∧
((1114113 : Int) - y.r).toNat < ((1114113 : Int) - x.r).toNat)
(∃ (y : GSp),
Value.int IntKind.i32 ((if (55295 : Int) < x1.snd then (55295 : Int) else x1.snd) + (1 : Int)) =
Value.int IntKind.i32 y.r ∧
Value.slice a' (x.out.length + (1 : Nat)) c' = Value.slice y.a y.out.length y.c ∧
(y.k ≤ (300 : Nat) ∧
y.out.length ≤ y.k ∧
(0 : Int) ≤ y.r ∧
y.r ≤ (1114112 : Int) ∧
(y.r < (55296 : Int) ∨ (57344 : Int) ≤ y.r) ∧
y.out ++ pick g.snd (segsF (tabT g.fst) ((300 : Nat) - y.k) y.r) = spansF (tabT g.fst) g.snd ∧
doneF (tabT g.fst) ((300 : Nat) - y.k) y.r = true ∧
Made w w'2 (38 : TypeId) (2 : Nat) y.a y.out.length (List.flatMap spV y.out) y.c) ∧
((1114113 : Int) - y.r).toNat < ((1114113 : Int) - x.r).toNat))
(InR IntKind.i32 ((if (55295 : Int) < x1.snd then (55295 : Int) else x1.snd) + (1 : Int)) ∧
bcase ((if (55295 : Int) < x1.snd then (55295 : Int) else x1.snd) + (1 : Int) == (55296 : Int))
(∃ (y : GSp),
Value.int IntKind.i32 (57344 : Int) = Value.int IntKind.i32 y.r ∧
Value.slice x.a x.out.length x.c = Value.slice y.a y.out.length y.c ∧
(y.k ≤ (300 : Nat) ∧
y.out.length ≤ y.k ∧
(0 : Int) ≤ y.r ∧
y.r ≤ (1114112 : Int) ∧
(y.r < (55296 : Int) ∨ (57344 : Int) ≤ y.r) ∧
y.out ++ pick g.snd (segsF (tabT g.fst) ((300 : Nat) - y.k) y.r) = spansF (tabT g.fst) g.snd ∧
doneF (tabT g.fst) ((300 : Nat) - y.k) y.r = true ∧
Made w w'1 (38 : TypeId) (2 : Nat) y.a y.out.length (List.flatMap spV y.out) y.c) ∧
((1114113 : Int) - y.r).toNat < ((1114113 : Int) - x.r).toNat)
(∃ (y : GSp),
Value.int IntKind.i32 ((if (55295 : Int) < x1.snd then (55295 : Int) else x1.snd) + (1 : Int)) =
Value.int IntKind.i32 y.r ∧
Value.slice x.a x.out.length x.c = Value.slice y.a y.out.length y.c ∧
(y.k ≤ (300 : Nat) ∧
y.out.length ≤ y.k ∧
(0 : Int) ≤ y.r ∧
y.r ≤ (1114112 : Int) ∧
(y.r < (55296 : Int) ∨ (57344 : Int) ≤ y.r) ∧
y.out ++ pick g.snd (segsF (tabT g.fst) ((300 : Nat) - y.k) y.r) = spansF (tabT g.fst) g.snd ∧
doneF (tabT g.fst) ((300 : Nat) - y.k) y.r = true ∧
Made w w'1 (38 : TypeId) (2 : Nat) y.a y.out.length (List.flatMap spV y.out) y.c) ∧
((1114113 : Int) - y.r).toNat < ((1114113 : Int) - x.r).toNat)))
(InR IntKind.i64 x1.fst ∧
bcase (x1.fst == g.snd)
(∀ (b : Nat) (w1 : World),
New w'1 (Obj.cells #[Value.int IntKind.i32 x.r, Value.int IntKind.i32 x1.snd] (38 : Nat)) b w1 →
∃ (a' : Option Addr),
∃ (c' : Nat),
∃ (w'2 : World),
AppRun Try.prog #[(34 : Nat), (34 : Nat)] (34 : Nat) (Value.slice x.a x.out.length x.c)
(Value.slice (some { block := b, off := (0 : Nat) }) (1 : Nat) (1 : Nat)) w1 a' (x.out.length + (1 : Nat)) c' w'2 ∧
KO w1 w'2 ∧
InR IntKind.i32 (x1.snd + (1 : Int)) ∧
bcase (x1.snd + (1 : Int) == (55296 : Int))
(∃ (y : GSp),
Value.int IntKind.i32 (57344 : Int) = Value.int IntKind.i32 y.r ∧
Value.slice a' (x.out.length + (1 : Nat)) c' = Value.slice y.a y.out.length y.c ∧
(y.k ≤ (300 : Nat) ∧
y.out.length ≤ y.k ∧
(0 : Int) ≤ y.r ∧
y.r ≤ (1114112 : Int) ∧
(y.r < (55296 : Int) ∨ (57344 : Int) ≤ y.r) ∧
y.out ++ pick g.snd (segsF (tabT g.fst) ((300 : Nat) - y.k) y.r) = spansF (tabT g.fst) g.snd ∧
doneF (tabT g.fst) ((300 : Nat) - y.k) y.r = true ∧
Made w w'2 (38 : TypeId) (2 : Nat) y.a y.out.length (List.flatMap spV y.out) y.c) ∧
((1114113 : Int) - y.r).toNat < ((1114113 : Int) - x.r).toNat)
(∃ (y : GSp),
Value.int IntKind.i32 (x1.snd + (1 : Int)) = Value.int IntKind.i32 y.r ∧
Value.slice a' (x.out.length + (1 : Nat)) c' = Value.slice y.a y.out.length y.c ∧
(y.k ≤ (300 : Nat) ∧
y.out.length ≤ y.k ∧
(0 : Int) ≤ y.r ∧
y.r ≤ (1114112 : Int) ∧
(y.r < (55296 : Int) ∨ (57344 : Int) ≤ y.r) ∧
y.out ++ pick g.snd (segsF (tabT g.fst) ((300 : Nat) - y.k) y.r) = spansF (tabT g.fst) g.snd ∧
doneF (tabT g.fst) ((300 : Nat) - y.k) y.r = true ∧
Made w w'2 (38 : TypeId) (2 : Nat) y.a y.out.length (List.flatMap spV y.out) y.c) ∧
((1114113 : Int) - y.r).toNat < ((1114113 : Int) - x.r).toNat))
(InR IntKind.i32 (x1.snd + (1 : Int)) ∧
bcase (x1.snd + (1 : Int) == (55296 : Int))
(∃ (y : GSp),
Value.int IntKind.i32 (57344 : Int) = Value.int IntKind.i32 y.r ∧
Value.slice x.a x.out.length x.c = Value.slice y.a y.out.length y.c ∧
(y.k ≤ (300 : Nat) ∧
y.out.length ≤ y.k ∧
(0 : Int) ≤ y.r ∧
y.r ≤ (1114112 : Int) ∧
(y.r < (55296 : Int) ∨ (57344 : Int) ≤ y.r) ∧
y.out ++ pick g.snd (segsF (tabT g.fst) ((300 : Nat) - y.k) y.r) = spansF (tabT g.fst) g.snd ∧
doneF (tabT g.fst) ((300 : Nat) - y.k) y.r = true ∧
Made w w'1 (38 : TypeId) (2 : Nat) y.a y.out.length (List.flatMap spV y.out) y.c) ∧
((1114113 : Int) - y.r).toNat < ((1114113 : Int) - x.r).toNat)
(∃ (y : GSp),
Value.int IntKind.i32 (x1.snd + (1 : Int)) = Value.int IntKind.i32 y.r ∧
Value.slice x.a x.out.length x.c = Value.slice y.a y.out.length y.c ∧
(y.k ≤ (300 : Nat) ∧
y.out.length ≤ y.k ∧
(0 : Int) ≤ y.r ∧
y.r ≤ (1114112 : Int) ∧
(y.r < (55296 : Int) ∨ (57344 : Int) ≤ y.r) ∧
y.out ++ pick g.snd (segsF (tabT g.fst) ((300 : Nat) - y.k) y.r) = spansF (tabT g.fst) g.snd ∧
doneF (tabT g.fst) ((300 : Nat) - y.k) y.r = true ∧
Made w w'1 (38 : TypeId) (2 : Nat) y.a y.out.length (List.flatMap spV y.out) y.c) ∧
((1114113 : Int) - y.r).toNat < ((1114113 : Int) - x.r).toNat))))
(∃ (x1 : Option Addr × Nat × Nat),
Value.slice x.a x.out.length x.c = Value.slice x1.fst x1.snd.fst x1.snd.snd ∧
x1.snd.fst = (spansT g.fst g.snd).length ∧
Made w w' (38 : TypeId) (2 : Nat) x1.fst x1.snd.fst (List.flatMap spV (spansT g.fst g.snd)) x1.snd.snd))
(bcase (g.fst == (4 : Int))
((∃ (x : GSp),
Value.int IntKind.i32 (0 : Int) = Value.int IntKind.i32 x.r ∧
Value.slice none (0 : Nat) (0 : Nat) = Value.slice x.a x.out.length x.c ∧
x.k ≤ (300 : Nat) ∧
x.out.length ≤ x.k ∧
(0 : Int) ≤ x.r ∧
x.r ≤ (1114112 : Int) ∧
(x.r < (55296 : Int) ∨ (57344 : Int) ≤ x.r) ∧
x.out ++ pick g.snd (segsF (tabT g.fst) ((300 : Nat) - x.k) x.r) = spansF (tabT g.fst) g.snd ∧
doneF (tabT g.fst) ((300 : Nat) - x.k) x.r = true ∧
Made w w (38 : TypeId) (2 : Nat) x.a x.out.length (List.flatMap spV x.out) x.c) ∧
∀ (u : Nat → Value) (x : GSp) (w' : World),
x.k ≤ (300 : Nat) ∧
x.out.length ≤ x.k ∧
(0 : Int) ≤ x.r ∧
x.r ≤ (1114112 : Int) ∧
(x.r < (55296 : Int) ∨ (57344 : Int) ≤ x.r) ∧
x.out ++ pick g.snd (segsF (tabT g.fst) ((300 : Nat) - x.k) x.r) = spansF (tabT g.fst) g.snd ∧
doneF (tabT g.fst) ((300 : Nat) - x.k) x.r = true ∧
Made w w' (38 : TypeId) (2 : Nat) x.a x.out.length (List.flatMap spV x.out) x.c →
bcase (decide (x.r ≤ (1114111 : Int)))
(∃ (g1 : Int),
#[Value.int IntKind.i32 x.r] = #[Value.int IntKind.i32 g1] ∧
True ∧
∀ (x1 : Int × Int) (w'1 : World),
FindOk joinT (knownF g1) x1.fst x1.snd ∧ Ext w' w'1 →
bcase (decide (x.r < (55296 : Int)))
(InR IntKind.i64 x1.fst ∧
bcase (x1.fst == g.snd)
(∀ (b : Nat) (w1 : World),
New w'1
(Obj.cells
#[Value.int IntKind.i32 x.r, Value.int IntKind.i32 (if (55295 : Int) < x1.snd then (55295 : Int) else x1.snd)]
(38 : Nat))
b w1 →
∃ (a' : Option Addr),
∃ (c' : Nat),
∃ (w'2 : World),
AppRun Try.prog #[(34 : Nat), (34 : Nat)] (34 : Nat) (Value.slice x.a x.out.length x.c)
(Value.slice (some { block := b, off := (0 : Nat) }) (1 : Nat) (1 : Nat)) w1 a' (x.out.length + (1 : Nat)) c' w'2 ∧
KO w1 w'2 ∧
InR IntKind.i32 ((if (55295 : Int) < x1.snd then (55295 : Int) else x1.snd) + (1 : Int)) ∧
bcase ((if (55295 : Int) < x1.snd then (55295 : Int) else x1.snd) + (1 : Int) == (55296 : Int))
(∃ (y : GSp),
Value.int IntKind.i32 (57344 : Int) = Value.int IntKind.i32 y.r ∧
Value.slice a' (x.out.length + (1 : Nat)) c' = Value.slice y.a y.out.length y.c ∧
(y.k ≤ (300 : Nat) ∧
y.out.length ≤ y.k ∧
(0 : Int) ≤ y.r ∧
y.r ≤ (1114112 : Int) ∧
(y.r < (55296 : Int) ∨ (57344 : Int) ≤ y.r) ∧
y.out ++ pick g.snd (segsF (tabT g.fst) ((300 : Nat) - y.k) y.r) = spansF (tabT g.fst) g.snd ∧
doneF (tabT g.fst) ((300 : Nat) - y.k) y.r = true ∧
Made w w'2 (38 : TypeId) (2 : Nat) y.a y.out.length (List.flatMap spV y.out) y.c) ∧
((1114113 : Int) - y.r).toNat < ((1114113 : Int) - x.r).toNat)
(∃ (y : GSp),
Value.int IntKind.i32 ((if (55295 : Int) < x1.snd then (55295 : Int) else x1.snd) + (1 : Int)) =
Value.int IntKind.i32 y.r ∧
Value.slice a' (x.out.length + (1 : Nat)) c' = Value.slice y.a y.out.length y.c ∧
(y.k ≤ (300 : Nat) ∧
y.out.length ≤ y.k ∧
(0 : Int) ≤ y.r ∧
y.r ≤ (1114112 : Int) ∧
(y.r < (55296 : Int) ∨ (57344 : Int) ≤ y.r) ∧
y.out ++ pick g.snd (segsF (tabT g.fst) ((300 : Nat) - y.k) y.r) = spansF (tabT g.fst) g.snd ∧
doneF (tabT g.fst) ((300 : Nat) - y.k) y.r = true ∧
Made w w'2 (38 : TypeId) (2 : Nat) y.a y.out.length (List.flatMap spV y.out) y.c) ∧
((1114113 : Int) - y.r).toNat < ((1114113 : Int) - x.r).toNat))
(InR IntKind.i32 ((if (55295 : Int) < x1.snd then (55295 : Int) else x1.snd) + (1 : Int)) ∧
bcase ((if (55295 : Int) < x1.snd then (55295 : Int) else x1.snd) + (1 : Int) == (55296 : Int))
(∃ (y : GSp),
Value.int IntKind.i32 (57344 : Int) = Value.int IntKind.i32 y.r ∧
Value.slice x.a x.out.length x.c = Value.slice y.a y.out.length y.c ∧
(y.k ≤ (300 : Nat) ∧
y.out.length ≤ y.k ∧
(0 : Int) ≤ y.r ∧
y.r ≤ (1114112 : Int) ∧
(y.r < (55296 : Int) ∨ (57344 : Int) ≤ y.r) ∧
y.out ++ pick g.snd (segsF (tabT g.fst) ((300 : Nat) - y.k) y.r) = spansF (tabT g.fst) g.snd ∧
doneF (tabT g.fst) ((300 : Nat) - y.k) y.r = true ∧
Made w w'1 (38 : TypeId) (2 : Nat) y.a y.out.length (List.flatMap spV y.out) y.c) ∧
((1114113 : Int) - y.r).toNat < ((1114113 : Int) - x.r).toNat)
(∃ (y : GSp),
Value.int IntKind.i32 ((if (55295 : Int) < x1.snd then (55295 : Int) else x1.snd) + (1 : Int)) =
Value.int IntKind.i32 y.r ∧
Value.slice x.a x.out.length x.c = Value.slice y.a y.out.length y.c ∧
(y.k ≤ (300 : Nat) ∧
y.out.length ≤ y.k ∧
(0 : Int) ≤ y.r ∧
y.r ≤ (1114112 : Int) ∧
(y.r < (55296 : Int) ∨ (57344 : Int) ≤ y.r) ∧
y.out ++ pick g.snd (segsF (tabT g.fst) ((300 : Nat) - y.k) y.r) = spansF (tabT g.fst) g.snd ∧
doneF (tabT g.fst) ((300 : Nat) - y.k) y.r = true ∧
Made w w'1 (38 : TypeId) (2 : Nat) y.a y.out.length (List.flatMap spV y.out) y.c) ∧
((1114113 : Int) - y.r).toNat < ((1114113 : Int) - x.r).toNat)))
(InR IntKind.i64 x1.fst ∧
bcase (x1.fst == g.snd)
(∀ (b : Nat) (w1 : World),
New w'1 (Obj.cells #[Value.int IntKind.i32 x.r, Value.int IntKind.i32 x1.snd] (38 : Nat)) b w1 →
∃ (a' : Option Addr),
∃ (c' : Nat),
∃ (w'2 : World),
AppRun Try.prog #[(34 : Nat), (34 : Nat)] (34 : Nat) (Value.slice x.a x.out.length x.c)
(Value.slice (some { block := b, off := (0 : Nat) }) (1 : Nat) (1 : Nat)) w1 a' (x.out.length + (1 : Nat)) c' w'2 ∧
KO w1 w'2 ∧
InR IntKind.i32 (x1.snd + (1 : Int)) ∧
bcase (x1.snd + (1 : Int) == (55296 : Int))
(∃ (y : GSp),
Value.int IntKind.i32 (57344 : Int) = Value.int IntKind.i32 y.r ∧
Value.slice a' (x.out.length + (1 : Nat)) c' = Value.slice y.a y.out.length y.c ∧
(y.k ≤ (300 : Nat) ∧
y.out.length ≤ y.k ∧
(0 : Int) ≤ y.r ∧
y.r ≤ (1114112 : Int) ∧
(y.r < (55296 : Int) ∨ (57344 : Int) ≤ y.r) ∧
y.out ++ pick g.snd (segsF (tabT g.fst) ((300 : Nat) - y.k) y.r) = spansF (tabT g.fst) g.snd ∧
doneF (tabT g.fst) ((300 : Nat) - y.k) y.r = true ∧
Made w w'2 (38 : TypeId) (2 : Nat) y.a y.out.length (List.flatMap spV y.out) y.c) ∧
((1114113 : Int) - y.r).toNat < ((1114113 : Int) - x.r).toNat)
(∃ (y : GSp),
Value.int IntKind.i32 (x1.snd + (1 : Int)) = Value.int IntKind.i32 y.r ∧
Value.slice a' (x.out.length + (1 : Nat)) c' = Value.slice y.a y.out.length y.c ∧
(y.k ≤ (300 : Nat) ∧
y.out.length ≤ y.k ∧
(0 : Int) ≤ y.r ∧
y.r ≤ (1114112 : Int) ∧
(y.r < (55296 : Int) ∨ (57344 : Int) ≤ y.r) ∧
y.out ++ pick g.snd (segsF (tabT g.fst) ((300 : Nat) - y.k) y.r) = spansF (tabT g.fst) g.snd ∧
doneF (tabT g.fst) ((300 : Nat) - y.k) y.r = true ∧
Made w w'2 (38 : TypeId) (2 : Nat) y.a y.out.length (List.flatMap spV y.out) y.c) ∧
((1114113 : Int) - y.r).toNat < ((1114113 : Int) - x.r).toNat))
(InR IntKind.i32 (x1.snd + (1 : Int)) ∧
bcase (x1.snd + (1 : Int) == (55296 : Int))
(∃ (y : GSp),
Value.int IntKind.i32 (57344 : Int) = Value.int IntKind.i32 y.r ∧
Value.slice x.a x.out.length x.c = Value.slice y.a y.out.length y.c ∧
(y.k ≤ (300 : Nat) ∧
y.out.length ≤ y.k ∧
(0 : Int) ≤ y.r ∧
y.r ≤ (1114112 : Int) ∧
(y.r < (55296 : Int) ∨ (57344 : Int) ≤ y.r) ∧
y.out ++ pick g.snd (segsF (tabT g.fst) ((300 : Nat) - y.k) y.r) = spansF (tabT g.fst) g.snd ∧
doneF (tabT g.fst) ((300 : Nat) - y.k) y.r = true ∧
Made w w'1 (38 : TypeId) (2 : Nat) y.a y.out.length (List.flatMap spV y.out) y.c) ∧
((1114113 : Int) - y.r).toNat < ((1114113 : Int) - x.r).toNat)
(∃ (y : GSp),
Value.int IntKind.i32 (x1.snd + (1 : Int)) = Value.int IntKind.i32 y.r ∧
Value.slice x.a x.out.length x.c = Value.slice y.a y.out.length y.c ∧
(y.k ≤ (300 : Nat) ∧
y.out.length ≤ y.k ∧
(0 : Int) ≤ y.r ∧
y.r ≤ (1114112 : Int) ∧
(y.r < (55296 : Int) ∨ (57344 : Int) ≤ y.r) ∧
y.out ++ pick g.snd (segsF (tabT g.fst) ((300 : Nat) - y.k) y.r) = spansF (tabT g.fst) g.snd ∧
doneF (tabT g.fst) ((300 : Nat) - y.k) y.r = true ∧
Made w w'1 (38 : TypeId) (2 : Nat) y.a y.out.length (List.flatMap spV y.out) y.c) ∧
((1114113 : Int) - y.r).toNat < ((1114113 : Int) - x.r).toNat))))
(∃ (x1 : Option Addr × Nat × Nat),
Value.slice x.a x.out.length x.c = Value.slice x1.fst x1.snd.fst x1.snd.snd ∧
x1.snd.fst = (spansT g.fst g.snd).length ∧
Made w w' (38 : TypeId) (2 : Nat) x1.fst x1.snd.fst (List.flatMap spV (spansT g.fst g.snd)) x1.snd.snd))
(bcase (g.fst == (5 : Int))
((∃ (x : GSp),
Value.int IntKind.i32 (0 : Int) = Value.int IntKind.i32 x.r ∧
Value.slice none (0 : Nat) (0 : Nat) = Value.slice x.a x.out.length x.c ∧
x.k ≤ (300 : Nat) ∧
x.out.length ≤ x.k ∧
(0 : Int) ≤ x.r ∧
x.r ≤ (1114112 : Int) ∧
(x.r < (55296 : Int) ∨ (57344 : Int) ≤ x.r) ∧
x.out ++ pick g.snd (segsF (tabT g.fst) ((300 : Nat) - x.k) x.r) = spansF (tabT g.fst) g.snd ∧
doneF (tabT g.fst) ((300 : Nat) - x.k) x.r = true ∧
Made w w (38 : TypeId) (2 : Nat) x.a x.out.length (List.flatMap spV x.out) x.c) ∧
∀ (u : Nat → Value) (x : GSp) (w' : World),
x.k ≤ (300 : Nat) ∧
x.out.length ≤ x.k ∧
(0 : Int) ≤ x.r ∧
x.r ≤ (1114112 : Int) ∧
(x.r < (55296 : Int) ∨ (57344 : Int) ≤ x.r) ∧
x.out ++ pick g.snd (segsF (tabT g.fst) ((300 : Nat) - x.k) x.r) = spansF (tabT g.fst) g.snd ∧
doneF (tabT g.fst) ((300 : Nat) - x.k) x.r = true ∧
Made w w' (38 : TypeId) (2 : Nat) x.a x.out.length (List.flatMap spV x.out) x.c →
bcase (decide (x.r ≤ (1114111 : Int)))
(∃ (g1 : Int),
#[Value.int IntKind.i32 x.r] = #[Value.int IntKind.i32 g1] ∧
True ∧
∀ (x1 : Int × Int) (w'1 : World),
FindOk brkT (knownF g1) x1.fst x1.snd ∧ Ext w' w'1 →
bcase (decide (x.r < (55296 : Int)))
(InR IntKind.i64 x1.fst ∧
bcase (x1.fst == g.snd)
(∀ (b : Nat) (w1 : World),
New w'1
(Obj.cells
#[Value.int IntKind.i32 x.r, Value.int IntKind.i32 (if (55295 : Int) < x1.snd then (55295 : Int) else x1.snd)]
(38 : Nat))
b w1 →
∃ (a' : Option Addr),
∃ (c' : Nat),
∃ (w'2 : World),
AppRun Try.prog #[(34 : Nat), (34 : Nat)] (34 : Nat) (Value.slice x.a x.out.length x.c)
(Value.slice (some { block := b, off := (0 : Nat) }) (1 : Nat) (1 : Nat)) w1 a' (x.out.length + (1 : Nat)) c' w'2 ∧
KO w1 w'2 ∧
InR IntKind.i32 ((if (55295 : Int) < x1.snd then (55295 : Int) else x1.snd) + (1 : Int)) ∧
bcase ((if (55295 : Int) < x1.snd then (55295 : Int) else x1.snd) + (1 : Int) == (55296 : Int))
(∃ (y : GSp),
Value.int IntKind.i32 (57344 : Int) = Value.int IntKind.i32 y.r ∧
Value.slice a' (x.out.length + (1 : Nat)) c' = Value.slice y.a y.out.length y.c ∧
(y.k ≤ (300 : Nat) ∧
y.out.length ≤ y.k ∧
(0 : Int) ≤ y.r ∧
y.r ≤ (1114112 : Int) ∧
(y.r < (55296 : Int) ∨ (57344 : Int) ≤ y.r) ∧
y.out ++ pick g.snd (segsF (tabT g.fst) ((300 : Nat) - y.k) y.r) = spansF (tabT g.fst) g.snd ∧
doneF (tabT g.fst) ((300 : Nat) - y.k) y.r = true ∧
Made w w'2 (38 : TypeId) (2 : Nat) y.a y.out.length (List.flatMap spV y.out) y.c) ∧
((1114113 : Int) - y.r).toNat < ((1114113 : Int) - x.r).toNat)
(∃ (y : GSp),
Value.int IntKind.i32 ((if (55295 : Int) < x1.snd then (55295 : Int) else x1.snd) + (1 : Int)) =
Value.int IntKind.i32 y.r ∧
Value.slice a' (x.out.length + (1 : Nat)) c' = Value.slice y.a y.out.length y.c ∧
(y.k ≤ (300 : Nat) ∧
y.out.length ≤ y.k ∧
(0 : Int) ≤ y.r ∧
y.r ≤ (1114112 : Int) ∧
(y.r < (55296 : Int) ∨ (57344 : Int) ≤ y.r) ∧
y.out ++ pick g.snd (segsF (tabT g.fst) ((300 : Nat) - y.k) y.r) = spansF (tabT g.fst) g.snd ∧
doneF (tabT g.fst) ((300 : Nat) - y.k) y.r = true ∧
Made w w'2 (38 : TypeId) (2 : Nat) y.a y.out.length (List.flatMap spV y.out) y.c) ∧
((1114113 : Int) - y.r).toNat < ((1114113 : Int) - x.r).toNat))
(InR IntKind.i32 ((if (55295 : Int) < x1.snd then (55295 : Int) else x1.snd) + (1 : Int)) ∧
bcase ((if (55295 : Int) < x1.snd then (55295 : Int) else x1.snd) + (1 : Int) == (55296 : Int))
(∃ (y : GSp),
Value.int IntKind.i32 (57344 : Int) = Value.int IntKind.i32 y.r ∧
Value.slice x.a x.out.length x.c = Value.slice y.a y.out.length y.c ∧
(y.k ≤ (300 : Nat) ∧
y.out.length ≤ y.k ∧
(0 : Int) ≤ y.r ∧
y.r ≤ (1114112 : Int) ∧
(y.r < (55296 : Int) ∨ (57344 : Int) ≤ y.r) ∧
y.out ++ pick g.snd (segsF (tabT g.fst) ((300 : Nat) - y.k) y.r) = spansF (tabT g.fst) g.snd ∧
doneF (tabT g.fst) ((300 : Nat) - y.k) y.r = true ∧
Made w w'1 (38 : TypeId) (2 : Nat) y.a y.out.length (List.flatMap spV y.out) y.c) ∧
((1114113 : Int) - y.r).toNat < ((1114113 : Int) - x.r).toNat)
(∃ (y : GSp),
Value.int IntKind.i32 ((if (55295 : Int) < x1.snd then (55295 : Int) else x1.snd) + (1 : Int)) =
Value.int IntKind.i32 y.r ∧
Value.slice x.a x.out.length x.c = Value.slice y.a y.out.length y.c ∧
(y.k ≤ (300 : Nat) ∧
y.out.length ≤ y.k ∧
(0 : Int) ≤ y.r ∧
y.r ≤ (1114112 : Int) ∧
(y.r < (55296 : Int) ∨ (57344 : Int) ≤ y.r) ∧
y.out ++ pick g.snd (segsF (tabT g.fst) ((300 : Nat) - y.k) y.r) = spansF (tabT g.fst) g.snd ∧
doneF (tabT g.fst) ((300 : Nat) - y.k) y.r = true ∧
Made w w'1 (38 : TypeId) (2 : Nat) y.a y.out.length (List.flatMap spV y.out) y.c) ∧
((1114113 : Int) - y.r).toNat < ((1114113 : Int) - x.r).toNat)))
(InR IntKind.i64 x1.fst ∧
bcase (x1.fst == g.snd)
(∀ (b : Nat) (w1 : World),
New w'1 (Obj.cells #[Value.int IntKind.i32 x.r, Value.int IntKind.i32 x1.snd] (38 : Nat)) b w1 →
∃ (a' : Option Addr),
∃ (c' : Nat),
∃ (w'2 : World),
AppRun Try.prog #[(34 : Nat), (34 : Nat)] (34 : Nat) (Value.slice x.a x.out.length x.c)
(Value.slice (some { block := b, off := (0 : Nat) }) (1 : Nat) (1 : Nat)) w1 a' (x.out.length + (1 : Nat)) c' w'2 ∧
KO w1 w'2 ∧
InR IntKind.i32 (x1.snd + (1 : Int)) ∧
bcase (x1.snd + (1 : Int) == (55296 : Int))
(∃ (y : GSp),
Value.int IntKind.i32 (57344 : Int) = Value.int IntKind.i32 y.r ∧
Value.slice a' (x.out.length + (1 : Nat)) c' = Value.slice y.a y.out.length y.c ∧
(y.k ≤ (300 : Nat) ∧
y.out.length ≤ y.k ∧
(0 : Int) ≤ y.r ∧
y.r ≤ (1114112 : Int) ∧
(y.r < (55296 : Int) ∨ (57344 : Int) ≤ y.r) ∧
y.out ++ pick g.snd (segsF (tabT g.fst) ((300 : Nat) - y.k) y.r) = spansF (tabT g.fst) g.snd ∧
doneF (tabT g.fst) ((300 : Nat) - y.k) y.r = true ∧
Made w w'2 (38 : TypeId) (2 : Nat) y.a y.out.length (List.flatMap spV y.out) y.c) ∧
((1114113 : Int) - y.r).toNat < ((1114113 : Int) - x.r).toNat)
(∃ (y : GSp),
Value.int IntKind.i32 (x1.snd + (1 : Int)) = Value.int IntKind.i32 y.r ∧
Value.slice a' (x.out.length + (1 : Nat)) c' = Value.slice y.a y.out.length y.c ∧
(y.k ≤ (300 : Nat) ∧
y.out.length ≤ y.k ∧
(0 : Int) ≤ y.r ∧
y.r ≤ (1114112 : Int) ∧
(y.r < (55296 : Int) ∨ (57344 : Int) ≤ y.r) ∧
y.out ++ pick g.snd (segsF (tabT g.fst) ((300 : Nat) - y.k) y.r) = spansF (tabT g.fst) g.snd ∧
doneF (tabT g.fst) ((300 : Nat) - y.k) y.r = true ∧
Made w w'2 (38 : TypeId) (2 : Nat) y.a y.out.length (List.flatMap spV y.out) y.c) ∧
((1114113 : Int) - y.r).toNat < ((1114113 : Int) - x.r).toNat))
(InR IntKind.i32 (x1.snd + (1 : Int)) ∧
bcase (x1.snd + (1 : Int) == (55296 : Int))
(∃ (y : GSp),
Value.int IntKind.i32 (57344 : Int) = Value.int IntKind.i32 y.r ∧
Value.slice x.a x.out.length x.c = Value.slice y.a y.out.length y.c ∧
(y.k ≤ (300 : Nat) ∧
y.out.length ≤ y.k ∧
(0 : Int) ≤ y.r ∧
y.r ≤ (1114112 : Int) ∧
(y.r < (55296 : Int) ∨ (57344 : Int) ≤ y.r) ∧
y.out ++ pick g.snd (segsF (tabT g.fst) ((300 : Nat) - y.k) y.r) = spansF (tabT g.fst) g.snd ∧
doneF (tabT g.fst) ((300 : Nat) - y.k) y.r = true ∧
Made w w'1 (38 : TypeId) (2 : Nat) y.a y.out.length (List.flatMap spV y.out) y.c) ∧
((1114113 : Int) - y.r).toNat < ((1114113 : Int) - x.r).toNat)
(∃ (y : GSp),
Value.int IntKind.i32 (x1.snd + (1 : Int)) = Value.int IntKind.i32 y.r ∧
Value.slice x.a x.out.length x.c = Value.slice y.a y.out.length y.c ∧
(y.k ≤ (300 : Nat) ∧
y.out.length ≤ y.k ∧
(0 : Int) ≤ y.r ∧
y.r ≤ (1114112 : Int) ∧
(y.r < (55296 : Int) ∨ (57344 : Int) ≤ y.r) ∧
y.out ++ pick g.snd (segsF (tabT g.fst) ((300 : Nat) - y.k) y.r) = spansF (tabT g.fst) g.snd ∧
doneF (tabT g.fst) ((300 : Nat) - y.k) y.r = true ∧
Made w w'1 (38 : TypeId) (2 : Nat) y.a y.out.length (List.flatMap spV y.out) y.c) ∧
((1114113 : Int) - y.r).toNat < ((1114113 : Int) - x.r).toNat))))
(∃ (x1 : Option Addr × Nat × Nat),
Value.slice x.a x.out.length x.c = Value.slice x1.fst x1.snd.fst x1.snd.snd ∧
x1.snd.fst = (spansT g.fst g.snd).length ∧
Made w w' (38 : TypeId) (2 : Nat) x1.fst x1.snd.fst (List.flatMap spV (spansT g.fst g.snd)) x1.snd.snd))
(∃ (x : Option Addr × Nat × Nat),
Value.slice none (0 : Nat) (0 : Nat) = Value.slice x.fst x.snd.fst x.snd.snd ∧
x.snd.fst = (spansT g.fst g.snd).length ∧
Made w w (38 : TypeId) (2 : Nat) x.fst x.snd.fst (List.flatMap spV (spansT g.fst g.snd)) x.snd.snd))))))) :
    (sSpans).Ok Try.prog 29 :=
  ok_of_vc sSpans annSpans spSpans (fun _ _ => rfl) (fun _ _ => rfl) hsp Try.func29 rfl (n := 2) (fun _ => rfl) (by kernel_rfl) (vcast (by kernel_rfl) h)

set_option maxRecDepth 1000000 in
theorem rspans_vc (hsp : SpecsOk Try.prog spRSpans) (h : ∀ (g : Int × Int) (w : World),
True →
∃ (g1 : Unit),
(#[] : Array Value) = #[] ∧
True ∧
∀ (x : Option Addr × Nat) (w' : World),
Made w w' (21 : TypeId) (1 : Nat) x.fst bordL.length (List.map (Value.int IntKind.i32) bordL) x.snd →
(∃ (x1 : GRSp),
Value.int IntKind.i64 (0 : Int) = Value.int IntKind.i64 (↑x1.i : Int) ∧
Value.slice none (0 : Nat) (0 : Nat) = Value.slice x1.a x1.out.length x1.c ∧
x1.i ≤ (457 : Nat) ∧
x1.out.length ≤ x1.i ∧
(if (valueF g.fst (0 : Int)).snd = true then
goF (List.drop x1.i bordL) (List.drop x1.i (List.map (fun (b : Int) => (valueF g.fst b).fst) bordL)) g.snd x1.out
else x1.out) =
refT g.fst g.snd ∧
Made w' w' (38 : TypeId) (2 : Nat) x1.a x1.out.length (List.flatMap spV x1.out) x1.c) ∧
∀ (u : Nat → Value) (x1 : GRSp) (w'1 : World),
x1.i ≤ (457 : Nat) ∧
x1.out.length ≤ x1.i ∧
(if (valueF g.fst (0 : Int)).snd = true then
goF (List.drop x1.i bordL) (List.drop x1.i (List.map (fun (b : Int) => (valueF g.fst b).fst) bordL)) g.snd x1.out
else x1.out) =
refT g.fst g.snd ∧
Made w' w'1 (38 : TypeId) (2 : Nat) x1.a x1.out.length (List.flatMap spV x1.out) x1.c →
InR IntKind.i64 ((↑x1.i : Int) + (1 : Int)) ∧
bcase (decide ((↑x1.i : Int) + (1 : Int) < (↑bordL.length : Int)))
(∃ (k : Nat),
(↑x1.i : Int) = (↑k : Int) ∧
k < bordL.length ∧
ptrE x.fst fun (b o : Nat) =>
∃ (n : Int),
w'1.cell? { block := b, off := o + k } = some (Value.int IntKind.i32 n) ∧
∃ (g2 : Int × Int),
#[Value.int IntKind.i8 g.fst, Value.int IntKind.i32 n] = #[Value.int IntKind.i8 g2.fst, Value.int IntKind.i32 g2.snd] ∧
True ∧
∀ (x2 : Int × Bool) (w'2 : World),
x2 = valueF g2.fst g2.snd ∧ w'2 = w'1 →
bcase (!x2.snd)
(InR IntKind.i64 ((↑x1.i : Int) + (1 : Int)) ∧
∃ (y : GRSp),
Value.int IntKind.i64 ((↑x1.i : Int) + (1 : Int)) = Value.int IntKind.i64 (↑y.i : Int) ∧
Value.slice x1.a x1.out.length x1.c = Value.slice y.a y.out.length y.c ∧
(y.i ≤ (457 : Nat) ∧
y.out.length ≤ y.i ∧
(if (valueF g.fst (0 : Int)).snd = true then
goF (List.drop y.i bordL) (List.drop y.i (List.map (fun (b : Int) => (valueF g.fst b).fst) bordL)) g.snd y.out
else y.out) =
refT g.fst g.snd ∧
Made w' w'2 (38 : TypeId) (2 : Nat) y.a y.out.length (List.flatMap spV y.out) y.c) ∧
(457 : Nat) - y.i < (457 : Nat) - x1.i)
(bcase (x2.fst != g.snd)
(InR IntKind.i64 ((↑x1.i : Int) + (1 : Int)) ∧
∃ (y : GRSp),
Value.int IntKind.i64 ((↑x1.i : Int) + (1 : Int)) = Value.int IntKind.i64 (↑y.i : Int) ∧
Value.slice x1.a x1.out.length x1.c = Value.slice y.a y.out.length y.c ∧
(y.i ≤ (457 : Nat) ∧
y.out.length ≤ y.i ∧
(if (valueF g.fst (0 : Int)).snd = true then
goF (List.drop y.i bordL) (List.drop y.i (List.map (fun (b : Int) => (valueF g.fst b).fst) bordL)) g.snd y.out
else y.out) =
refT g.fst g.snd ∧
Made w' w'2 (38 : TypeId) (2 : Nat) y.a y.out.length (List.flatMap spV y.out) y.c) ∧
(457 : Nat) - y.i < (457 : Nat) - x1.i)
(∃ (k1 : Nat),
(↑x1.i : Int) = (↑k1 : Int) ∧
k1 < bordL.length ∧
ptrE x.fst fun (b1 o1 : Nat) =>
∃ (n1 : Int),
w'2.cell? { block := b1, off := o1 + k1 } = some (Value.int IntKind.i32 n1) ∧
bcase (n1 == (55296 : Int))
(InR IntKind.i64 ((↑x1.i : Int) + (1 : Int)) ∧
∃ (y : GRSp),
Value.int IntKind.i64 ((↑x1.i : Int) + (1 : Int)) = Value.int IntKind.i64 (↑y.i : Int) ∧
Value.slice x1.a x1.out.length x1.c = Value.slice y.a y.out.length y.c ∧
(y.i ≤ (457 : Nat) ∧
y.out.length ≤ y.i ∧
(if (valueF g.fst (0 : Int)).snd = true then
goF (List.drop y.i bordL) (List.drop y.i (List.map (fun (b : Int) => (valueF g.fst b).fst) bordL)) g.snd y.out
else y.out) =
refT g.fst g.snd ∧
Made w' w'2 (38 : TypeId) (2 : Nat) y.a y.out.length (List.flatMap spV y.out) y.c) ∧
(457 : Nat) - y.i < (457 : Nat) - x1.i)
(InR IntKind.i64 ((↑x1.out.length : Int) - (1 : Int)) ∧
∀ (w1 : World),
Drew w'2 w1 →
bcase (decide ((↑x1.out.length : Int) - (1 : Int) ≥ (0 : Int)))
(∃ (k2 : Nat),
(↑x1.out.length : Int) - (1 : Int) = (↑k2 : Int) ∧
k2 < x1.out.length ∧
ptrE x1.a fun (b2 o2 : Nat) =>
∃ (n2 : Int),
w'2.cell? { block := b2, off := o2 + k2 * (2 : Nat) + (1 : Nat) } = some (Value.int IntKind.i32 n2) ∧
∃ (k3 : Nat),
(↑x1.i : Int) = (↑k3 : Int) ∧
k3 < bordL.length ∧
ptrE x.fst fun (b3 o3 : Nat) =>
∃ (n3 : Int),
w'2.cell? { block := b3, off := o3 + k3 } = some (Value.int IntKind.i32 n3) ∧
InR IntKind.i32 (n3 - (1 : Int)) ∧
bcase (n2 == n3 - (1 : Int))
(InR IntKind.i64 ((↑x1.i : Int) + (1 : Int)) ∧
∃ (k4 : Nat),
(↑x1.i : Int) + (1 : Int) = (↑k4 : Int) ∧
k4 < bordL.length ∧
ptrE x.fst fun (b4 o4 : Nat) =>
∃ (n4 : Int),
w1.cell? { block := b4, off := o4 + k4 } = some (Value.int IntKind.i32 n4) ∧
InR IntKind.i32 (n4 - (1 : Int)) ∧
∃ (k5 : Nat),
(↑x1.out.length : Int) - (1 : Int) = (↑k5 : Int) ∧
k5 < x1.out.length ∧
ptrE x1.a fun (b5 o5 : Nat) =>
true = true ∧
(∃ (old : Value), w1.cell? { block := b5, off := o5 + k5 * (2 : Nat) + (1 : Nat) } = some old) ∧
w1.frozen? { block := b5, off := o5 + k5 * (2 : Nat) + (1 : Nat) } = false ∧
∀ (w11 : World),
Stored w1 { block := b5, off := o5 + k5 * (2 : Nat) + (1 : Nat) } (Value.int IntKind.i32 (n4 - (1 : Int))) w11 →
InR IntKind.i64 ((↑x1.i : Int) + (1 : Int)) ∧
∃ (y : GRSp),
Value.int IntKind.i64 ((↑x1.i : Int) + (1 : Int)) = Value.int IntKind.i64 (↑y.i : Int) ∧
Value.slice x1.a x1.out.length x1.c = Value.slice y.a y.out.length y.c ∧
(y.i ≤ (457 : Nat) ∧
y.out.length ≤ y.i ∧
(if (valueF g.fst (0 : Int)).snd = true then
goF (List.drop y.i bordL) (List.drop y.i (List.map (fun (b : Int) => (valueF g.fst b).fst) bordL)) g.snd y.out
else y.out) =
refT g.fst g.snd ∧
Made w' w11 (38 : TypeId) (2 : Nat) y.a y.out.length (List.flatMap spV y.out) y.c) ∧
(457 : Nat) - y.i < (457 : Nat) - x1.i)
(∀ (w11 : World),
Drew w1 w11 →
∃ (k4 : Nat),
(↑x1.i : Int) = (↑k4 : Int) ∧
k4 < bordL.length ∧
ptrE x.fst fun (b4 o4 : Nat) =>
∃ (n4 : Int),
w1.cell? { block := b4, off := o4 + k4 } = some (Value.int IntKind.i32 n4) ∧
InR IntKind.i64 ((↑x1.i : Int) + (1 : Int)) ∧
∃ (k5 : Nat),
(↑x1.i : Int) + (1 : Int) = (↑k5 : Int) ∧
k5 < bordL.length ∧
ptrE x.fst fun (b5 o5 : Nat) =>
∃ (n5 : Int),
w1.cell? { block := b5, off := o5 + k5 } = some (Value.int IntKind.i32 n5) ∧
InR IntKind.i32 (n5 - (1 : Int)) ∧
∀ (b6 : Nat) (w12 : World),
New w11 (Obj.cells #[Value.int IntKind.i32 n4, Value.int IntKind.i32 (n5 - (1 : Int))] (38 : Nat)) b6 w12 →
Below w11.heap.size w11 w12 ∧
∃ (a' : Option Addr),
∃ (c' : Nat),
∃ (w'3 : World),
AppRun Try.prog #[(34 : Nat), (34 : Nat)] (34 : Nat) (Value.slice x1.a x1.out.length x1.c)
(Value.slice (some { block := b6, off := (0 : Nat) }) (1 : Nat) (1 : Nat)) w12 a' (x1.out.length + (1 : Nat)) c' w'3 ∧
KO w12 w'3 ∧
InR IntKind.i64 ((↑x1.i : Int) + (1 : Int)) ∧
∃ (y : GRSp),
Value.int IntKind.i64 ((↑x1.i : Int) + (1 : Int)) = Value.int IntKind.i64 (↑y.i : Int) ∧
Value.slice a' (x1.out.length + (1 : Nat)) c' = Value.slice y.a y.out.length y.c ∧
(y.i ≤ (457 : Nat) ∧
y.out.length ≤ y.i ∧
(if (valueF g.fst (0 : Int)).snd = true then
goF (List.drop y.i bordL) (List.drop y.i (List.map (fun (b : Int) => (valueF g.fst b).fst) bordL)) g.snd y.out
else y.out) =
refT g.fst g.snd ∧
Made w' w'3 (38 : TypeId) (2 : Nat) y.a y.out.length (List.flatMap spV y.out) y.c) ∧
(457 : Nat) - y.i < (457 : Nat) - x1.i))
(∀ (w11 : World),
Drew w1 w11 →
∃ (k2 : Nat),
(↑x1.i : Int) = (↑k2 : Int) ∧
k2 < bordL.length ∧
ptrE x.fst fun (b2 o2 : Nat) =>
∃ (n2 : Int),
w1.cell? { block := b2, off := o2 + k2 } = some (Value.int IntKind.i32 n2) ∧
InR IntKind.i64 ((↑x1.i : Int) + (1 : Int)) ∧
∃ (k3 : Nat),
(↑x1.i : Int) + (1 : Int) = (↑k3 : Int) ∧
k3 < bordL.length ∧
ptrE x.fst fun (b3 o3 : Nat) =>
∃ (n3 : Int),
w1.cell? { block := b3, off := o3 + k3 } = some (Value.int IntKind.i32 n3) ∧
InR IntKind.i32 (n3 - (1 : Int)) ∧
∀ (b4 : Nat) (w12 : World),
New w11 (Obj.cells #[Value.int IntKind.i32 n2, Value.int IntKind.i32 (n3 - (1 : Int))] (38 : Nat)) b4 w12 →
Below w11.heap.size w11 w12 ∧
∃ (a' : Option Addr),
∃ (c' : Nat),
∃ (w'3 : World),
AppRun Try.prog #[(34 : Nat), (34 : Nat)] (34 : Nat) (Value.slice x1.a x1.out.length x1.c)
(Value.slice (some { block := b4, off := (0 : Nat) }) (1 : Nat) (1 : Nat)) w12 a' (x1.out.length + (1 : Nat)) c' w'3 ∧
KO w12 w'3 ∧
InR IntKind.i64 ((↑x1.i : Int) + (1 : Int)) ∧
∃ (y : GRSp),
Value.int IntKind.i64 ((↑x1.i : Int) + (1 : Int)) = Value.int IntKind.i64 (↑y.i : Int) ∧
Value.slice a' (x1.out.length + (1 : Nat)) c' = Value.slice y.a y.out.length y.c ∧
(y.i ≤ (457 : Nat) ∧
y.out.length ≤ y.i ∧
(if (valueF g.fst (0 : Int)).snd = true then
goF (List.drop y.i bordL) (List.drop y.i (List.map (fun (b : Int) => (valueF g.fst b).fst) bordL)) g.snd y.out
else y.out) =
refT g.fst g.snd ∧
Made w' w'3 (38 : TypeId) (2 : Nat) y.a y.out.length (List.flatMap spV y.out) y.c) ∧
(457 : Nat) - y.i < (457 : Nat) - x1.i)))))
(∃ (x2 : Option Addr × Nat × Nat),
Value.slice x1.a x1.out.length x1.c = Value.slice x2.fst x2.snd.fst x2.snd.snd ∧
x2.snd.fst = (spansT g.fst g.snd).length ∧
Made w w'1 (38 : TypeId) (2 : Nat) x2.fst x2.snd.fst (List.flatMap spV (spansT g.fst g.snd)) x2.snd.snd)) :
    (sSpans).Ok Try.prog 28 :=
  ok_of_vc sSpans annRSpans spRSpans (fun _ _ => rfl) (fun _ _ => rfl) hsp Try.func28 rfl (n := 2) (fun _ => rfl) (by kernel_rfl) (vcast (by kernel_rfl) h)

set_option maxRecDepth 1000000 in
theorem sameSp_vc (hsp : SpecsOk Try.prog []) (h : ∀ (g : GSpS) (w : World),
CellsAt w g.a (List.flatMap spV g.l) ∧ CellsAt w g.b (List.flatMap spV g.m) ∧ g.l.length ≤ (1000000 : Nat) →
bcase ((↑g.l.length : Int) != (↑g.m.length : Int))
(∃ (x : Bool), Value.bool false = Value.bool x ∧ x = decide (g.l = g.m) ∧ Ext w w)
((∃ (x : Nat),
Value.int IntKind.i64 (0 : Int) = Value.int IntKind.i64 (↑x : Int) ∧
x ≤ g.l.length ∧ List.take x g.l = List.take x g.m ∧ Ext w w) ∧
∀ (u : Nat → Value) (x : Nat) (w' : World),
x ≤ g.l.length ∧ List.take x g.l = List.take x g.m ∧ Ext w w' →
bcase (decide ((↑x : Int) < (↑g.l.length : Int)))
(∀ (w1 : World),
Drew w' w1 →
∃ (k : Nat),
(↑x : Int) = (↑k : Int) ∧
k < g.l.length ∧
ptrE g.a fun (b o : Nat) =>
∃ (n : Int),
w'.cell? { block := b, off := o + k * (2 : Nat) } = some (Value.int IntKind.i32 n) ∧
∃ (n1 : Int),
w'.cell? { block := b, off := o + k * (2 : Nat) + (1 : Nat) } = some (Value.int IntKind.i32 n1) ∧
∃ (k1 : Nat),
(↑x : Int) = (↑k1 : Int) ∧
k1 < g.m.length ∧
ptrE g.b fun (b1 o1 : Nat) =>
∃ (n2 : Int),
w'.cell? { block := b1, off := o1 + k1 * (2 : Nat) } = some (Value.int IntKind.i32 n2) ∧
∃ (n3 : Int),
w'.cell? { block := b1, off := o1 + k1 * (2 : Nat) + (1 : Nat) } = some (Value.int IntKind.i32 n3) ∧
bcase (!(n == n2 && (n1 == n3 && true)))
(∃ (x1 : Bool), Value.bool false = Value.bool x1 ∧ x1 = decide (g.l = g.m) ∧ Ext w w1)
(InR IntKind.i64 ((↑x : Int) + (1 : Int)) ∧
∃ (y : Nat),
Value.int IntKind.i64 ((↑x : Int) + (1 : Int)) = Value.int IntKind.i64 (↑y : Int) ∧
(y ≤ g.l.length ∧ List.take y g.l = List.take y g.m ∧ Ext w w1) ∧ g.l.length - y < g.l.length - x))
(∃ (x1 : Bool), Value.bool true = Value.bool x1 ∧ x1 = decide (g.l = g.m) ∧ Ext w w'))) :
    (sSameSp).Ok Try.prog 30 :=
  ok_of_vc sSameSp annSameSp [] (fun _ _ => rfl) (fun _ _ => rfl) hsp Try.func30 rfl (n := 2) (fun _ => rfl) (by kernel_rfl) (vcast (by kernel_rfl) h)

end Go.Proofs.Ytlklgngdagebfaa
