/-
  Specifications, chapter 1: the law on whole texts, their lists written over.
-/
import Derived.Test.YthkcphnkllnfcaaDoorSpN
set_option linter.unusedVariables false
set_option linter.unusedSimpArgs false
namespace Go.Proofs.YthkcphnkllnfcaaDoor
open Go Go.RowKit Vc Ut

/-- Two lists of one's own that grow in turns. -/
structure Twin (w0 w : World) (S : Nat → Prop) (e1 e2 : TypeId) (a : Option Addr) (na ca : Nat) (c : Option Addr) (nc cc : Nat) : Prop where
  ra : ∃ vs, Row w e1 1 a na vs ca
  rc : ∃ vs, Row w e2 1 c nc vs cc
  fr : Fr S w0 w
  ia : ∀ g, blk a = some g → S g ∨ w0.heap.size ≤ g
  ic : ∀ g, blk c = some g → S g ∨ w0.heap.size ≤ g
  ne : ∀ g, blk a = some g → blk c = some g → False

def spLawAll : List (Nat × CallSpec) := [(33, sSL .i64 3 badL), (34, sSL .i32 21 runes), (35, sSL .i64 3 badL), (24, sSL .i32 21 runes),
  (36, sSame .i64), (22, sSame .i32), (25, sTest validB), (37, sSN cnt), (38, sSS (fun s => runesBytes (runes s))), (39, sSS (fun s => runesBytes (runes s))), (20, sYes U8)]
def annLawAll (s : ByteArray) (w00 : World) : Ann where
  sp := spLawAll
  frees := [(12, fun e => slN (gv e 5)), (16, fun e => slN (gv e 7)), (20, fun e => slN (gv e 5)), (21, fun e => slN (gv e 7))]
  cuts := [(7, 8, { X := Unit, sh := fun _ _ => [(46, .bool false)], inv := fun _ w0 _ w => Ext w0 w }), (22, 22, { X := Unit, sh := fun _ _ => [(12, .bool true)], inv := fun _ w0 _ w => Ext w0 w })]
  loops := [(10, {
    X := Nat
    sh := fun _ x => [(9, .int .i64 x)]
    inv := fun e w0 x w => x ≤ (badL s).length ∧ (∃ a c vs, gv e 5 = .slice a (badL s).length c ∧ Row w 3 1 a (badL s).length vs c) ∧ Fr (slN (gv e 5)) w0 w
    mu := fun _ _ x _ => (badL s).length - x }), (14, {
    X := Nat
    sh := fun _ x => [(10, .int .i64 x)]
    inv := fun e w0 x w => x ≤ (runes s).length ∧ (∃ a c vs, gv e 7 = .slice a (runes s).length c ∧ Row w 21 1 a (runes s).length vs c) ∧ Fr (slN (gv e 7)) w0 w
    mu := fun _ _ x _ => (runes s).length - x }), (18, {
    X := Nat × (Option Addr × Nat) × (Option Addr × Nat)
    sh := fun _ x => [(11, .int .i64 x.1), (5, .slice x.2.1.1 ((badL s).length + x.1) x.2.1.2), (7, .slice x.2.2.1 ((runes s).length + x.1) x.2.2.2)]
    inv := fun e w0 x w => x.1 ≤ 40 ∧ Twin w0 w (fun q => slN (gv e 5) q ∨ slN (gv e 7) q) 3 21 x.2.1.1 ((badL s).length + x.1) x.2.1.2 x.2.2.1 ((runes s).length + x.1) x.2.2.2
    mu := fun _ _ x _ => 40 - x.1 })]

--#vc lawAll_vc 9 sLawS annLawAll spLawAll

end Go.Proofs.YthkcphnkllnfcaaDoor
