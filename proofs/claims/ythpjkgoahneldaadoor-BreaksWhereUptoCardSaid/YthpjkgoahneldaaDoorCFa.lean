/-
  Layer 4: BreaksWhere holds.
  Condition: arguments of bulk up to 1048576 (the second form); unicode/utf8's two tables start as the program's text lays them (the cards tie them).
-/
import Derived.Test.YthpjkgoahneldaaDoorJa12
import Derived.Test.YthpjkgoahneldaaDoorJa13
import Derived.Test.YthpjkgoahneldaaDoorCards
import Derived.Test.YthpjkgoahneldaaDoorTie
import Derived.Deep.DeepHandedRow
import Derived.Deep.DeepWitnessRowRef
set_option linter.unusedVariables false
set_option linter.unusedSimpArgs false
namespace Go.Proofs.YthpjkgoahneldaaDoor
open Go Go.RowKit Go.ChangeShapes Go.WideShapes Go.ChangeAt Vc Ut Lw
open Go.ChangeMaps (open_string)

theorem own : ownKnob Tryd.prog.godebug = none := by kernel_rfl

theorem lit_i64 {n : Int} (h : (Lit.int .i64 n).wf = true) : -9223372036854775808 ≤ n ∧ n ≤ 9223372036854775807 := by
  simpa [Lit.wf, IntKind.min, IntKind.max, IntKind.signed, IntKind.bits] using h
theorem lit_u8 {n : Int} (h : (Lit.int .u8 n).wf = true) : 0 ≤ n ∧ n ≤ 255 := by
  simpa [Lit.wf, IntKind.min, IntKind.max, IntKind.signed, IntKind.bits] using h

theorem call_law {s : CallSpec} {f : FuncId} (hs : s.Ok Tryd.prog f) {args : Array Value} {W : World} (g : s.G) (hg : s.args g = args) (hp : s.pre g W) (hr : ∀ x, s.res x = .bool true) (hpost : ∀ x W', s.post g W x W' → Ext W W') :
    Calls Tryd.prog f args W fun e W' => e = .returned (.bool true) ∧ Below W.heap.size W W' := by
  rw [← hg]
  exact (hs g W hp).mono fun e W' ⟨x, he, hx, _⟩ => ⟨by rw [he, hr], hpost x W' hx⟩

set_option maxRecDepth 100000 in
theorem breaksWhere_contract (H : Type) (enc : TypeId × Value → H) (W : World) (base : Nat) (args : Array Value) (ds gs : List (DataW H)) (before : List MemPlace)
    (hval : ∀ (j : Nat) t v, Tryd.f3.params[j]? = some t → args[j]? = some v → Value.okWide Tryd.prog W .any base t v)
    (hW : DataW.Whole enc Tryd.prog Tryd.f3.params.toList Rows.breaksWhereSpec.vars false W args.toList ds gs before) (hk : Rows.uptoSmall H (ds ++ gs) = true) (hL : laidMet Tryd.prog u8laid W) :
    Calls Tryd.prog 3 args W fun e W' => ∃ v, e = .returned v ∧ Rows.breaksWhereSpec.post enc Tryd.prog Tryd.f3 false true false false W args v W' := by
  have hU := u8_of hL
  have hW' := hW
  obtain ⟨p, q, hA0, hV, rfl, hfz, hnd⟩ := hW
  have hA : DataW.TrodAll enc Tryd.prog W 0 (fun _ => true) true Tryd.f3.params.toList args.toList ds p := hA0
  have hpar : Tryd.f3.params = #[9] := by kernel_rfl
  rw [hpar] at hA hval
  obtain ⟨v0, vs0, d0, ds0, p0, q0, hargs, rfl, rfl, h0, r0⟩ := trodAll_cons hA
  obtain ⟨rfl, rfl, rfl⟩ := trodAll_nil r0
  obtain rfl : args = #[v0] := by cases args; simp_all
  obtain ⟨s0, rfl, rfl, rfl, ws0⟩ := open_string (by kernel_rfl) (hval 0 9 v0 rfl rfl) h0
  have hl0 : s0.size ≤ 1048576 := by
    have := Bulk.string hk (bytes := s0.data.toList) (by simp)
    rwa [size_list] at this
  exact law_calls hW' rfl rfl (tb := 4) (by kernel_rfl) (by kernel_rfl) (by kernel_rfl) (by kernel_rfl) (call_law lawWh_ok s0 rfl ⟨hU, hl0⟩ (fun _ => rfl) (fun _ _ h => h))

theorem breaksWhere_witness (os : Os) {H : Type} (enc : TypeId × Value → H) :
    (Rows.OpenSpec.upto Rows.breaksWhereSpec).preRow enc Tryd.prog Tryd.f3 Rows.breaksWhereUptoRow.domain false Rows.breaksWhereUptoRow.laid ((laidWorld os).forCall (fun _ _ => 0) ⟨#[], #[.string ⟨#[]⟩], []⟩).memory #[.string ⟨#[]⟩] := by
  have hw : (DataW.whole enc Tryd.prog ((laidWorld os).forCall (fun _ _ => 0) ⟨#[], #[.string ⟨#[]⟩], []⟩).memory Tryd.f3.params.toList Rows.breaksWhereSpec.vars false (#[.string ⟨#[]⟩] : Array Value).toList 8).map (fun x => (x.1, x.2.1)) =
      some ([.lit (.string [])], []) := by kernel_rfl
  obtain ⟨⟨x1, x2, x3⟩, hx, hx1⟩ := Option.map_eq_some_iff.1 hw
  simp only [Prod.mk.injEq] at hx1
  obtain ⟨rfl, rfl⟩ := hx1
  exact OpenSpec.preRow_of_cond 8 hx (by kernel_rfl) (fun k hk => by cases hk; kernel_rfl) (by kernel_rfl) (laid_met os _)

set_option maxRecDepth 100000 in
theorem breaksWhere_lifted (os : Os) (started : os.Started) (H : Type) (enc : TypeId × Value → H) (F : Stop.Interp) :
    ReturnsInHanded {} Tryd.checked os 3 .any ((Rows.OpenSpec.upto Rows.breaksWhereSpec).preRow enc Tryd.prog Tryd.f3 Rows.breaksWhereUptoRow.domain false Rows.breaksWhereUptoRow.laid) (((Rows.OpenSpec.upto Rows.breaksWhereSpec).at F).post enc Tryd.prog Tryd.f3 false true false false) := by
  refine returnsInHanded_of_row (C := Tryd.checked) (s := (Rows.OpenSpec.upto Rows.breaksWhereSpec)) own started (by kernel_rfl) Tryd.func3
    (witness_row_atRef (enc := enc) (C := Tryd.checked) false (laidWorld os) #[.string ⟨#[]⟩] rfl (by kernel_rfl) (by kernel_rfl) (by kernel_rfl) (breaksWhere_witness os enc)) ?_
  intro W base args ds gs before hval hW _ hcond _ hL _ _
  exact breaksWhere_contract H enc W base args ds gs before hval hW (hcond _ rfl) hL

theorem breaksWhere_said : Rows.BreaksWhereUptoSaid :=
  OpenClaim.holds_of_cond 3 Tryd.f3 rfl rfl rfl rfl rfl rfl rfl ⟨rfl, rfl, rfl, rfl, rfl⟩ rfl rfl rfl rfl rfl (by kernel_rfl) Tryd.func3 (by kernel_rfl)
    (of_decide_eq_true (by kernel_rfl)) (by unfold Func.isWrapper; first | (rw [if_pos (by decide +kernel)]; kernel_rfl) | (rw [if_neg (by decide +kernel)]; exact ⟨rfl, rfl⟩))
    (fun os started H enc _ F => by rw [OpenClaim.pre_eq_preRow]; exact breaksWhere_lifted os started H enc F)

theorem breaksWhere_plain (f : FuncId) (fn : Func) (hf : Tryd.pinned.checked.prog.funcNamed "shuttle/shuttlelaw13.BreaksWhere" = some f) (hfn : Tryd.pinned.checked.prog.funcs[f]? = some fn) :
    false = Tryd.pinned.checked.prog.looks [] ∧ ∀ (j : Nat) t, fn.params[j]? = some t → Tryd.pinned.checked.prog.wantsStandIn t = false := by
  obtain rfl : f = 3 := Option.some.inj ((show Tryd.prog.funcNamed "shuttle/shuttlelaw13.BreaksWhere" = some 3 by kernel_rfl).symm.trans hf) |>.symm
  obtain rfl : fn = Tryd.f3 := (Option.some.inj (Tryd.func3.symm.trans hfn)).symm
  refine ⟨by kernel_rfl, fun j t ht => ?_⟩
  have hall : Tryd.f3.params.toList.all (fun t => !Tryd.prog.wantsStandIn t) = true := by kernel_rfl
  have hmem : t ∈ Tryd.f3.params.toList := by simpa using Array.mem_of_getElem? ht
  have := List.all_eq_true.1 hall t hmem
  exact (by simpa using this : Tryd.prog.wantsStandIn t = false)

theorem breaksWhere_holds : Rows.BreaksWhereUptoCardSaid :=
  Claim7.holds_tied_plain_at .later [] _ _ _ _ breaksWhere_said (fun _ h => by cases h) (by kernel_rfl) (fun _ h => by cases h) breaksWhereUpto_row_tie rfl ⟨rfl, rfl⟩ (by kernel_rfl) rfl breaksWhere_plain (by kernel_rfl)

#print axioms breaksWhere_holds
end Go.Proofs.YthpjkgoahneldaaDoor
