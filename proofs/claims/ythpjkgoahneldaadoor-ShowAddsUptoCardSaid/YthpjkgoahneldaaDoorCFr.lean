/-
  Layer 6: ShowAdds holds.
  Condition: arguments of bulk up to 1048576 (the second form); the five listed variables start as the program's text lays them (the cards tie them).
-/
import Derived.Test.YthpjkgoahneldaaDoorSg15
import Derived.Test.YthpjkgoahneldaaDoorCards
import Derived.Test.YthpjkgoahneldaaDoorTie
import Derived.Deep.DeepHandedRow
import Derived.Deep.DeepWitnessRowRef
set_option linter.unusedVariables false
set_option linter.unusedSimpArgs false
namespace Go.Proofs.YthpjkgoahneldaaDoor
open Go Go.RowKit Go.ChangeShapes Go.WideShapes Go.ChangeAt Vc Ut Lw
open Go.ChangeMaps (open_string)

theorem own : ownKnob Tryd.prog.godebug = none := by kernel_rfl

theorem lit_i64 {n : Int} (h : (Lit.int .i64 n).wf = true) : -9223372036854775808 ≤ n ∧ n ≤ 9223372036854775807 := by
  simpa [Lit.wf, IntKind.min, IntKind.max, IntKind.signed, IntKind.bits] using h
theorem lit_u8 {n : Int} (h : (Lit.int .u8 n).wf = true) : 0 ≤ n ∧ n ≤ 255 := by
  simpa [Lit.wf, IntKind.min, IntKind.max, IntKind.signed, IntKind.bits] using h

theorem call_law {s : CallSpec} {f : FuncId} (hs : s.Ok Tryd.prog f) {args : Array Value} {W : World} (g : s.G) (hg : s.args g = args) (hp : s.pre g W) (hr : ∀ x, s.res x = .bool true) (hpost : ∀ x W', s.post g W x W' → Ext W W') :
    Calls Tryd.prog f args W fun e W' => e = .returned (.bool true) ∧ Below W.heap.size W W' := by
  rw [← hg]
  exact (hs g W hp).mono fun e W' ⟨x, he, hx, _⟩ => ⟨by rw [he, hr], hpost x W' hx⟩

set_option maxRecDepth 100000 in
theorem showAdds_contract (H : Type) (enc : TypeId × Value → H) (W : World) (base : Nat) (args : Array Value) (ds gs : List (DataW H)) (before : List MemPlace)
    (hval : ∀ (j : Nat) t v, Tryd.f18.params[j]? = some t → args[j]? = some v → Value.okWide Tryd.prog W .any base t v)
    (hW : DataW.Whole enc Tryd.prog Tryd.f18.params.toList Rows.showAddsSpec.vars false W args.toList ds gs before) (hk : Rows.uptoSmall H (ds ++ gs) = true) (hL : laidMet Tryd.prog shlaid W) :
    Calls Tryd.prog 18 args W fun e W' => ∃ v, e = .returned v ∧ Rows.showAddsSpec.post enc Tryd.prog Tryd.f18 false true false false W args v W' := by
  have hU := ud_of hL
  have hW' := hW
  obtain ⟨p, q, hA0, hV, rfl, hfz, hnd⟩ := hW
  have hA : DataW.TrodAll enc Tryd.prog W 0 (fun _ => true) true Tryd.f18.params.toList args.toList ds p := hA0
  have hpar : Tryd.f18.params = #[9, 3, 57, 3] := by kernel_rfl
  rw [hpar] at hA hval
  obtain ⟨v0, vs0, d0, ds0, p0, q0, hargs, rfl, rfl, h0, r0⟩ := trodAll_cons hA
  obtain ⟨v1, vs1, d1, ds1, p1, q1, rfl, rfl, rfl, h1, r1⟩ := trodAll_cons r0
  obtain ⟨v2, vs2, d2, ds2, p2, q2, rfl, rfl, rfl, h2, r2⟩ := trodAll_cons r1
  obtain ⟨v3, vs3, d3, ds3, p3, q3, rfl, rfl, rfl, h3, r3⟩ := trodAll_cons r2
  obtain ⟨rfl, rfl, rfl⟩ := trodAll_nil r3
  obtain rfl : args = #[v0, v1, v2, v3] := by cases args; simp_all
  obtain ⟨s0, rfl, rfl, rfl, ws0⟩ := open_string (by kernel_rfl) (hval 0 9 v0 rfl rfl) h0
  obtain ⟨i1, rfl, rfl, rfl, wi1⟩ := open_int (k := .i64) (by kernel_rfl) (hval 1 3 v1 rfl rfl) h1
  have wj1 := lit_i64 wi1
  obtain ⟨l2, rfl⟩ := look_in (ti := 3) (tb := 4) (t8 := 25) (by kernel_rfl) (by kernel_rfl) (by kernel_rfl) (by kernel_rfl) (by kernel_rfl) (by kernel_rfl) (hval 2 57 v2 rfl rfl)
  obtain ⟨i3, rfl, rfl, rfl, wi3⟩ := open_int (k := .i64) (by kernel_rfl) (hval 3 3 v3 rfl rfl) h3
  have wj3 := lit_i64 wi3
  have hl0 : s0.size ≤ 1048576 := by
    have := Bulk.string hk (bytes := s0.data.toList) (by simp)
    rwa [size_list] at this
  exact law_calls hW' rfl rfl (tb := 4) (by kernel_rfl) (by kernel_rfl) (by kernel_rfl) (by kernel_rfl) (call_law lawAd_ok (GAd.mk s0 i1 l2 i3) rfl ⟨hU.1, hU.2, hl0⟩ (fun _ => rfl) (fun _ _ h => h))

theorem showAdds_witness (os : Os) {H : Type} (enc : TypeId × Value → H) :
    (Rows.OpenSpec.upto Rows.showAddsSpec).preRow enc Tryd.prog Tryd.f18 Rows.showAddsUptoRow.domain false Rows.showAddsUptoRow.laid ((shWorld os).forCall (fun _ _ => 0) ⟨#[], #[.string ⟨#[]⟩, .int .i64 0, .agg #[.int .i64 0, .bool false, .int .i8 0, .bool false, .bool false], .int .i64 0], []⟩).memory #[.string ⟨#[]⟩, .int .i64 0, .agg #[.int .i64 0, .bool false, .int .i8 0, .bool false, .bool false], .int .i64 0] := by
  have hw : (DataW.whole enc Tryd.prog ((shWorld os).forCall (fun _ _ => 0) ⟨#[], #[.string ⟨#[]⟩, .int .i64 0, .agg #[.int .i64 0, .bool false, .int .i8 0, .bool false, .bool false], .int .i64 0], []⟩).memory Tryd.f18.params.toList Rows.showAddsSpec.vars false (#[.string ⟨#[]⟩, .int .i64 0, .agg #[.int .i64 0, .bool false, .int .i8 0, .bool false, .bool false], .int .i64 0] : Array Value).toList 8).map (fun x => (x.1, x.2.1)) =
      some ([.lit (.string []), .lit (.int .i64 0), .agg [.lit (.int .i64 0), .lit (.bool false), .lit (.int .i8 0), .lit (.bool false), .lit (.bool false)], .lit (.int .i64 0)], []) := by kernel_rfl
  obtain ⟨⟨x1, x2, x3⟩, hx, hx1⟩ := Option.map_eq_some_iff.1 hw
  simp only [Prod.mk.injEq] at hx1
  obtain ⟨rfl, rfl⟩ := hx1
  exact OpenSpec.preRow_of_cond 8 hx (by kernel_rfl) (fun k hk => by cases hk; kernel_rfl) (by kernel_rfl) (sh_met os _)

set_option maxRecDepth 100000 in
theorem showAdds_lifted (os : Os) (started : os.Started) (H : Type) (enc : TypeId × Value → H) (F : Stop.Interp) :
    ReturnsInHanded {} Tryd.checked os 18 .any ((Rows.OpenSpec.upto Rows.showAddsSpec).preRow enc Tryd.prog Tryd.f18 Rows.showAddsUptoRow.domain false Rows.showAddsUptoRow.laid) (((Rows.OpenSpec.upto Rows.showAddsSpec).at F).post enc Tryd.prog Tryd.f18 false true false false) := by
  refine returnsInHanded_of_row (C := Tryd.checked) (s := (Rows.OpenSpec.upto Rows.showAddsSpec)) own started (by kernel_rfl) Tryd.func18
    (witness_row_atRef (enc := enc) (C := Tryd.checked) false (shWorld os) #[.string ⟨#[]⟩, .int .i64 0, .agg #[.int .i64 0, .bool false, .int .i8 0, .bool false, .bool false], .int .i64 0] rfl (by kernel_rfl) (by kernel_rfl) (by kernel_rfl) (showAdds_witness os enc)) ?_
  intro W base args ds gs before hval hW _ hcond _ hL _ _
  exact showAdds_contract H enc W base args ds gs before hval hW (hcond _ rfl) hL

theorem showAdds_said : Rows.ShowAddsUptoSaid :=
  OpenClaim.holds_of_cond 18 Tryd.f18 rfl rfl rfl rfl rfl rfl rfl ⟨rfl, rfl, rfl, rfl, rfl⟩ rfl rfl rfl rfl rfl (by kernel_rfl) Tryd.func18 (by kernel_rfl)
    (of_decide_eq_true (by kernel_rfl)) (by unfold Func.isWrapper; first | (rw [if_pos (by decide +kernel)]; kernel_rfl) | (rw [if_neg (by decide +kernel)]; exact ⟨rfl, rfl⟩))
    (fun os started H enc _ F => by rw [OpenClaim.pre_eq_preRow]; exact showAdds_lifted os started H enc F)

theorem showAdds_plain (f : FuncId) (fn : Func) (hf : Tryd.pinned.checked.prog.funcNamed "shuttle/shuttlelaw06.ShowAdds" = some f) (hfn : Tryd.pinned.checked.prog.funcs[f]? = some fn) :
    false = Tryd.pinned.checked.prog.looks [] ∧ ∀ (j : Nat) t, fn.params[j]? = some t → Tryd.pinned.checked.prog.wantsStandIn t = false := by
  obtain rfl : f = 18 := Option.some.inj ((show Tryd.prog.funcNamed "shuttle/shuttlelaw06.ShowAdds" = some 18 by kernel_rfl).symm.trans hf) |>.symm
  obtain rfl : fn = Tryd.f18 := (Option.some.inj (Tryd.func18.symm.trans hfn)).symm
  refine ⟨by kernel_rfl, fun j t ht => ?_⟩
  have hall : Tryd.f18.params.toList.all (fun t => !Tryd.prog.wantsStandIn t) = true := by kernel_rfl
  have hmem : t ∈ Tryd.f18.params.toList := by simpa using Array.mem_of_getElem? ht
  have := List.all_eq_true.1 hall t hmem
  exact (by simpa using this : Tryd.prog.wantsStandIn t = false)

theorem showAdds_holds : Rows.ShowAddsUptoCardSaid :=
  Claim7.holds_tied_plain_at .later [] _ _ _ _ showAdds_said (fun _ h => by cases h) (by kernel_rfl) (fun _ h => by cases h) showAddsUpto_row_tie rfl ⟨rfl, rfl⟩ (by kernel_rfl) rfl showAdds_plain (by kernel_rfl)

#print axioms showAdds_holds
end Go.Proofs.YthpjkgoahneldaaDoor
