/-
  Layer 1: ScanBack holds: a text is gone through in just one way, from its end the same, turned round.
  Condition: arguments of bulk up to 1048576 (the second form); unicode/utf8's two tables start as the program's text lays them (the cards tie them).
-/
import Derived.Test.YthkcphnkllnfcaaDoorWkQ
import Derived.Test.YthkcphnkllnfcaaDoorLw
import Derived.Test.YthkcphnkllnfcaaDoorBulk
import Derived.Test.YthkcphnkllnfcaaDoorU8
import Derived.Test.YthkcphnkllnfcaaDoorCards
import Derived.Test.YthkcphnkllnfcaaDoorTie
import Derived.Deep.DeepHandedRow
import Derived.Deep.DeepWitnessRowRef
set_option linter.unusedVariables false
set_option linter.unusedSimpArgs false
namespace Go.Proofs.YthkcphnkllnfcaaDoor
open Go Go.RowKit Go.ChangeShapes Go.WideShapes Go.ChangeAt Vc Ut Lw
open Go.ChangeMaps (open_string)

theorem own : ownKnob Tryd.prog.godebug = none := by kernel_rfl

theorem call_law {s : CallSpec} {f : FuncId} (hs : s.Ok Tryd.prog f) {args : Array Value} {W : World} (g : s.G) (hg : s.args g = args) (hp : s.pre g W) (hr : ∀ x, s.res x = .bool true) (hpost : ∀ x W', s.post g W x W' → Ext W W') :
    Calls Tryd.prog f args W fun e W' => e = .returned (.bool true) ∧ Below W.heap.size W W' := by
  rw [← hg]
  exact (hs g W hp).mono fun e W' ⟨x, he, hx, _⟩ => ⟨by rw [he, hr], hpost x W' hx⟩

theorem scanBack_contract (H : Type) (enc : TypeId × Value → H) (W : World) (base : Nat) (args : Array Value) (ds gs : List (DataW H)) (before : List MemPlace)
    (hval : ∀ (j : Nat) t v, Tryd.f8.params[j]? = some t → args[j]? = some v → Value.okWide Tryd.prog W .any base t v)
    (hW : DataW.Whole enc Tryd.prog Tryd.f8.params.toList Rows.scanBackSpec.vars false W args.toList ds gs before) (hk : Rows.uptoSmall H (ds ++ gs) = true) (hL : laidMet Tryd.prog u8laid W) :
    Calls Tryd.prog 8 args W fun e W' => ∃ v, e = .returned v ∧ Rows.scanBackSpec.post enc Tryd.prog Tryd.f8 false true false false W args v W' := by
  have hU := u8_of hL
  have hW' := hW
  obtain ⟨p, q, hA0, hV, rfl, hfz, hnd⟩ := hW
  have hA : DataW.TrodAll enc Tryd.prog W 0 (fun _ => true) true Tryd.f8.params.toList args.toList ds p := hA0
  have hpar : Tryd.f8.params = #[9] := by kernel_rfl
  rw [hpar] at hA hval
  obtain ⟨v0, vs0, d0, ds0, p0, q0, hargs, rfl, rfl, h0, r0⟩ := trodAll_cons hA
  obtain ⟨rfl, rfl, rfl⟩ := trodAll_nil r0
  obtain rfl : args = #[v0] := by cases args; simp_all
  obtain ⟨s0, rfl, rfl, rfl, ws0⟩ := open_string (by kernel_rfl) (hval 0 9 v0 rfl rfl) h0
  have hl0 : s0.size ≤ 1048576 := by
    have := Bulk.string hk (bytes := s0.data.toList) (by simp)
    rwa [size_list] at this
  exact law_calls hW' rfl rfl (tb := 4) (by kernel_rfl) (by kernel_rfl) (by kernel_rfl) (by kernel_rfl) (call_law lawBack_ok s0 rfl ⟨hU, hl0⟩ (fun _ => rfl) (fun _ _ h => h))

theorem scanBack_witness (os : Os) {H : Type} (enc : TypeId × Value → H) :
    (Rows.OpenSpec.upto Rows.scanBackSpec).preRow enc Tryd.prog Tryd.f8 Rows.scanBackUptoRow.domain false Rows.scanBackUptoRow.laid ((laidWorld os).forCall (fun _ _ => 0) ⟨#[], #[.string ⟨#[]⟩], []⟩).memory #[.string ⟨#[]⟩] := by
  have hw : (DataW.whole enc Tryd.prog ((laidWorld os).forCall (fun _ _ => 0) ⟨#[], #[.string ⟨#[]⟩], []⟩).memory Tryd.f8.params.toList Rows.scanBackSpec.vars false (#[.string ⟨#[]⟩] : Array Value).toList 8).map (fun x => (x.1, x.2.1)) =
      some ([.lit (.string [])], []) := by kernel_rfl
  obtain ⟨⟨x1, x2, x3⟩, hx, hx1⟩ := Option.map_eq_some_iff.1 hw
  simp only [Prod.mk.injEq] at hx1
  obtain ⟨rfl, rfl⟩ := hx1
  exact OpenSpec.preRow_of_cond 8 hx (by kernel_rfl) (fun k hk => by cases hk; kernel_rfl) (by kernel_rfl) (laid_met os _)

set_option maxRecDepth 100000 in
theorem scanBack_lifted (os : Os) (started : os.Started) (H : Type) (enc : TypeId × Value → H) (F : Stop.Interp) :
    ReturnsInHanded {} Tryd.checked os 8 .any ((Rows.OpenSpec.upto Rows.scanBackSpec).preRow enc Tryd.prog Tryd.f8 Rows.scanBackUptoRow.domain false Rows.scanBackUptoRow.laid) (((Rows.OpenSpec.upto Rows.scanBackSpec).at F).post enc Tryd.prog Tryd.f8 false true false false) := by
  refine returnsInHanded_of_row (C := Tryd.checked) (s := (Rows.OpenSpec.upto Rows.scanBackSpec)) own started (by kernel_rfl) Tryd.func8
    (witness_row_atRef (enc := enc) (C := Tryd.checked) false (laidWorld os) #[.string ⟨#[]⟩] rfl (by kernel_rfl) (by kernel_rfl) (by kernel_rfl) (scanBack_witness os enc)) ?_
  intro W base args ds gs before hval hW _ hcond _ hL _ _
  exact scanBack_contract H enc W base args ds gs before hval hW (hcond _ rfl) hL

theorem scanBack_said : Rows.ScanBackUptoSaid :=
  OpenClaim.holds_of_cond 8 Tryd.f8 rfl rfl rfl rfl rfl rfl rfl ⟨rfl, rfl, rfl, rfl, rfl⟩ rfl rfl rfl rfl rfl (by kernel_rfl) Tryd.func8 (by kernel_rfl)
    (of_decide_eq_true (by kernel_rfl)) (by unfold Func.isWrapper; first | (rw [if_pos (by decide +kernel)]; kernel_rfl) | (rw [if_neg (by decide +kernel)]; exact ⟨rfl, rfl⟩))
    (fun os started H enc _ F => by rw [OpenClaim.pre_eq_preRow]; exact scanBack_lifted os started H enc F)

theorem scanBack_plain (f : FuncId) (fn : Func) (hf : Tryd.pinned.checked.prog.funcNamed "shuttle/shuttlelaw01.ScanBack" = some f) (hfn : Tryd.pinned.checked.prog.funcs[f]? = some fn) :
    false = Tryd.pinned.checked.prog.looks [] ∧ ∀ (j : Nat) t, fn.params[j]? = some t → Tryd.pinned.checked.prog.wantsStandIn t = false := by
  obtain rfl : f = 8 := Option.some.inj ((show Tryd.prog.funcNamed "shuttle/shuttlelaw01.ScanBack" = some 8 by kernel_rfl).symm.trans hf) |>.symm
  obtain rfl : fn = Tryd.f8 := (Option.some.inj (Tryd.func8.symm.trans hfn)).symm
  refine ⟨by kernel_rfl, fun j t ht => ?_⟩
  have hall : Tryd.f8.params.toList.all (fun t => !Tryd.prog.wantsStandIn t) = true := by kernel_rfl
  have hmem : t ∈ Tryd.f8.params.toList := by simpa using Array.mem_of_getElem? ht
  have := List.all_eq_true.1 hall t hmem
  exact (by simpa using this : Tryd.prog.wantsStandIn t = false)

theorem scanBack_holds : Rows.ScanBackUptoCardSaid :=
  Claim7.holds_tied_plain_at .later [] _ _ _ _ scanBack_said (fun _ h => by cases h) (by kernel_rfl) (fun _ h => by cases h) scanBackUpto_row_tie rfl ⟨rfl, rfl⟩ (by kernel_rfl) rfl scanBack_plain (by kernel_rfl)

#print axioms scanBack_holds
end Go.Proofs.YthkcphnkllnfcaaDoor
