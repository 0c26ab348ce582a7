/-
  Layer 1: ScanReads holds: two readers, any calls on each in turns: every answer, and what is held at last, is the document's.
  Condition: arguments of bulk up to 1048576 (the second form); unicode/utf8's two tables start as the program's text lays them (the cards tie them).
-/
import Derived.Test.YthkcphnkllnfcaaDoorWkU
import Derived.Test.YthkcphnkllnfcaaDoorLy
import Derived.Test.YthkcphnkllnfcaaDoorLw
import Derived.Test.YthkcphnkllnfcaaDoorBulk
import Derived.Test.YthkcphnkllnfcaaDoorU8
import Derived.Test.YthkcphnkllnfcaaDoorCards
import Derived.Test.YthkcphnkllnfcaaDoorTie
import Derived.Deep.DeepHandedRow
import Derived.Deep.DeepWitnessRowRef
set_option linter.unusedVariables false
set_option linter.unusedSimpArgs false
namespace Go.Proofs.YthkcphnkllnfcaaDoor
open Go Go.RowKit Go.ChangeShapes Go.WideShapes Go.ChangeAt Vc Ut Lw
open Go.ChangeMaps (open_string)

theorem own : ownKnob Tryd.prog.godebug = none := by kernel_rfl

theorem call_law {s : CallSpec} {f : FuncId} (hs : s.Ok Tryd.prog f) {args : Array Value} {W : World} (g : s.G) (hg : s.args g = args) (hp : s.pre g W) (hr : ∀ x, s.res x = .bool true) (hpost : ∀ x W', s.post g W x W' → Ext W W') :
    Calls Tryd.prog f args W fun e W' => e = .returned (.bool true) ∧ Below W.heap.size W W' := by
  rw [← hg]
  exact (hs g W hp).mono fun e W' ⟨x, he, hx, _⟩ => ⟨by rw [he, hr], hpost x W' hx⟩

theorem scanReads_contract (H : Type) (enc : TypeId × Value → H) (W : World) (base : Nat) (args : Array Value) (ds gs : List (DataW H)) (before : List MemPlace)
    (hval : ∀ (j : Nat) t v, Tryd.f12.params[j]? = some t → args[j]? = some v → Value.okWide Tryd.prog W .any base t v)
    (hW : DataW.Whole enc Tryd.prog Tryd.f12.params.toList Rows.scanReadsSpec.vars false W args.toList ds gs before) (hk : Rows.uptoSmall H (ds ++ gs) = true) (hL : laidMet Tryd.prog u8laid W) :
    Calls Tryd.prog 12 args W fun e W' => ∃ v, e = .returned v ∧ Rows.scanReadsSpec.post enc Tryd.prog Tryd.f12 false true false false W args v W' := by
  have hU := u8_of hL
  have hW' := hW
  obtain ⟨p, q, hA0, hV, rfl, hfz, hnd⟩ := hW
  have hA : DataW.TrodAll enc Tryd.prog W 0 (fun _ => true) true Tryd.f12.params.toList args.toList ds p := hA0
  have hpar : Tryd.f12.params = #[53, 53] := by kernel_rfl
  rw [hpar] at hA hval
  obtain ⟨v0, vs0, d0, ds0, p0, q0, hargs, rfl, rfl, h0, r0⟩ := trodAll_cons hA
  obtain ⟨v1, vs1, d1, ds1, p1, q1, rfl, rfl, rfl, h1, r1⟩ := trodAll_cons r0
  obtain ⟨rfl, rfl, rfl⟩ := trodAll_nil r1
  obtain rfl : args = #[v0, v1] := by cases args; simp_all
  have hb0 := Nat.le_trans (Bulk.part_le (d := d0) (by simp)) (Bulk.small hk)
  obtain ⟨ad0, c0, l0, rfl, hc0, hl0⟩ := steps_in (e := 61) (ti := 3) (tb := 47) (eb := 5) (by kernel_rfl) (by kernel_rfl) (by kernel_rfl) (by kernel_rfl) (by kernel_rfl) (by kernel_rfl) (by kernel_rfl) (by kernel_rfl) (by kernel_rfl) (hval 0 53 v0 rfl rfl) h0 hb0
  have hb1 := Nat.le_trans (Bulk.part_le (d := d1) (by simp)) (Bulk.small hk)
  obtain ⟨ad1, c1, l1, rfl, hc1, hl1⟩ := steps_in (e := 61) (ti := 3) (tb := 47) (eb := 5) (by kernel_rfl) (by kernel_rfl) (by kernel_rfl) (by kernel_rfl) (by kernel_rfl) (by kernel_rfl) (by kernel_rfl) (by kernel_rfl) (by kernel_rfl) (hval 1 53 v1 rfl rfl) h1 hb1
  exact law_calls hW' rfl rfl (tb := 4) (by kernel_rfl) (by kernel_rfl) (by kernel_rfl) (by kernel_rfl) (call_law lawRs_ok ⟨⟨ad0, c0, l0⟩, ⟨ad1, c1, l1⟩⟩ rfl ⟨hU, hc0, hc1, hl0, hl1⟩ (fun _ => rfl) (fun _ _ h => h))

theorem scanReads_witness (os : Os) {H : Type} (enc : TypeId × Value → H) :
    (Rows.OpenSpec.upto Rows.scanReadsSpec).preRow enc Tryd.prog Tryd.f12 Rows.scanReadsUptoRow.domain false Rows.scanReadsUptoRow.laid ((laidWorld os).forCall (fun _ _ => 0) ⟨#[], #[.slice none 0 0, .slice none 0 0], []⟩).memory #[.slice none 0 0, .slice none 0 0] := by
  have hw : (DataW.whole enc Tryd.prog ((laidWorld os).forCall (fun _ _ => 0) ⟨#[], #[.slice none 0 0, .slice none 0 0], []⟩).memory Tryd.f12.params.toList Rows.scanReadsSpec.vars false (#[.slice none 0 0, .slice none 0 0] : Array Value).toList 8).map (fun x => (x.1, x.2.1)) =
      some ([.nil, .nil], []) := by kernel_rfl
  obtain ⟨⟨x1, x2, x3⟩, hx, hx1⟩ := Option.map_eq_some_iff.1 hw
  simp only [Prod.mk.injEq] at hx1
  obtain ⟨rfl, rfl⟩ := hx1
  exact OpenSpec.preRow_of_cond 8 hx (by kernel_rfl) (fun k hk => by cases hk; kernel_rfl) (by kernel_rfl) (laid_met os _)

set_option maxRecDepth 100000 in
theorem scanReads_lifted (os : Os) (started : os.Started) (H : Type) (enc : TypeId × Value → H) (F : Stop.Interp) :
    ReturnsInHanded {} Tryd.checked os 12 .any ((Rows.OpenSpec.upto Rows.scanReadsSpec).preRow enc Tryd.prog Tryd.f12 Rows.scanReadsUptoRow.domain false Rows.scanReadsUptoRow.laid) (((Rows.OpenSpec.upto Rows.scanReadsSpec).at F).post enc Tryd.prog Tryd.f12 false true false false) := by
  refine returnsInHanded_of_row (C := Tryd.checked) (s := (Rows.OpenSpec.upto Rows.scanReadsSpec)) own started (by kernel_rfl) Tryd.func12
    (witness_row_atRef (enc := enc) (C := Tryd.checked) false (laidWorld os) #[.slice none 0 0, .slice none 0 0] rfl (by kernel_rfl) (by kernel_rfl) (by kernel_rfl) (scanReads_witness os enc)) ?_
  intro W base args ds gs before hval hW _ hcond _ hL _ _
  exact scanReads_contract H enc W base args ds gs before hval hW (hcond _ rfl) hL

theorem scanReads_said : Rows.ScanReadsUptoSaid :=
  OpenClaim.holds_of_cond 12 Tryd.f12 rfl rfl rfl rfl rfl rfl rfl ⟨rfl, rfl, rfl, rfl, rfl⟩ rfl rfl rfl rfl rfl (by kernel_rfl) Tryd.func12 (by kernel_rfl)
    (of_decide_eq_true (by kernel_rfl)) (by unfold Func.isWrapper; first | (rw [if_pos (by decide +kernel)]; kernel_rfl) | (rw [if_neg (by decide +kernel)]; exact ⟨rfl, rfl⟩))
    (fun os started H enc _ F => by rw [OpenClaim.pre_eq_preRow]; exact scanReads_lifted os started H enc F)

theorem scanReads_plain (f : FuncId) (fn : Func) (hf : Tryd.pinned.checked.prog.funcNamed "shuttle/shuttlelaw01.ScanReads" = some f) (hfn : Tryd.pinned.checked.prog.funcs[f]? = some fn) :
    false = Tryd.pinned.checked.prog.looks [] ∧ ∀ (j : Nat) t, fn.params[j]? = some t → Tryd.pinned.checked.prog.wantsStandIn t = false := by
  obtain rfl : f = 12 := Option.some.inj ((show Tryd.prog.funcNamed "shuttle/shuttlelaw01.ScanReads" = some 12 by kernel_rfl).symm.trans hf) |>.symm
  obtain rfl : fn = Tryd.f12 := (Option.some.inj (Tryd.func12.symm.trans hfn)).symm
  refine ⟨by kernel_rfl, fun j t ht => ?_⟩
  have hall : Tryd.f12.params.toList.all (fun t => !Tryd.prog.wantsStandIn t) = true := by kernel_rfl
  have hmem : t ∈ Tryd.f12.params.toList := by simpa using Array.mem_of_getElem? ht
  have := List.all_eq_true.1 hall t hmem
  exact (by simpa using this : Tryd.prog.wantsStandIn t = false)

theorem scanReads_holds : Rows.ScanReadsUptoCardSaid :=
  Claim7.holds_tied_plain_at .later [] _ _ _ _ scanReads_said (fun _ h => by cases h) (by kernel_rfl) (fun _ h => by cases h) scanReadsUpto_row_tie rfl ⟨rfl, rfl⟩ (by kernel_rfl) rfl scanReads_plain (by kernel_rfl)

#print axioms scanReads_holds
end Go.Proofs.YthkcphnkllnfcaaDoor
