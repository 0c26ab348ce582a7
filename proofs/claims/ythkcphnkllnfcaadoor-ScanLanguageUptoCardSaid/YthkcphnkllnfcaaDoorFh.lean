/-
  Layer 1: ScanLanguage holds: the iterator, the numbers and the texts agree with the language's own range and conversions.
  Condition: arguments of bulk up to 1048576 (the second form); unicode/utf8's two tables start as the program's text lays them (the cards tie them).
-/
import Derived.Test.YthkcphnkllnfcaaDoorWkP
import Derived.Test.YthkcphnkllnfcaaDoorLw
import Derived.Test.YthkcphnkllnfcaaDoorBulk
import Derived.Test.YthkcphnkllnfcaaDoorU8
import Derived.Test.YthkcphnkllnfcaaDoorCards
import Derived.Test.YthkcphnkllnfcaaDoorTie
import Derived.Deep.DeepHandedRow
import Derived.Deep.DeepWitnessRowRef
set_option linter.unusedVariables false
set_option linter.unusedSimpArgs false
namespace Go.Proofs.YthkcphnkllnfcaaDoor
open Go Go.RowKit Go.ChangeShapes Go.WideShapes Go.ChangeAt Vc Ut Lw
open Go.ChangeMaps (open_string)

theorem own : ownKnob Tryd.prog.godebug = none := by kernel_rfl

theorem call_law {s : CallSpec} {f : FuncId} (hs : s.Ok Tryd.prog f) {args : Array Value} {W : World} (g : s.G) (hg : s.args g = args) (hp : s.pre g W) (hr : ∀ x, s.res x = .bool true) (hpost : ∀ x W', s.post g W x W' → Ext W W') :
    Calls Tryd.prog f args W fun e W' => e = .returned (.bool true) ∧ Below W.heap.size W W' := by
  rw [← hg]
  exact (hs g W hp).mono fun e W' ⟨x, he, hx, _⟩ => ⟨by rw [he, hr], hpost x W' hx⟩

theorem scanLanguage_contract (H : Type) (enc : TypeId × Value → H) (W : World) (base : Nat) (args : Array Value) (ds gs : List (DataW H)) (before : List MemPlace)
    (hval : ∀ (j : Nat) t v, Tryd.f7.params[j]? = some t → args[j]? = some v → Value.okWide Tryd.prog W .any base t v)
    (hW : DataW.Whole enc Tryd.prog Tryd.f7.params.toList Rows.scanLanguageSpec.vars false W args.toList ds gs before) (hk : Rows.uptoSmall H (ds ++ gs) = true) (hL : laidMet Tryd.prog u8laid W) :
    Calls Tryd.prog 7 args W fun e W' => ∃ v, e = .returned v ∧ Rows.scanLanguageSpec.post enc Tryd.prog Tryd.f7 false true false false W args v W' := by
  have hU := u8_of hL
  have hW' := hW
  obtain ⟨p, q, hA0, hV, rfl, hfz, hnd⟩ := hW
  have hA : DataW.TrodAll enc Tryd.prog W 0 (fun _ => true) true Tryd.f7.params.toList args.toList ds p := hA0
  have hpar : Tryd.f7.params = #[9, 26] := by kernel_rfl
  rw [hpar] at hA hval
  obtain ⟨v0, vs0, d0, ds0, p0, q0, hargs, rfl, rfl, h0, r0⟩ := trodAll_cons hA
  obtain ⟨v1, vs1, d1, ds1, p1, q1, rfl, rfl, rfl, h1, r1⟩ := trodAll_cons r0
  obtain ⟨rfl, rfl, rfl⟩ := trodAll_nil r1
  obtain rfl : args = #[v0, v1] := by cases args; simp_all
  obtain ⟨s0, rfl, rfl, rfl, ws0⟩ := open_string (by kernel_rfl) (hval 0 9 v0 rfl rfl) h0
  obtain ⟨ad1, c1, xs1, _, rfl, hc1, wf1, hd1⟩ := ints_in (k := .i32) (e := 21) (by kernel_rfl) (by kernel_rfl) (by kernel_rfl) (hval 1 26 v1 rfl rfl) h1
  have hl0 : s0.size ≤ 1048576 := by
    have := Bulk.string hk (bytes := s0.data.toList) (by simp)
    rwa [size_list] at this
  have hl1 : xs1.length ≤ 1048576 := by
    rcases hd1 with ⟨_, rfl⟩ | ⟨elems, spare, rfl, he⟩
    · simp
    · have := Bulk.slice hk (elems := elems) (spare := spare) (by simp)
      omega
  exact law_calls hW' rfl rfl (tb := 4) (by kernel_rfl) (by kernel_rfl) (by kernel_rfl) (by kernel_rfl) (call_law lawLang_ok ⟨s0, ⟨ad1, c1, xs1⟩⟩ rfl ⟨hU, hc1, hl0, hl1⟩ (fun _ => rfl) (fun _ _ h => h))

theorem scanLanguage_witness (os : Os) {H : Type} (enc : TypeId × Value → H) :
    (Rows.OpenSpec.upto Rows.scanLanguageSpec).preRow enc Tryd.prog Tryd.f7 Rows.scanLanguageUptoRow.domain false Rows.scanLanguageUptoRow.laid ((laidWorld os).forCall (fun _ _ => 0) ⟨#[], #[.string ⟨#[]⟩, .slice none 0 0], []⟩).memory #[.string ⟨#[]⟩, .slice none 0 0] := by
  have hw : (DataW.whole enc Tryd.prog ((laidWorld os).forCall (fun _ _ => 0) ⟨#[], #[.string ⟨#[]⟩, .slice none 0 0], []⟩).memory Tryd.f7.params.toList Rows.scanLanguageSpec.vars false (#[.string ⟨#[]⟩, .slice none 0 0] : Array Value).toList 8).map (fun x => (x.1, x.2.1)) =
      some ([.lit (.string []), .nil], []) := by kernel_rfl
  obtain ⟨⟨x1, x2, x3⟩, hx, hx1⟩ := Option.map_eq_some_iff.1 hw
  simp only [Prod.mk.injEq] at hx1
  obtain ⟨rfl, rfl⟩ := hx1
  exact OpenSpec.preRow_of_cond 8 hx (by kernel_rfl) (fun k hk => by cases hk; kernel_rfl) (by kernel_rfl) (laid_met os _)

set_option maxRecDepth 100000 in
theorem scanLanguage_lifted (os : Os) (started : os.Started) (H : Type) (enc : TypeId × Value → H) (F : Stop.Interp) :
    ReturnsInHanded {} Tryd.checked os 7 .any ((Rows.OpenSpec.upto Rows.scanLanguageSpec).preRow enc Tryd.prog Tryd.f7 Rows.scanLanguageUptoRow.domain false Rows.scanLanguageUptoRow.laid) (((Rows.OpenSpec.upto Rows.scanLanguageSpec).at F).post enc Tryd.prog Tryd.f7 false true false false) := by
  refine returnsInHanded_of_row (C := Tryd.checked) (s := (Rows.OpenSpec.upto Rows.scanLanguageSpec)) own started (by kernel_rfl) Tryd.func7
    (witness_row_atRef (enc := enc) (C := Tryd.checked) false (laidWorld os) #[.string ⟨#[]⟩, .slice none 0 0] rfl (by kernel_rfl) (by kernel_rfl) (by kernel_rfl) (scanLanguage_witness os enc)) ?_
  intro W base args ds gs before hval hW _ hcond _ hL _ _
  exact scanLanguage_contract H enc W base args ds gs before hval hW (hcond _ rfl) hL

theorem scanLanguage_said : Rows.ScanLanguageUptoSaid :=
  OpenClaim.holds_of_cond 7 Tryd.f7 rfl rfl rfl rfl rfl rfl rfl ⟨rfl, rfl, rfl, rfl, rfl⟩ rfl rfl rfl rfl rfl (by kernel_rfl) Tryd.func7 (by kernel_rfl)
    (of_decide_eq_true (by kernel_rfl)) (by unfold Func.isWrapper; first | (rw [if_pos (by decide +kernel)]; kernel_rfl) | (rw [if_neg (by decide +kernel)]; exact ⟨rfl, rfl⟩))
    (fun os started H enc _ F => by rw [OpenClaim.pre_eq_preRow]; exact scanLanguage_lifted os started H enc F)

theorem scanLanguage_plain (f : FuncId) (fn : Func) (hf : Tryd.pinned.checked.prog.funcNamed "shuttle/shuttlelaw01.ScanLanguage" = some f) (hfn : Tryd.pinned.checked.prog.funcs[f]? = some fn) :
    false = Tryd.pinned.checked.prog.looks [] ∧ ∀ (j : Nat) t, fn.params[j]? = some t → Tryd.pinned.checked.prog.wantsStandIn t = false := by
  obtain rfl : f = 7 := Option.some.inj ((show Tryd.prog.funcNamed "shuttle/shuttlelaw01.ScanLanguage" = some 7 by kernel_rfl).symm.trans hf) |>.symm
  obtain rfl : fn = Tryd.f7 := (Option.some.inj (Tryd.func7.symm.trans hfn)).symm
  refine ⟨by kernel_rfl, fun j t ht => ?_⟩
  have hall : Tryd.f7.params.toList.all (fun t => !Tryd.prog.wantsStandIn t) = true := by kernel_rfl
  have hmem : t ∈ Tryd.f7.params.toList := by simpa using Array.mem_of_getElem? ht
  have := List.all_eq_true.1 hall t hmem
  exact (by simpa using this : Tryd.prog.wantsStandIn t = false)

theorem scanLanguage_holds : Rows.ScanLanguageUptoCardSaid :=
  Claim7.holds_tied_plain_at .later [] _ _ _ _ scanLanguage_said (fun _ h => by cases h) (by kernel_rfl) (fun _ h => by cases h) scanLanguageUpto_row_tie rfl ⟨rfl, rfl⟩ (by kernel_rfl) rfl scanLanguage_plain (by kernel_rfl)

#print axioms scanLanguage_holds
end Go.Proofs.YthkcphnkllnfcaaDoor
