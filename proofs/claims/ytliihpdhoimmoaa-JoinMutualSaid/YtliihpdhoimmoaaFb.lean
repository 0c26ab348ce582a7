/-
  Four laws of layer 11 that ask nothing of the document's answer hold. JoinBack and JoinMarks in the second form (arguments of bulk up to 1048576), JoinMutual and JoinKnown without condition.
-/
import Derived.Test.YtliihpdhoimmoaaWkI
import Derived.Test.YtliihpdhoimmoaaLw
import Derived.Test.YtliihpdhoimmoaaBulk
set_option linter.unusedVariables false
set_option linter.unusedSimpArgs false
namespace Go.Proofs.Ytliihpdhoimmoaa
open Go Go.RowKit Go.ChangeShapes Go.WideShapes Go.ChangeAt Vc Tb Lw

theorem own : ownKnob Try.prog.godebug = none := by kernel_rfl

theorem call_list {s : CallSpec} {f : FuncId} (hs : s.Ok Try.prog f) {args : Array Value} {W : World} (g : s.G) (hg : s.args g = args) (hp : s.pre g W) (hr : ∀ x, s.res x = .bool true) (hpost : ∀ x W', s.post g W x W' → Ext W W') :
    Calls Try.prog f args W fun e W' => e = .returned (.bool true) ∧ Below W.heap.size W W' := by
  rw [← hg]
  exact (hs g W hp).mono fun e W' ⟨x, he, hx, _⟩ => ⟨by rw [he, hr], hpost x W' hx⟩

theorem joinBack_contract (H : Type) (enc : TypeId × Value → H) (W : World) (base : Nat) (args : Array Value) (ds gs : List (DataW H)) (before : List MemPlace)
    (hval : ∀ (j : Nat) t v, Try.f6.params[j]? = some t → args[j]? = some v → Value.okWide Try.prog W .any base t v)
    (hW : DataW.Whole enc Try.prog Try.f6.params.toList Rows.joinBackSpec.vars false W args.toList ds gs before)
    (hk : Rows.uptoSmall H (ds ++ gs) = true) :
    Calls Try.prog 6 args W fun e W' => ∃ v, e = .returned v ∧ Rows.joinBackSpec.post enc Try.prog Try.f6 false true false false W args v W' := by
  have hW' := hW
  obtain ⟨p, q, hA0, hV, rfl, hfz, hnd⟩ := hW
  have hA : DataW.TrodAll enc Try.prog W 0 (fun _ => true) true Try.f6.params.toList args.toList ds p := hA0
  have hpar : Try.f6.params = #[22] := by kernel_rfl
  rw [hpar] at hA hval
  obtain ⟨v0, vs0, d0, ds0, p0, q0, hargs, rfl, rfl, h0, r0⟩ := trodAll_cons hA
  obtain ⟨rfl, rfl, rfl⟩ := trodAll_nil r0
  obtain rfl : args = #[v0] := by cases args; simp_all
  obtain ⟨ad, c, xs, _, rfl, hc, _, hd⟩ := ints_in (k := .i32) (e := 21) (by kernel_rfl) (by kernel_rfl) (by kernel_rfl) (hval 0 22 v0 rfl rfl) h0
  have hlen : xs.length ≤ 1048576 := by
    rcases hd with ⟨_, rfl⟩ | ⟨elems, spare, rfl, he⟩
    · simp
    · have := Bulk.slice hk (elems := elems) (spare := spare) (by simp)
      omega
  exact law_calls hW' rfl rfl (tb := 4) (by kernel_rfl) (by kernel_rfl) (by kernel_rfl) (by kernel_rfl) (call_list back_ok ⟨ad, c, xs⟩ rfl ⟨⟨hc, by dsimp only; omega⟩, by dsimp only; omega⟩ (fun _ => rfl) (fun _ _ h => h))

set_option maxRecDepth 100000 in
theorem joinBack_lifted (os : Os) (started : os.Started) (H : Type) (enc : TypeId × Value → H) (F : Stop.Interp) :
    ReturnsInHanded {} Try.checked os 6 .any ((Rows.OpenSpec.upto Rows.joinBackSpec).pre6 enc Try.prog Try.f6 Rows.joinBackUptoRow.domain false) (((Rows.OpenSpec.upto Rows.joinBackSpec).at F).post enc Try.prog Try.f6 false true false false) := by
  refine returnsInHanded_of_cond (C := Try.checked) (s := Rows.OpenSpec.upto Rows.joinBackSpec) (k := Rows.uptoSmall) rfl own started (by kernel_rfl) Try.func6
    (OpenSpec.witness (enc := enc) (C := Try.checked) (s := Rows.OpenSpec.upto Rows.joinBackSpec) (k := Rows.uptoSmall) rfl false ⟨#[], #[.slice none 0 0], []⟩ 8 (by kernel_rfl) (by kernel_rfl) (by kernel_rfl)
      (x := ([.nil], [], [])) (by kernel_rfl) rfl (by kernel_rfl)) ?_
  intro W base args ds gs before hval hW _ hk _
  exact joinBack_contract H enc W base args ds gs before hval hW hk

theorem joinBack_holds : Rows.JoinBackUptoSaid :=
  OpenClaim.holds_of_cond 6 Try.f6 rfl rfl rfl rfl rfl rfl rfl ⟨rfl, rfl, rfl, rfl, rfl⟩ rfl rfl rfl rfl rfl (by kernel_rfl) Try.func6 (by kernel_rfl)
    (of_decide_eq_true (by kernel_rfl)) (by unfold Func.isWrapper; first | (rw [if_pos (by decide +kernel)]; kernel_rfl) | (rw [if_neg (by decide +kernel)]; exact ⟨rfl, rfl⟩))
    (fun os started H enc _ F => joinBack_lifted os started H enc F)

theorem joinMarks_contract (H : Type) (enc : TypeId × Value → H) (W : World) (base : Nat) (args : Array Value) (ds gs : List (DataW H)) (before : List MemPlace)
    (hval : ∀ (j : Nat) t v, Try.f7.params[j]? = some t → args[j]? = some v → Value.okWide Try.prog W .any base t v)
    (hW : DataW.Whole enc Try.prog Try.f7.params.toList Rows.joinMarksSpec.vars false W args.toList ds gs before)
    (hk : Rows.uptoSmall H (ds ++ gs) = true) :
    Calls Try.prog 7 args W fun e W' => ∃ v, e = .returned v ∧ Rows.joinMarksSpec.post enc Try.prog Try.f7 false true false false W args v W' := by
  have hW' := hW
  obtain ⟨p, q, hA0, hV, rfl, hfz, hnd⟩ := hW
  have hA : DataW.TrodAll enc Try.prog W 0 (fun _ => true) true Try.f7.params.toList args.toList ds p := hA0
  have hpar : Try.f7.params = #[22, 37, 21] := by kernel_rfl
  rw [hpar] at hA hval
  obtain ⟨v0, vs0, d0, ds0, p0, q0, hargs, rfl, rfl, h0, r0⟩ := trodAll_cons hA
  obtain ⟨v1, vs1, d1, ds1, p1, q1, rfl, rfl, rfl, h1, r1⟩ := trodAll_cons r0
  obtain ⟨v2, vs2, d2, ds2, p2, q2, rfl, rfl, rfl, h2, r2⟩ := trodAll_cons r1
  obtain ⟨rfl, rfl, rfl⟩ := trodAll_nil r2
  obtain rfl : args = #[v0, v1, v2] := by cases args; simp_all
  obtain ⟨ad, c, xs, _, rfl, hc, _, hd⟩ := ints_in (k := .i32) (e := 21) (by kernel_rfl) (by kernel_rfl) (by kernel_rfl) (hval 0 22 v0 rfl rfl) h0
  obtain ⟨ad1, c1, xs1, _, rfl, hc1, _, hd1⟩ := ints_in (k := .i64) (e := 3) (by kernel_rfl) (by kernel_rfl) (by kernel_rfl) (hval 1 37 v1 rfl rfl) h1
  obtain ⟨m, rfl, rfl, rfl, _⟩ := open_int (k := .i32) (by kernel_rfl) (hval 2 21 v2 rfl rfl) h2
  have hlen : xs.length ≤ 1048576 := by
    rcases hd with ⟨_, rfl⟩ | ⟨elems, spare, rfl, he⟩
    · simp
    · have := Bulk.slice hk (elems := elems) (spare := spare) (by simp)
      omega
  have hlen1 : xs1.length ≤ 1048576 := by
    rcases hd1 with ⟨_, rfl⟩ | ⟨elems, spare, rfl, he⟩
    · simp
    · have := Bulk.slice hk (elems := elems) (spare := spare) (by simp)
      omega
  exact law_calls hW' rfl rfl (tb := 4) (by kernel_rfl) (by kernel_rfl) (by kernel_rfl) (by kernel_rfl) (call_list marks_ok ⟨⟨ad, c, xs⟩, ⟨ad1, c1, xs1⟩, m⟩ rfl ⟨⟨hc, by dsimp only; omega⟩, ⟨hc1, by dsimp only; omega⟩, by dsimp only; omega, by dsimp only; omega⟩ (fun _ => rfl) (fun _ _ h => h))

set_option maxRecDepth 100000 in
theorem joinMarks_lifted (os : Os) (started : os.Started) (H : Type) (enc : TypeId × Value → H) (F : Stop.Interp) :
    ReturnsInHanded {} Try.checked os 7 .any ((Rows.OpenSpec.upto Rows.joinMarksSpec).pre6 enc Try.prog Try.f7 Rows.joinMarksUptoRow.domain false) (((Rows.OpenSpec.upto Rows.joinMarksSpec).at F).post enc Try.prog Try.f7 false true false false) := by
  refine returnsInHanded_of_cond (C := Try.checked) (s := Rows.OpenSpec.upto Rows.joinMarksSpec) (k := Rows.uptoSmall) rfl own started (by kernel_rfl) Try.func7
    (OpenSpec.witness (enc := enc) (C := Try.checked) (s := Rows.OpenSpec.upto Rows.joinMarksSpec) (k := Rows.uptoSmall) rfl false ⟨#[], #[.slice none 0 0, .slice none 0 0, .int .i32 0], []⟩ 8 (by kernel_rfl) (by kernel_rfl) (by kernel_rfl)
      (x := ([.nil, .nil, .lit (.int .i32 0)], [], [])) (by kernel_rfl) rfl (by kernel_rfl)) ?_
  intro W base args ds gs before hval hW _ hk _
  exact joinMarks_contract H enc W base args ds gs before hval hW hk

theorem joinMarks_holds : Rows.JoinMarksUptoSaid :=
  OpenClaim.holds_of_cond 7 Try.f7 rfl rfl rfl rfl rfl rfl rfl ⟨rfl, rfl, rfl, rfl, rfl⟩ rfl rfl rfl rfl rfl (by kernel_rfl) Try.func7 (by kernel_rfl)
    (of_decide_eq_true (by kernel_rfl)) (by unfold Func.isWrapper; first | (rw [if_pos (by decide +kernel)]; kernel_rfl) | (rw [if_neg (by decide +kernel)]; exact ⟨rfl, rfl⟩))
    (fun os started H enc _ F => joinMarks_lifted os started H enc F)

theorem joinMutual_contract (H : Type) (enc : TypeId × Value → H) (W : World) (base : Nat) (args : Array Value) (ds gs : List (DataW H)) (before : List MemPlace)
    (hval : ∀ (j : Nat) t v, Try.f8.params[j]? = some t → args[j]? = some v → Value.okWide Try.prog W .any base t v)
    (hW : DataW.Whole enc Try.prog Try.f8.params.toList Rows.joinMutualSpec.vars false W args.toList ds gs before)
    (hsz : (DataW.weightsEach Try.prog (Try.f8.params.toList ++ Rows.joinMutualSpec.plain.varTypes Try.prog) (ds ++ gs)).all (· ≤ reachBytes) = true) :
    Calls Try.prog 8 args W fun e W' => ∃ v, e = .returned v ∧ Rows.joinMutualSpec.post enc Try.prog Try.f8 false true false false W args v W' := by
  have hW' := hW
  obtain ⟨p, q, hA0, hV, rfl, hfz, hnd⟩ := hW
  have hA : DataW.TrodAll enc Try.prog W 0 (fun _ => true) true Try.f8.params.toList args.toList ds p := hA0
  have hpar : Try.f8.params = #[22] := by kernel_rfl
  rw [hpar] at hA hval
  obtain ⟨v0, vs0, d0, ds0, p0, q0, hargs, rfl, rfl, h0, r0⟩ := trodAll_cons hA
  obtain ⟨rfl, rfl, rfl⟩ := trodAll_nil r0
  obtain rfl : args = #[v0] := by cases args; simp_all
  obtain ⟨ad, c, xs, _, rfl, hc, _, hd⟩ := ints_in (k := .i32) (e := 21) (by kernel_rfl) (by kernel_rfl) (by kernel_rfl) (hval 0 22 v0 rfl rfl) h0
  have hlen : xs.length ≤ 35184372087808 := by
    rcases hd with ⟨_, rfl⟩ | ⟨elems, spare, rfl, he⟩
    · simp
    · have := sized_slice (j := 0) (t := 22) (e := 21) (elems := elems) (spare := spare) hsz (by rw [hpar]; rfl) rfl (by kernel_rfl)
      rw [show Try.prog.bytesOf 21 = 4 from by kernel_rfl] at this
      have h2 : reachBytes = 140737488351232 := rfl
      omega
  exact law_calls hW' rfl rfl (tb := 4) (by kernel_rfl) (by kernel_rfl) (by kernel_rfl) (by kernel_rfl) (call_list mutual_ok ⟨ad, c, xs⟩ rfl ⟨hc, hlen⟩ (fun _ => rfl) (fun _ _ h => h))

set_option maxRecDepth 100000 in
theorem joinMutual_lifted (os : Os) (started : os.Started) (H : Type) (enc : TypeId × Value → H) :
    ReturnsInHanded {} Try.checked os 8 .any (Rows.joinMutualSpec.pre6 enc Try.prog Try.f8 Rows.joinMutualRow.domain false) (Rows.joinMutualSpec.post enc Try.prog Try.f8 false true false false) := by
  refine returnsInHanded_of_change_sized (C := Try.checked) own started (by kernel_rfl) Try.func8
    (ChangeSpec.witness6 (enc := enc) (C := Try.checked) false ⟨#[], #[.slice none 0 0], []⟩ 8 (by kernel_rfl) (by kernel_rfl) (by kernel_rfl) (by kernel_rfl)) ?_
  intro W base args ds gs before hval hW _ hsz _
  exact joinMutual_contract H enc W base args ds gs before hval hW hsz

theorem joinMutual_holds : Rows.JoinMutualSaid :=
  OpenClaim.holds_of_wide 8 Try.f8 rfl rfl rfl rfl rfl rfl rfl ⟨rfl, rfl, rfl, rfl, rfl⟩ rfl rfl rfl rfl rfl (by kernel_rfl) Try.func8 (by kernel_rfl)
    (of_decide_eq_true (by kernel_rfl)) (by unfold Func.isWrapper; first | (rw [if_pos (by decide +kernel)]; kernel_rfl) | (rw [if_neg (by decide +kernel)]; exact ⟨rfl, rfl⟩))
    (fun os started H enc _ => joinMutual_lifted os started H enc)

theorem joinKnown_contract (H : Type) (enc : TypeId × Value → H) (W : World) (base : Nat) (args : Array Value) (ds gs : List (DataW H)) (before : List MemPlace)
    (hval : ∀ (j : Nat) t v, Try.f9.params[j]? = some t → args[j]? = some v → Value.okWide Try.prog W .any base t v)
    (hW : DataW.Whole enc Try.prog Try.f9.params.toList Rows.joinKnownSpec.vars false W args.toList ds gs before)
    (hsz : (DataW.weightsEach Try.prog (Try.f9.params.toList ++ Rows.joinKnownSpec.plain.varTypes Try.prog) (ds ++ gs)).all (· ≤ reachBytes) = true) :
    Calls Try.prog 9 args W fun e W' => ∃ v, e = .returned v ∧ Rows.joinKnownSpec.post enc Try.prog Try.f9 false true false false W args v W' := by
  have hW' := hW
  obtain ⟨p, q, hA0, hV, rfl, hfz, hnd⟩ := hW
  have hA : DataW.TrodAll enc Try.prog W 0 (fun _ => true) true Try.f9.params.toList args.toList ds p := hA0
  have hpar : Try.f9.params = #[] := by kernel_rfl
  rw [hpar] at hA
  obtain ⟨h0, rfl, rfl⟩ := trodAll_nil hA
  obtain rfl : args = #[] := by cases args; simp_all
  exact law_calls hW' rfl rfl (tb := 4) (by kernel_rfl) (by kernel_rfl) (by kernel_rfl) (by kernel_rfl) (call_list known11_ok () rfl trivial (fun _ => rfl) (fun _ _ h => h))

set_option maxRecDepth 100000 in
theorem joinKnown_lifted (os : Os) (started : os.Started) (H : Type) (enc : TypeId × Value → H) :
    ReturnsInHanded {} Try.checked os 9 .any (Rows.joinKnownSpec.pre6 enc Try.prog Try.f9 Rows.joinKnownRow.domain false) (Rows.joinKnownSpec.post enc Try.prog Try.f9 false true false false) := by
  refine returnsInHanded_of_change_sized (C := Try.checked) own started (by kernel_rfl) Try.func9
    (ChangeSpec.witness6 (enc := enc) (C := Try.checked) false ⟨#[], #[], []⟩ 8 (by kernel_rfl) (by kernel_rfl) (by kernel_rfl) (by kernel_rfl)) ?_
  intro W base args ds gs before hval hW _ hsz _
  exact joinKnown_contract H enc W base args ds gs before hval hW hsz

theorem joinKnown_holds : Rows.JoinKnownSaid :=
  OpenClaim.holds_of_wide 9 Try.f9 rfl rfl rfl rfl rfl rfl rfl ⟨rfl, rfl, rfl, rfl, rfl⟩ rfl rfl rfl rfl rfl (by kernel_rfl) Try.func9 (by kernel_rfl)
    (of_decide_eq_true (by kernel_rfl)) (by unfold Func.isWrapper; first | (rw [if_pos (by decide +kernel)]; kernel_rfl) | (rw [if_neg (by decide +kernel)]; exact ⟨rfl, rfl⟩))
    (fun os started H enc _ => joinKnown_lifted os started H enc)

#print axioms joinBack_holds
#print axioms joinMarks_holds
#print axioms joinMutual_holds
#print axioms joinKnown_holds
end Go.Proofs.Ytliihpdhoimmoaa
