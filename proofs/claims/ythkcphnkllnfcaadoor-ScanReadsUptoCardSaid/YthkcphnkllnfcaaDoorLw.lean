/-
  From a law's function, shown to return true and to turn nothing, to its row: what is asked of readings.
-/
import Derived.Test.YthkcphnkllnfcaaDoorRows
import Derived.Test.YthkcphnkllnfcaaDoorVe
import Derived.WalkKit
import Derived.ProofKit
import Derived.OpenShut
import Derived.JoinedCond
import Derived.SizedLaws
import Derived.Carry
set_option linter.unusedVariables false
set_option linter.unusedSimpArgs false
namespace Go.Proofs.YthkcphnkllnfcaaDoor.Lw
open Go Go.RowKit Go.ChangeShapes Go.WideShapes Go.ChangeAt Vc

section
variable {H : Type} {enc : TypeId × Value → H} {P : Program}

theorem trodAll_stays (hl : laidOutB P = true) {W W' : World} (hx : Below W.heap.size W W') {sp : Nat → Bool} : ∀ {ts : List TypeId} {vs : List Value} {ds : List (DataW H)} {p : List MemPlace},
    ts.all (fun t => P.readableRec t && decide (t < P.types.size)) = true → DataW.TrodAll enc P W 0 (fun _ => true) true ts vs ds p → (∀ x ∈ p, x.block < W.heap.size) → (∀ x ∈ p, sp x.block = true) → DataW.TrodAll enc P W' 0 sp true ts vs ds p
  | [], vs, ds, p, _, h, _, _ => by
    obtain ⟨rfl, rfl, rfl⟩ := trodAll_nil h
    exact trodAll_mk0
  | t :: ts, vs, ds, p, hp, h, hlt, hs => by
    obtain ⟨v, vs', d, ds', a, b, rfl, rfl, rfl, h1, h2⟩ := trodAll_cons h
    simp only [List.all_cons, Bool.and_eq_true, decide_eq_true_eq] at hp
    have h3 := WideElems.Trod_stays (sp' := sp) hl hp.1.1 hp.1.2 h1 (fun x hx' => hx.same (hlt x (by simp [hx']))) (fun x hx' => hs x (by simp [hx']))
    exact ⟨a, b, h3, trodAll_stays hl hx (by simpa using hp.2) h2 (fun x hx' => hlt x (by simp [hx'])) (fun x hx' => hs x (by simp [hx'])), rfl⟩

/-- What a law's row asks behind the call. -/
theorem post_law {f : Func} {s : ChangeSpec} {apart fresh handsOn again : Bool} {W W' : World} {args : Array Value} {ds gs : List (DataW H)} {before : List MemPlace} {tb : TypeId} (hW : DataW.Whole enc P f.params.toList s.vars apart W args.toList ds gs before) (hvars : s.vars = [])
    (hfn : s.fn H ds = { results := [.lit (.bool true)], args := ds }) (hres : f.resultTypes = #[tb]) (htb : P.underlying tb = some .bool) (hl : laidOutB P = true) (hp : f.params.toList.all (fun t => P.readableRec t && decide (t < P.types.size)) = true) (hx : Below W.heap.size W W') :
    s.post enc P f apart fresh handsOn again W args (.bool true) W' := by
  have hW0 := hW
  obtain ⟨pa, pv, hA, hV, rfl, hz, hn⟩ := hW
  rw [hvars] at hV
  obtain ⟨rfl, rfl⟩ := trodVars_none hV
  simp only [List.append_nil] at hW0 hz hn
  have hlt : ∀ x ∈ pa, x.block < W.heap.size := fun x hx => by simpa using hW0.lt x hx
  have hr : ∀ (b : Nat) (sp : Nat → Bool) (hd : Bool), DataW.TrodAll enc P W' b sp hd f.resultTypes.toList ((Value.bool true).resultList f.resultTypes.size) (s.fn H (ds ++ [])).results [] := by
    intro b sp hd
    rw [List.append_nil, hfn, hres]
    exact trodAll_cons_mk (shut_bool htb _) trodAll_mk0
  have ha : ∀ sp : Nat → Bool, (∀ p ∈ pa, sp p.block = true) → DataW.TrodAll enc P W' 0 sp true f.params.toList args.toList (s.fn H (ds ++ [])).args pa := by
    intro sp hs
    rw [List.append_nil, hfn]
    exact trodAll_stays hl hx hp hA hlt hs
  have hv : ∀ sp : Nat → Bool, DataW.TrodVars enc P W' sp s.vars (s.fn H (ds ++ [])).vars [] := by
    intro sp
    rw [List.append_nil, hfn, hvars]
    rfl
  refine ⟨ds, [], pa, [], pa, [], hW0, hr _ _ _, ha _ (fun p hp => by simpa using hlt p hp), hv _, World.keptBut_mono (fun p hp => ⟨hp, .inr (.inl hp)⟩) (hx.frame _), fun _ => ?_⟩
  refine ⟨ok_one hres rfl (okWide_bool_mk htb _), _, _, ([] ++ pa) ++ [], ⟨[] ++ pa, [], trodAll_append (ha _ (fun _ _ => rfl)) (hr _ _ _), hv _, rfl, ?_, ?_⟩, ?_⟩
  · intro b off hp
    have hp' : MemPlace.cell b off ∈ pa := by simpa using hp
    rw [hx.frozen (hlt _ hp')]
    exact hz b off hp'
  · intro ha'
    have := hn ha'
    simpa using this
  · intro p hp _
    simpa using hp

/-- A law's call, as the engine shows it. -/
theorem law_calls {f : FuncId} {fn : Func} {s : ChangeSpec} {apart fresh handsOn again : Bool} {W : World} {args : Array Value} {ds gs : List (DataW H)} {before : List MemPlace} {tb : TypeId} (hW : DataW.Whole enc P fn.params.toList s.vars apart W args.toList ds gs before) (hvars : s.vars = [])
    (hfn : s.fn H ds = { results := [.lit (.bool true)], args := ds }) (hres : fn.resultTypes = #[tb]) (htb : P.underlying tb = some .bool) (hl : laidOutB P = true) (hp : fn.params.toList.all (fun t => P.readableRec t && decide (t < P.types.size)) = true)
    (h : Calls P f args W fun e W' => e = .returned (.bool true) ∧ Below W.heap.size W W') :
    Calls P f args W fun e W' => ∃ v, e = .returned v ∧ s.post enc P fn apart fresh handsOn again W args v W' :=
  h.mono fun e W' ⟨he, hx⟩ => ⟨_, he, post_law hW hvars hfn hres htb hl hp hx⟩

/-- A slice of numbers that came in. -/
theorem ints_in {W : World} {base b0 : Nat} {t e : TypeId} {k : IntKind} {v : Value} {d : DataW H} {p : List MemPlace} (ht : P.underlying t = some (.slice e)) (he : P.underlying e = some (.int k)) (hc : P.cellsOf e = 1) (hval : Value.okWide P W .any b0 t v)
    (h : DataW.Trod enc P W base (fun _ => true) true t v d p) : ∃ (ad : Option Addr) (c : Nat) (xs : List Int) (more : Nat), v = .slice ad xs.length c ∧ CellsAt W ad (xs.map (Value.int k)) ∧ (∀ x ∈ xs, (Lit.int k x).wf = true) ∧
      ((d = .nil ∧ xs = []) ∨ ∃ elems spare, d = .slice elems spare ∧ elems.length = xs.length) := by
  obtain ⟨fuel, hf⟩ := h
  rcases open_ints ht he hc hf with ⟨h1, h2⟩ | ⟨a, len, cap, zs, h1, h2, h3, h4, h5, h6, h7, h8⟩
  · refine ⟨none, 0, [], 0, ?_, CellsAt.nil _ _, by simp, .inl ⟨?_, rfl⟩⟩
    · cases v <;> simp_all [Value.cells]
      rename_i cs
      simp only [Value.okWide, ht] at hval
      simp [Cell.okWide, Cell.ok, ht] at hval
    · have := congrArg (fun x => x.1) h2; exact this
  · have hv : v = .slice (some a) len cap := by
      cases v <;> simp_all [Value.cells]
      rename_i cs
      simp only [Value.okWide, ht] at hval
      simp [Cell.okWide, Cell.ok, ht] at hval
    simp only [if_true] at h5
    have hlen : (zs.take len).length = len := by rw [List.length_take]; omega
    refine ⟨some a, cap, zs.take len, 0, by rw [hlen]; exact hv, ?_, fun x hx => h8 x (List.mem_of_mem_take hx), .inr ⟨lits k (zs.take len), lits k (zs.drop len), ?_, by simp [lits]⟩⟩
    · by_cases hz : zs.length = 0
      · left
        have : zs = [] := List.eq_nil_of_length_eq_zero hz
        simp [this]
      · have h0 := h7 0 (by omega)
        obtain ⟨b, o, sp⟩ := a
        have hsp : sp = none := by
          cases sp with
          | none => rfl
          | some q =>
            simp only [Addr.add, if_true, World.cell?] at h0
            split at h0 <;> simp at h0
        subst hsp
        refine .inr ⟨b, o, rfl, fun j u hj => ?_⟩
        rw [List.getElem?_map] at hj
        obtain ⟨x, hx, rfl⟩ := Option.map_eq_some_iff.1 hj
        rw [List.getElem?_take] at hx
        split at hx
        · have hj2 : j < zs.length := (List.getElem?_eq_some_iff.1 hx).1
          have := h7 j hj2
          rw [add_lit] at this
          rw [this, List.getD_eq_getElem?_getD, hx]
          rfl
        · cases hx
    · exact congrArg (fun x => x.1) h6
end

/-- One sized slice of numbers. -/
theorem reach_le {n b : Nat} (h : n * b ≤ reachBytes) : n * b ≤ 140737488351232 := h

end Go.Proofs.YthkcphnkllnfcaaDoor.Lw
