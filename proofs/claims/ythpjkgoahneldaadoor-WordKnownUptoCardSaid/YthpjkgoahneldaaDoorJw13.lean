/-
  Texts joined by program: Bulk, U8, WkWh.
-/
import Derived.Test.YthpjkgoahneldaaDoorRows
import Derived.Test.YthpjkgoahneldaaDoorJw09
import Derived.Lib.LaidIn
import Derived.Lib.LaidU8
import Derived.Test.YthpjkgoahneldaaDoorJw12
set_option linter.unusedVariables false
set_option linter.unusedSimpArgs false

section
/-
  The bound of the second form, in use: how long a part of what came in can be.
-/
namespace Go.Proofs.YthpjkgoahneldaaDoor.Bulk
open Go

theorem one_le {H : Type} (d : DataW H) : 1 ≤ Rows.uptoBulk d := by
  cases d with
  | lit l => cases l <;> simp [Rows.uptoBulk]
  | _ => simp only [Rows.uptoBulk]; omega

theorem part_le {H : Type} {d : DataW H} {l : List (DataW H)} (h : d ∈ l) : Rows.uptoBulk d ≤ Rows.uptoBulkAll l := by
  induction l with
  | nil => cases h
  | cons x r ih =>
    simp only [Rows.uptoBulkAll]
    rcases List.mem_cons.1 h with rfl | h
    · omega
    · have := ih h; omega

theorem length_le {H : Type} (l : List (DataW H)) : l.length ≤ Rows.uptoBulkAll l := by
  induction l with
  | nil => simp
  | cons x r ih => have := one_le x; simp only [Rows.uptoBulkAll, List.length_cons]; omega

theorem small {H : Type} {l : List (DataW H)} (hk : Rows.uptoSmall H l = true) : Rows.uptoBulkAll l ≤ 1048576 := of_decide_eq_true hk

theorem slice {H : Type} {l : List (DataW H)} {elems spare : List (DataW H)} (hk : Rows.uptoSmall H l = true) (h : DataW.slice elems spare ∈ l) : elems.length ≤ 1048576 := by
  have h1 := small hk
  have h2 := part_le h
  have h3 := length_le elems
  simp only [Rows.uptoBulk] at h2
  omega

theorem string {H : Type} {l : List (DataW H)} {bytes : List UInt8} (hk : Rows.uptoSmall H l = true) (h : DataW.lit (.string bytes) ∈ l) : bytes.length ≤ 1048576 := by
  have h1 := small hk
  have h2 := part_le h
  simp only [Rows.uptoBulk] at h2
  omega

end Go.Proofs.YthpjkgoahneldaaDoor.Bulk
end

section
/-
  The library's two decoding tables: what a row lists of them is what the walks ask; a world in which they lie.
-/
namespace Go.Proofs.YthpjkgoahneldaaDoor
open Go Go.Shelf Go.RowKit Go.Lib

def u8laid : List (String × DataW Unit) := [("unicode/utf8.acceptRanges", Rows.laid_unicode_utf8_acceptRanges), ("unicode/utf8.first", Rows.laid_unicode_utf8_first)]
theorem first_is : Rows.laid_unicode_utf8_first = Lib.firstData := by kernel_rfl
theorem accept_is : (Rows.laid_unicode_utf8_acceptRanges : DataW Unit) = Lib.acceptData := by kernel_rfl

theorem u8_of {W : World} (hL : laidMet Tryd.prog u8laid W) : U8 W := by
  have h3 := Lib.laidMet.reads hL (n := "unicode/utf8.first") (d := Lib.firstData) (by rw [← first_is]; exact .tail _ (.head _))
  have h4 := Lib.laidMet.reads hL (n := "unicode/utf8.acceptRanges") (d := Lib.acceptData) (by rw [← accept_is]; exact .head _)
  exact utf8Tabs_of_reads Tryd.lays260 ⟨by kernel_rfl, by kernel_rfl, by kernel_rfl, by kernel_rfl, by kernel_rfl, by kernel_rfl, by kernel_rfl⟩ h3 h4

/-- The settled world, the two variables holding what their initialisers lay. -/
noncomputable def laidWorld (os : Os) : World :=
  let w0 := World.holding Tryd.prog os ⟨#[], #[], []⟩
  let put (h : Array Obj) (g : Nat) (cs : Array Value) : Array Obj := h.modify g fun
    | .cells _ t frozen => .cells cs t frozen
    | o => o
  let h1 := put w0.heap 0 (Lib.firstTab.map fun z => Value.int .u8 z).toArray
  let h2 := put h1 1 ((List.range 16).flatMap fun i => [Value.int .u8 (Lib.accLo i), Value.int .u8 (Lib.accHi i)]).toArray
  { w0 with heap := h2 }
theorem laid_met (os : Os) (args : Array Value) : laidMet Tryd.prog u8laid ((laidWorld os).forCall (fun _ _ => 0) ⟨#[], args, []⟩).memory :=
  (LaidIn.of_run (l := u8laid) [1, 0] 8 (by kernel_rfl) (by kernel_rfl) (by kernel_rfl) (by kernel_rfl)).met

end Go.Proofs.YthpjkgoahneldaaDoor
end

section
/-
  Chapter 12: the laws WordAll, WordSteps, WordKnown.
-/
namespace Go.Proofs.YthpjkgoahneldaaDoor
open Go Go.RowKit Vc Ut Tb Cl Orb Wd
attribute [local irreducible] sortC betC

set_option maxRecDepth 10000 in
theorem wAll_ok : sWLawSI.Ok Tryd.prog 7 := by
  refine wAll_vc ⟨rallW_ok, allW_ok, aliveW_ok, trivial⟩ ?_
  rintro ⟨s, leave⟩ w ⟨hU, hsz, _, _⟩ b0 w1 hn1 b1 w2 hn2
  dsimp only at hU hsz ⊢
  have hncl := ncl_le s
  have hwn := wn_le s
  have hwl := wd_len s
  have s1 := hn1.size; have s2 := hn2.size
  have e02 := hn1.ext.trans hn2.ext
  refine ⟨s, rfl, ⟨hU.ext e02, by omega⟩, ?_⟩
  rintro ⟨a, n, c⟩ w3 ⟨hn, hm⟩
  dsimp only at hn hm ⊢
  subst hn
  have z23 := hm.ext.size
  intro b2 w4 hn4
  have s4 := hn4.size
  obtain ⟨ho, hf, hst⟩ := new_box hn4
  refine ⟨rfl, ho, hf, fun w5 hs5 => ?_⟩
  obtain ⟨e35, hb25, _, hsz5⟩ := hst hs5
  have e25 := hm.ext.trans e35
  have e05 := e02.trans e25
  refine ⟨s, rfl, ⟨hU.ext e05, by omega⟩, ?_⟩
  rintro x w6 ⟨rfl, hh, hnew, e56⟩
  have z56 := e56.size
  intro b3 w7 hn7
  have s7 := hn7.size
  obtain ⟨ho7, hf7, hst7⟩ := new_box hn7
  refine ⟨rfl, ho7, hf7, fun w8 hs8 => ?_⟩
  obtain ⟨e68, hb8, _, hsz8⟩ := hst7 hs8
  have e58 := e56.trans e68
  have e08 := e05.trans e58
  have h0 : w8.heap[b0]? = some (.cells #[.int .i64 leave] 3) := ((hn2.ext.trans e25).trans e58).heap hn1.heap
  have h1 : w8.heap[b1]? = some (.cells #[.bool false] 4) := (e25.trans e58).heap hn2.heap
  have h2 := e58.heap hb25
  have hc8 := hm.row.cells.ext (e35.trans e58)
  have hlt := cWd_lt hh
  have hit : IterAt Tryd.prog (.func (.func 69) #[] #[.pointer (some ⟨x.be, 0, none⟩), .pointer (some ⟨x.bs, 0, none⟩)]) ((wdL x.s).map encPc) (cWd x) w8 := (wd_iter hh).later e68.size (fun q hq => e68.block q (hlt q hq))
  dsimp only [ptrB]
  have nd : ∀ q, q < b3 → ¬ ones [b3] q := fun q hq h => by rw [ones_one] at h; omega
  have dom : ∀ {W : World}, w8.heap.size ≤ W.heap.size → DomOk W (cWd x) (ones [b3]) := fun hW => ⟨fun q hq => by rw [ones_one] at hq; omega, fun q hq => ⟨by have := hlt q hq; omega, nd q (by have := hlt q hq; omega)⟩⟩
  refine ⟨?_, ?_⟩
  · refine ⟨wdL x.s, cWd x, ones [b3], hit, dom (Nat.le_refl _), ⟨rfl, hb8⟩, ?_, ?_, ?_, ?_, ?_⟩
    · rintro k D W W' ⟨rfl, ha⟩ hsz hq
      exact ⟨rfl, hq b3 _ (.inr (ones_one.2 rfl)) ha (.inl rfl)⟩
    · rintro _ k D W W' ⟨rfl, v, ha⟩ hsz hq
      exact ⟨rfl, v, hq b3 _ (.inr (ones_one.2 rfl)) ha (.inl rfl)⟩
    · rintro k p D W hp ⟨rfl, ha⟩ hM
      have hkl : k < (wdL x.s).length := (List.getElem?_eq_some_iff.1 hp).1
      have h0W := (hM.old (heap_lt h0) (nd b0 (by omega))).trans h0
      refine ⟨_, box_cell ha, _, box_cell h0W, bcase_mk (fun _ => ⟨_, Step.refl hM.lt, rfl, _, ha⟩) (fun _ => ⟨_, box_cell ha, inr_i64 (by omega) (by omega), rfl, box_old ha, box_free ha, fun w9 hs9 => ⟨_, Step.stored hs9 (ones_one.2 rfl) hM.lt, rfl, ?_⟩⟩)⟩
      have := hs9.box ha
      simpa using this
    · rintro D W ⟨rfl, ha⟩ hM
      exact ⟨(), hM.fr, _, ha⟩
    · rintro D W ⟨rfl, v, ha⟩ hM
      exact ⟨(), hM.fr, v, ha⟩
  rintro _ _ w9 ⟨f9, v9, hb9⟩
  refine ⟨⟨0, rfl, by decide, Fr.refl _ _, v9, hb9⟩, ?_⟩
  rintro _ t w10 ⟨ht2, f910, v10, hb10⟩
  have f10 : Fr (ones [b3]) w8 w10 := f9.trans f910 (fun _ _ h => h)
  have s10 := f10.size
  refine bcase_mk (fun h => ?_) (fun h => ?_)
  · have htl : t < 2 := by have := of_decide_eq_true h; omega
    refine ⟨rfl, box_old hb10, box_free hb10, fun w11 hs11 => ?_⟩
    have f11 : Fr (ones [b3]) w8 w11 := f10.trans (Fr.stored hs11) (fun q _ h => ones_one.2 h)
    have hb11 := hs11.box hb10
    have s11 := f11.size
    have hit11 := hit.later f11.size (fun q hq => f11.block q (by have := hlt q hq; omega) (nd q (by have := hlt q hq; omega)))
    refine ⟨wdL x.s, cWd x, ones [b3], hit11, dom s11, ⟨rfl, hb11⟩, ?_, ?_, ?_, ?_, trivial⟩
    · rintro k D W W' ⟨rfl, ha⟩ hsz hq
      exact ⟨rfl, hq b3 _ (.inr (ones_one.2 rfl)) ha (.inl rfl)⟩
    · rintro _ k D W W' h hsz hq
      exact h
    · rintro k p D W hp ⟨rfl, ha⟩ hM
      have hkl : k < wn x.s := by have := (List.getElem?_eq_some_iff.1 hp).1; rwa [hwl] at this
      rw [wd_get hkl] at hp
      cases hp
      have fW : Fr (ones [b3]) w8 W := f11.trans hM.fr (fun _ _ h => h)
      have h2W := (fW.block _ (heap_lt h2) (nd _ (by omega))).trans h2
      have hcW : CellsAt W a ((wdL x.s).flatMap encPc) := hc8.fr fW (fun q hq h => by have := hm.new q hq; have := hm.row.lt hq; rw [ones_one] at h; omega)
      refine ⟨_, box_cell ha, _, _, _, box_cell h2W, bcase_mk (fun h => by have := of_decide_eq_true h; omega) (fun _ => ⟨_, _, _, box_cell h2W, _, box_cell ha, k, rfl, hkl, wd_cell hcW hkl (j := 0) (by decide) rfl fun b o hb => ⟨_, hb, bcase_mk (fun h => by simp [wdP] at h) (fun _ => ?_)⟩⟩)⟩
      refine ⟨_, _, _, box_cell h2W, _, box_cell ha, k, rfl, hkl, wd_cell hcW hkl (j := 1) (by decide) rfl fun b o hb => ⟨_, hb, bcase_mk (fun h => ?_) (fun _ => ?_)⟩⟩
      · rw [str_eq] at h; simp at h
      refine ⟨_, box_cell ha, inr_i64 (by omega) (by omega), rfl, box_old ha, box_free ha, fun w12 hs12 => ⟨_, Step.stored hs12 (ones_one.2 rfl) hM.lt, rfl, ?_⟩⟩
      have := hs12.box ha
      simpa using this
    · rintro D W ⟨rfl, ha⟩ hM
      rw [lenX_eq, hwl] at ha
      have fW : Fr (ones [b3]) w8 W := f11.trans hM.fr (fun _ _ h => h)
      have h2W := (fW.block _ (heap_lt h2) (nd _ (by omega))).trans h2
      refine ⟨_, box_cell ha, _, _, _, box_cell h2W, bcase_mk (fun h => by simp at h) (fun _ => ⟨inr_i64 (by omega) (by omega), t + 1, by simp, ⟨by omega, ?_, _, ha⟩, by omega⟩)⟩
      exact (f910.trans (Fr.stored hs11) (fun q _ h => ones_one.2 h)).trans hM.fr (fun _ _ h => h)
  · have e0a : Ext w w10 := Ext.fr_new e08 f10 (fun q hq => by rw [ones_one] at hq; have := e08.size; omega)
    have h1a := (f10.block _ (heap_lt h1) (nd _ (by omega))).trans h1
    refine ⟨(), rfl, hU.ext e0a, ?_⟩
    rintro _ w11 e11
    have h1b := e11.heap h1a
    refine ⟨rfl, box_old h1b, box_free h1b, fun w12 hs12 => ⟨_, box_cell (hs12.box h1b), fun w13 htn => ⟨(), rfl, ?_⟩⟩⟩
    exact Ext.turn ((e0a.trans e11).stored hs12 (by show _ ≤ b1; omega)) htn

theorem upAt_succ {s : ByteArray} {i : Nat} : upAt s (i + 1) = (begT s).getD i 0 := by unfold upAt; rw [if_neg (by omega), Nat.add_sub_cancel]
theorem dnAt_succ {s : ByteArray} {j : Nat} : dnAt s (j + 1) = (begT s).getD ((begT s).length - 1 - j) 0 := by unfold dnAt; rw [if_neg (by omega), show (begT s).length - (j + 1) = (begT s).length - 1 - j from by omega]

set_option maxHeartbeats 2000000 in
set_option maxRecDepth 10000 in
theorem wStep_ok : sWLawSI.Ok Tryd.prog 9 := by
  refine wStep_vc ⟨aliveW_ok, pcsW_ok, wordy_ok, nextW_ok, prevW_ok, atW_ok, trivial⟩ ?_
  rintro ⟨s, p⟩ w ⟨hU, hsz, hp1, hp2⟩
  dsimp only at hU hsz hp1 hp2 ⊢
  have hncl := ncl_le s
  have hwn := wn_le s
  have hwl := wd_len s
  refine bcase_mk (fun _ => ⟨(), rfl, hU, fun _ w1 e => yes_ext e⟩) (fun h2000 => ?_)
  refine ⟨s, rfl, ⟨hU, by omega⟩, ?_⟩
  rintro ⟨la, ln, lc⟩ w1 ⟨hln, hml⟩
  dsimp only at hln hml ⊢
  subst hln
  have e1 := hml.ext
  have hcl1 := hml.row.cells
  refine ⟨⟨⟨0, none, 0⟩, rfl, rfl, Nat.zero_le _, Made.nil _ _ _⟩, ?_⟩
  rintro _ ⟨i, a, c⟩ w2 ⟨hi, hm⟩
  dsimp only at hi hm ⊢
  have e12 := hm.ext
  have e2 := e1.trans e12
  have hcl := hcl1.ext e12
  have hbl := begs_len s i
  refine bcase_mk (fun h => ?_) (fun h => ?_)
  · have hlt : i < wn s := by have := of_decide_eq_true h; omega
    have hwp := wd_pos hlt
    refine ⟨i, rfl, hlt, wd_cell hcl hlt (j := 1) (by decide) rfl fun b o hb => ⟨_, hb, _, rfl, ⟨hU.ext e2, by omega, hwp.1⟩, ?_⟩⟩
    rintro v w3 ⟨hv, e23⟩
    replace hv : v = wdB s i := hv.trans (by unfold wdB; rw [← wd_sort hlt]; rfl)
    subst hv
    refine bcase_mk (fun h2 => ?_) (fun h2 => ?_)
    · refine ⟨i, rfl, hlt, wd_cell (hcl.ext e23) hlt (j := 0) (by decide) rfl fun b o hb => ⟨_, hb, fun b2 w4 hn4 => ?_⟩⟩
      obtain ⟨a2, c2, w5, hrun, hko, hm5, _⟩ := (hm.later e23).pushN (P := Tryd.prog) (ty := 45) elem64 (by decide) (m := 1) (news := [.int .i64 (wp s i : Nat)]) hn4 rfl (by simp [Value.oneCell']) (by unfold maxLen; omega) (.inr (by omega))
      have hbs : begs s (i + 1) = begs s i ++ [((wp s i : Nat) : Int)] := by rw [begs_succ, if_pos h2]
      refine ⟨a2, c2, w5, hrun, hko, inr_i64 (by omega) (by omega), ⟨i + 1, a2, c2⟩, by simp, ?_, ⟨hlt, ?_⟩, by dsimp only; omega⟩
      · dsimp only; rw [hbs, List.length_append]; rfl
      · dsimp only; rw [hbs, List.length_append, List.map_append]; exact hm5
    · have hbs : begs s (i + 1) = begs s i := by rw [begs_succ, if_neg (by rw [h2]; decide), List.append_nil]
      refine ⟨inr_i64 (by omega) (by omega), ⟨i + 1, a, c⟩, by simp, ?_, ⟨hlt, ?_⟩, by dsimp only; omega⟩
      · dsimp only; rw [hbs]
      · dsimp only; rw [hbs]; exact hm.later e23
  have hie : i = wn s := by have := of_decide_eq_false h; omega
  subst hie
  have hbT : begs s (wn s) = begT s := rfl
  rw [hbT] at hm hbl ⊢
  have hcb := hm.row.cells
  refine ⟨⟨0, rfl, rfl, Nat.zero_le _, Ext.refl _⟩, ?_⟩
  rintro _ i w3 ⟨hi, e23⟩
  have e3 := e2.trans e23
  have hub := upAt_bd hi
  refine bcase_mk (fun h => ?_) (fun h => ?_)
  · have hlt : i < (begT s).length := by have := of_decide_eq_true h; omega
    have rd : ∀ {V : World} {K : Nat → Nat → Prop}, Ext w2 V → (∀ b o, V.cell? ⟨b, o + i, none⟩ = some (.int .i64 ((begT s).getD i 0)) → K b o) → ptrE a K := fun e hK => (hcb.ext e).int hlt hK
    have step : (0 < (begT s).getD i 0 ∨ 0 < i) → ∃ g2 : ByteArray × Int, #[Value.string s, .int .i64 (upAt s i)] = #[Value.string g2.1, .int .i64 g2.2] ∧ (U8 w3 ∧ g2.1.size ≤ 67108864) ∧ ∀ (x3 : Nat) (w' : World), x3 = nextW g2.1 g2.2 ∧ Ext w3 w' →
        ∃ k1 : Nat, (i : Int) = (k1 : Int) ∧ k1 < (begT s).length ∧ ptrE a fun b1 o1 => ∃ n1 : Int, w'.cell? ⟨b1, o1 + k1, none⟩ = some (.int .i64 n1) ∧ bcase ((x3 : Int) != n1) (∃ (_ : Unit), Value.bool false = Value.bool true ∧ Ext w w')
          (InR .i64 ((i : Int) + 1) ∧ ∃ y : Nat, Value.int .i64 ((i : Int) + 1) = Value.int .i64 (y : Int) ∧ Value.int .i64 (x3 : Int) = Value.int .i64 (upAt s y) ∧ (y ≤ (begT s).length ∧ Ext w2 w') ∧ (begT s).length - y < (begT s).length - i) := by
      intro hpos
      refine ⟨(s, upAt s i), rfl, ⟨hU.ext e3, by dsimp only; omega⟩, ?_⟩
      rintro x w4 ⟨hx, e34⟩
      have hnx := next_up hlt hpos
      refine ⟨i, rfl, hlt, rd (e23.trans e34) fun b o hb => ⟨_, hb, ?_⟩⟩
      rw [hx]
      dsimp only
      rw [hnx]
      refine bcase_mk (fun h => by simp at h) (fun _ => ⟨inr_i64 (by omega) (by omega), i + 1, by simp, by rw [upAt_succ], ⟨hlt, e23.trans e34⟩, by omega⟩)
    refine ⟨i, rfl, hlt, rd e23 fun b o hb => ⟨_, hb, ?_⟩⟩
    refine bcase_mk (fun h1 => step (.inl (of_decide_eq_true h1))) (fun h1 => ?_)
    refine bcase_mk (fun h2 => step (.inr (by have := of_decide_eq_true h2; omega))) (fun h2 => ?_)
    have h1 := of_decide_eq_false h1
    have h0 : i = 0 := by have := of_decide_eq_false h2; omega
    subst h0
    have hT := begT_bd hlt
    rw [getT hlt] at h1
    refine ⟨inr_i64 (by omega) (by omega), 1, rfl, ?_, ⟨hlt, e23⟩, by omega⟩
    rw [upAt_succ, getT hlt]
    congr 1
    show (if (0 : Nat) = 0 then (0 : Int) else _) = _
    rw [if_pos rfl]; omega
  have hie : i = (begT s).length := by have := of_decide_eq_false h; omega
  subst hie
  refine ⟨(s, upAt s (begT s).length), rfl, ⟨hU.ext e3, by dsimp only; omega⟩, ?_⟩
  rintro x w4 ⟨hx, e34⟩
  dsimp only at hx
  rw [next_end] at hx
  subst hx
  have e4 := e3.trans e34
  refine bcase_mk (fun h => by simp at h) (fun _ => ?_)
  refine ⟨inr_i64 (by omega) (by omega), ⟨0, by simp, rfl, Nat.zero_le _, Ext.refl _⟩, ?_⟩
  rintro _ j w5 ⟨hj, e45⟩
  have e5 := e4.trans e45
  have hdb := dnAt_bd hj
  refine bcase_mk (fun h => ?_) (fun h => ?_)
  · have hlt : j < (begT s).length := by have := of_decide_eq_true h; omega
    have hlt2 : (begT s).length - 1 - j < (begT s).length := by omega
    have e25 := (e23.trans e34).trans e45
    intro w6 hd
    refine ⟨(begT s).length - 1 - j, by omega, hlt2, (hcb.ext e25).int hlt2 fun b o hb => ⟨_, hb, (s, dnAt s j), rfl, ⟨hU.ext (e5.trans hd.ext), by dsimp only; omega⟩, ?_⟩⟩
    rintro x w7 ⟨hx, e67⟩
    have hpd := prev_dn hlt
    refine ⟨e67, ?_⟩
    rw [hx]
    dsimp only
    rw [hpd]
    have e57 := Ext.trans hd.ext e67
    refine bcase_mk (fun h => by simp at h) (fun _ => ?_)
    refine ⟨(begT s).length - 1 - j, by omega, hlt2, (hcb.ext (e25.trans e57)).int hlt2 fun b o hb => ⟨_, hb, inr_i64 (by omega) (by omega), j + 1, by congr 1; omega, by rw [dnAt_succ], ⟨hlt, e45.trans e57⟩, by omega⟩⟩
  have hje : j = (begT s).length := by have := of_decide_eq_false h; omega
  subst hje
  refine ⟨(s, p), rfl, ⟨hU.ext e5, by dsimp only; omega⟩, ?_⟩
  rintro n w6 ⟨hn, e56⟩
  have e6 := e5.trans e56
  refine ⟨(s, p), rfl, ⟨hU.ext e6, by dsimp only; omega⟩, ?_⟩
  rintro m w7 ⟨hm7, e67⟩
  have e7 := e6.trans e67
  refine ⟨(s, dnAt s (begT s).length), rfl, ⟨hU.ext e7, by dsimp only; omega⟩, ?_⟩
  rintro x w8 ⟨hx, e78⟩
  have e8 := e7.trans e78
  dsimp only at hn hm7 hx
  rw [prev_end] at hx
  subst hx
  have n1 := nextW_le s p
  have m1 := prevW_le s p
  have n2 := fun h => next_bd (s := s) (p := p) h
  have m2 := fun h => prev_bd (s := s) (p := p) h
  rw [← hn] at n1 n2
  rw [← hm7] at m1 m2
  have fin : ∃ g6 : ByteArray × Int, #[Value.string s, .int .i64 p] = #[Value.string g6.1, .int .i64 g6.2] ∧ (U8 w8 ∧ g6.1.size ≤ 67108864) ∧ ∀ (x8 : Nat × Nat) (w' : World), x8 = (wp g6.1 (ixW g6.1 (clampN g6.1 g6.2)), wp g6.1 (ixW g6.1 (clampN g6.1 g6.2) + 1)) ∧ Ext w8 w' →
      bcase (decide ((x8.2 : Int) ≤ (s.size : Int))) (bcase (decide ((x8.1 : Int) ≤ (x8.2 : Int)))
        (bcase (decide (p < 0)) (∃ _ : Unit, (#[] : Array Value) = #[] ∧ U8 w' ∧ ∀ (_ : Unit) (w9 : World), Ext w' w9 → ∃ _ : Unit, Value.bool true = Value.bool true ∧ Ext w w9)
          (bcase (decide (p ≥ (s.size : Int))) (∃ _ : Unit, (#[] : Array Value) = #[] ∧ U8 w' ∧ ∀ (_ : Unit) (w9 : World), Ext w' w9 → ∃ _ : Unit, Value.bool true = Value.bool true ∧ Ext w w9)
            (bcase (decide ((x8.1 : Int) ≤ p)) (bcase (decide (p < (x8.2 : Int))) (∃ _ : Unit, (#[] : Array Value) = #[] ∧ U8 w' ∧ ∀ (_ : Unit) (w9 : World), Ext w' w9 → ∃ _ : Unit, Value.bool true = Value.bool true ∧ Ext w w9)
              (∃ _ : Unit, Value.bool false = Value.bool true ∧ Ext w w')) (∃ _ : Unit, Value.bool false = Value.bool true ∧ Ext w w'))))
        (∃ _ : Unit, Value.bool false = Value.bool true ∧ Ext w w')) (∃ _ : Unit, Value.bool false = Value.bool true ∧ Ext w w') := by
    refine ⟨(s, p), rfl, ⟨hU.ext e8, by dsimp only; omega⟩, ?_⟩
    rintro x8 w9 ⟨rfl, e89⟩
    dsimp only
    have b1 := wp_le s (ixW s (clampN s p) + 1)
    have b2 := wp_mono s (show ixW s (clampN s p) ≤ ixW s (clampN s p) + 1 by omega)
    have done : ∃ _ : Unit, (#[] : Array Value) = #[] ∧ U8 w9 ∧ ∀ (_ : Unit) (w10 : World), Ext w9 w10 → ∃ _ : Unit, Value.bool true = Value.bool true ∧ Ext w w10 := ⟨(), rfl, hU.ext (e8.trans e89), fun _ w10 e => yes_ext ((e8.trans e89).trans e)⟩
    refine bcase_mk (fun _ => bcase_mk (fun _ => bcase_mk (fun _ => done) (fun h1 => bcase_mk (fun _ => done) (fun h2 => ?_))) (fun h => by have := of_decide_eq_false h; omega)) (fun h => by have := of_decide_eq_false h; omega)
    have h1 := of_decide_eq_false h1
    have h2 := of_decide_eq_false h2
    have hb := at_bd (s := s) (p := p) (by omega) (by omega)
    exact bcase_mk (fun _ => bcase_mk (fun _ => done) (fun h => absurd hb.2 (of_decide_eq_false h))) (fun h => absurd hb.1 (of_decide_eq_false h))
  refine bcase_mk (fun h => absurd h (by decide)) (fun _ => bcase_mk (fun h => by have := of_decide_eq_true h; omega) (fun _ => bcase_mk (fun h => by have := of_decide_eq_true h; omega) (fun _ => ?_)))
  have tail : bcase (decide ((m : Int) ≥ p)) (bcase (decide ((m : Int) > 0)) (∃ _ : Unit, Value.bool false = Value.bool true ∧ Ext w w8) _) _ := bcase_mk (fun h1 => bcase_mk (fun h2 => by have h1 := of_decide_eq_true h1; have h2 := of_decide_eq_true h2; have := m2 (by omega); omega) (fun _ => fin)) (fun _ => fin)
  exact bcase_mk (fun h1 => bcase_mk (fun h2 => by have h1 := of_decide_eq_true h1; have h2 := of_decide_eq_true h2; have := n2 (by omega); omega) (fun _ => tail)) (fun _ => tail)

theorem wKn_ok : (sYes U8).Ok Tryd.prog 10 := by
  refine wKn_vc ⟨atW_ok, isW_ok, nextW_ok, prevW_ok, rowW_ok, aliveW_ok, trivial⟩ ?_
  rintro _ w hU
  have E0 := Ext.refl w
  have E := Ext.refl w
  refine ⟨?_, ?_⟩
  · intro b w3 hn
    replace E := Ext.trans E hn.ext
    refine ⟨⟨⟨#[97, 39, 49, 32, 49, 39, 97, 32, 39, 97, 39]⟩, [⟨#[97]⟩, ⟨#[39]⟩, ⟨#[49]⟩, ⟨#[32]⟩, ⟨#[49]⟩, ⟨#[39]⟩, ⟨#[97]⟩, ⟨#[32]⟩, ⟨#[39]⟩, ⟨#[97]⟩, ⟨#[39]⟩], _, _⟩, rfl, ⟨hU.ext (E0.trans E), by dsimp only; decide, CellsAt.new (vs := [.string ⟨#[97]⟩, .string ⟨#[39]⟩, .string ⟨#[49]⟩, .string ⟨#[32]⟩, .string ⟨#[49]⟩, .string ⟨#[39]⟩, .string ⟨#[97]⟩, .string ⟨#[32]⟩, .string ⟨#[39]⟩, .string ⟨#[97]⟩, .string ⟨#[39]⟩]) hn, by dsimp only; decide⟩, ?_⟩
    rintro x w4 ⟨hx, e⟩
    dsimp only at hx
    replace hx : x = true := hx.trans (by decide +kernel)
    subst hx
    replace E := E.trans e
    clear e
    refine bcase_mk (fun _ => ?_) (fun h => by cases h)
    intro b w3 hn
    replace E := Ext.trans E hn.ext
    refine ⟨⟨⟨#[49, 44, 48, 48, 48, 46, 53, 32, 49, 46, 32, 46, 53, 32, 97, 46, 98]⟩, [⟨#[49, 44, 48, 48, 48, 46, 53]⟩, ⟨#[32]⟩, ⟨#[49]⟩, ⟨#[46]⟩, ⟨#[32]⟩, ⟨#[46]⟩, ⟨#[53]⟩, ⟨#[32]⟩, ⟨#[97]⟩, ⟨#[46]⟩, ⟨#[98]⟩], _, _⟩, rfl, ⟨hU.ext (E0.trans E), by dsimp only; decide, CellsAt.new (vs := [.string ⟨#[49, 44, 48, 48, 48, 46, 53]⟩, .string ⟨#[32]⟩, .string ⟨#[49]⟩, .string ⟨#[46]⟩, .string ⟨#[32]⟩, .string ⟨#[46]⟩, .string ⟨#[53]⟩, .string ⟨#[32]⟩, .string ⟨#[97]⟩, .string ⟨#[46]⟩, .string ⟨#[98]⟩]) hn, by dsimp only; decide⟩, ?_⟩
    rintro x w4 ⟨hx, e⟩
    dsimp only at hx
    replace hx : x = true := hx.trans (by decide +kernel)
    subst hx
    replace E := E.trans e
    clear e
    refine bcase_mk (fun _ => ?_) (fun h => by cases h)
    intro b w3 hn
    replace E := Ext.trans E hn.ext
    refine ⟨⟨⟨#[97, 39, 39, 98, 44, 32, 97, 58, 98, 32, 120, 95, 49]⟩, [⟨#[97]⟩, ⟨#[39]⟩, ⟨#[39]⟩, ⟨#[98]⟩, ⟨#[44]⟩, ⟨#[32]⟩, ⟨#[97, 58, 98]⟩, ⟨#[32]⟩, ⟨#[120, 95, 49]⟩], _, _⟩, rfl, ⟨hU.ext (E0.trans E), by dsimp only; decide, CellsAt.new (vs := [.string ⟨#[97]⟩, .string ⟨#[39]⟩, .string ⟨#[39]⟩, .string ⟨#[98]⟩, .string ⟨#[44]⟩, .string ⟨#[32]⟩, .string ⟨#[97, 58, 98]⟩, .string ⟨#[32]⟩, .string ⟨#[120, 95, 49]⟩]) hn, by dsimp only; decide⟩, ?_⟩
    rintro x w4 ⟨hx, e⟩
    dsimp only at hx
    replace hx : x = true := hx.trans (by decide +kernel)
    subst hx
    replace E := E.trans e
    clear e
    exact yes_ext E
  clear E
  rintro _ _ wa E1
  replace E0 := E0.trans E1
  have E := Ext.refl wa
  refine ⟨?_, ?_⟩
  · intro b w3 hn
    replace E := Ext.trans E hn.ext
    refine ⟨⟨⟨#[228, 184, 150, 228, 184, 151, 32, 32]⟩, [⟨#[228, 184, 150]⟩, ⟨#[228, 184, 151]⟩, ⟨#[32, 32]⟩], _, _⟩, rfl, ⟨hU.ext (E0.trans E), by dsimp only; decide, CellsAt.new (vs := [.string ⟨#[228, 184, 150]⟩, .string ⟨#[228, 184, 151]⟩, .string ⟨#[32, 32]⟩]) hn, by dsimp only; decide⟩, ?_⟩
    rintro x w4 ⟨hx, e⟩
    dsimp only at hx
    replace hx : x = true := hx.trans (by decide +kernel)
    subst hx
    replace E := E.trans e
    clear e
    refine bcase_mk (fun _ => ?_) (fun h => by cases h)
    intro b w3 hn
    replace E := Ext.trans E hn.ext
    refine ⟨⟨⟨#[97, 204, 129, 255, 98]⟩, [⟨#[97, 204, 129]⟩, ⟨#[255]⟩, ⟨#[98]⟩], _, _⟩, rfl, ⟨hU.ext (E0.trans E), by dsimp only; decide, CellsAt.new (vs := [.string ⟨#[97, 204, 129]⟩, .string ⟨#[255]⟩, .string ⟨#[98]⟩]) hn, by dsimp only; decide⟩, ?_⟩
    rintro x w4 ⟨hx, e⟩
    dsimp only at hx
    replace hx : x = true := hx.trans (by decide +kernel)
    subst hx
    replace E := E.trans e
    clear e
    refine bcase_mk (fun _ => ?_) (fun h => by cases h)
    intro b w3 hn
    replace E := Ext.trans E hn.ext
    refine ⟨⟨⟨#[9, 32, 10, 32]⟩, [⟨#[9, 32]⟩, ⟨#[10]⟩, ⟨#[32]⟩], _, _⟩, rfl, ⟨hU.ext (E0.trans E), by dsimp only; decide, CellsAt.new (vs := [.string ⟨#[9, 32]⟩, .string ⟨#[10]⟩, .string ⟨#[32]⟩]) hn, by dsimp only; decide⟩, ?_⟩
    rintro x w4 ⟨hx, e⟩
    dsimp only at hx
    replace hx : x = true := hx.trans (by decide +kernel)
    subst hx
    replace E := E.trans e
    clear e
    refine bcase_mk (fun _ => ?_) (fun h => by cases h)
    intro b w3 hn
    replace E := Ext.trans E hn.ext
    refine ⟨⟨⟨#[97, 226, 128, 153, 98]⟩, [⟨#[97, 226, 128, 153, 98]⟩], _, _⟩, rfl, ⟨hU.ext (E0.trans E), by dsimp only; decide, CellsAt.new (vs := [.string ⟨#[97, 226, 128, 153, 98]⟩]) hn, by dsimp only; decide⟩, ?_⟩
    rintro x w4 ⟨hx, e⟩
    dsimp only at hx
    replace hx : x = true := hx.trans (by decide +kernel)
    subst hx
    replace E := E.trans e
    clear e
    refine bcase_mk (fun _ => ?_) (fun h => by cases h)
    intro b w3 hn
    replace E := Ext.trans E hn.ext
    refine ⟨⟨⟨#[97, 39, 204, 129, 98]⟩, [⟨#[97]⟩, ⟨#[39, 204, 129]⟩, ⟨#[98]⟩], _, _⟩, rfl, ⟨hU.ext (E0.trans E), by dsimp only; decide, CellsAt.new (vs := [.string ⟨#[97]⟩, .string ⟨#[39, 204, 129]⟩, .string ⟨#[98]⟩]) hn, by dsimp only; decide⟩, ?_⟩
    rintro x w4 ⟨hx, e⟩
    dsimp only at hx
    replace hx : x = true := hx.trans (by decide +kernel)
    subst hx
    replace E := E.trans e
    clear e
    refine bcase_mk (fun _ => ?_) (fun h => by cases h)
    refine ⟨⟨⟨#[]⟩, [], _, _⟩, rfl, ⟨hU.ext (E0.trans E), by dsimp only; decide, CellsAt.nil _ _, by dsimp only; decide⟩, ?_⟩
    rintro x w4 ⟨hx, e⟩
    dsimp only at hx
    replace hx : x = true := hx.trans (by decide +kernel)
    subst hx
    replace E := E.trans e
    clear e
    exact yes_ext E
  clear E
  rintro _ _ wb E2
  replace E0 := E0.trans E2
  have E := Ext.refl wb
  refine ⟨(_, _), rfl, ⟨hU.ext (E0.trans E), by decide⟩, ?_⟩
  rintro x w5 ⟨hx, e⟩
  replace hx : x = (1, 2) := hx.trans (by decide +kernel)
  subst hx
  replace E := E.trans e
  clear e
  refine ⟨(_, _), rfl, ⟨hU.ext (E0.trans E), by decide⟩, ?_⟩
  rintro x w5 ⟨hx, e⟩
  replace hx : x = (4, 4) := hx.trans (by decide +kernel)
  subst hx
  replace E := E.trans e
  clear e
  replace E0 := E0.trans E
  replace E := Ext.refl w5
  refine ⟨?_, ?_⟩
  · refine ⟨(_, _), rfl, ⟨hU.ext (E0.trans E), by decide⟩, ?_⟩
    rintro x w5 ⟨hx, e⟩
    replace hx : x = 3 := hx.trans (by decide +kernel)
    subst hx
    replace E := E.trans e
    clear e
    refine bcase_mk (fun _ => ?_) (fun h => absurd h (by decide +kernel))
    refine ⟨(_, _), rfl, ⟨hU.ext (E0.trans E), by decide⟩, ?_⟩
    rintro x w5 ⟨hx, e⟩
    replace hx : x = 2 := hx.trans (by decide +kernel)
    subst hx
    replace E := E.trans e
    clear e
    refine bcase_mk (fun _ => ?_) (fun h => absurd h (by decide +kernel))
    refine ⟨(_, _), rfl, ⟨hU.ext (E0.trans E), by decide⟩, ?_⟩
    rintro x w5 ⟨hx, e⟩
    replace hx : x = 0 := hx.trans (by decide +kernel)
    subst hx
    replace E := E.trans e
    clear e
    refine bcase_mk (fun _ => ?_) (fun h => absurd h (by decide +kernel))
    refine ⟨(_, _), rfl, ⟨hU.ext (E0.trans E), by decide⟩, ?_⟩
    rintro x w5 ⟨hx, e⟩
    replace hx : x = 0 := hx.trans (by decide +kernel)
    subst hx
    replace E := E.trans e
    clear e
    refine bcase_mk (fun _ => ?_) (fun h => absurd h (by decide +kernel))
    refine ⟨(_, _), rfl, ⟨hU.ext (E0.trans E), by decide⟩, ?_⟩
    rintro x w5 ⟨hx, e⟩
    replace hx : x = 2 := hx.trans (by decide +kernel)
    subst hx
    replace E := E.trans e
    clear e
    refine bcase_mk (fun _ => ?_) (fun h => absurd h (by decide +kernel))
    refine ⟨(_, _), rfl, ⟨hU.ext (E0.trans E), by decide⟩, ?_⟩
    rintro x w5 ⟨hx, e⟩
    replace hx : x = 1 := hx.trans (by decide +kernel)
    subst hx
    replace E := E.trans e
    clear e
    refine bcase_mk (fun _ => ?_) (fun h => absurd h (by decide +kernel))
    refine bcase_mk (fun _ => ?_) (fun h => absurd h (by decide +kernel))
    refine bcase_mk (fun _ => ?_) (fun h => absurd h (by decide +kernel))
    refine bcase_mk (fun _ => ?_) (fun h => absurd h (by decide +kernel))
    refine bcase_mk (fun _ => ?_) (fun h => absurd h (by decide +kernel))
    refine ⟨(_, _), rfl, ⟨hU.ext (E0.trans E), by decide⟩, ?_⟩
    rintro x w5 ⟨hx, e⟩
    replace hx : x = true := hx.trans (by decide +kernel)
    subst hx
    replace E := E.trans e
    clear e
    refine bcase_mk (fun _ => ?_) (fun h => by cases h)
    refine ⟨(_, _), rfl, ⟨hU.ext (E0.trans E), by decide⟩, ?_⟩
    rintro x w5 ⟨hx, e⟩
    replace hx : x = false := hx.trans (by decide +kernel)
    subst hx
    replace E := E.trans e
    clear e
    exact yes_ext E
  clear E
  rintro _ _ wc E3
  refine ⟨(), rfl, hU.ext (E0.trans E3), fun _ w9 e9 => yes_ext ((E0.trans E3).trans e9)⟩

end Go.Proofs.YthpjkgoahneldaaDoor
end
