/-
  Texts joined by program: Qc, Qi, Qd, Mm, Qf, Qr.
-/
import Derived.Test.YtjdohhididpomaaGreatDoorWr14
import Derived.Test.YtjdohhididpomaaGreatDoorWr06
import Derived.Test.YtjdohhididpomaaGreatDoorWr03
import Derived.Laws.CopyRow
set_option linter.unusedVariables false
set_option linter.unusedSimpArgs false

namespace Go.Proofs.YtjdohhididpomaaGreatDoor
section
open Go Vc Ut Tb Cl Orb
theorem reg_wide : ∀ n : Fin 26, ∀ wd : Bool, ¬ wideR (127462 + (n.val : Int)) wd = 0 := by decide +kernel
theorem regB_wide {x : Int} (h : regB x = true) (wd : Bool) : ¬ wideR x wd = 0 := by
  unfold regB at h
  rw [Bool.and_eq_true] at h
  have h1 := of_decide_eq_true h.1
  have h2 := of_decide_eq_true h.2
  have := reg_wide ⟨(x - 127462).toNat, by omega⟩ wd
  dsimp only at this
  rwa [show (127462 : Int) + ((x - 127462).toNat : Int) = x from by omega] at this
theorem PlainK.w0 {k : ByteArray} {wd : Bool} (h : PlainK k wd) : ¬ wideR (sg k 0) wd = 0 := h.wid.elim id fun h => regB_wide h.1 wd
def widK (k : ByteArray) (wd : Bool) : Nat := if twoK k wd then 2 else (wideR (sg k 0) wd).toNat
theorem PlainK.bd {k : ByteArray} {wd : Bool} (h : PlainK k wd) : 1 ≤ widK k wd ∧ widK k wd ≤ 2 := by
  have h0 := h.w0
  have h1 := wideR_bd (sg k 0) wd
  have h2 := wideR_le (sg k 0) wd
  unfold widK
  split <;> omega
theorem PlainK.plN {k : ByteArray} {wd : Bool} (h : PlainK k wd) : plN k wd = widK k wd := by
  have ho := plain_oneC h
  have hb := h.bd
  have ht := one_text h.one 0 (lkW wd)
  have h1 : (textC k 0 (lkW wd)).1 = k := by rw [ht, ho]
  have h2 : (textC k 0 (lkW wd)).2 = widK k wd := by rw [ht, ho]; rfl
  unfold Go.Proofs.YtjdohhididpomaaGreatDoor.plN
  rw [if_pos ⟨h.val, h.one, h1, by rw [h2]; exact hb.2⟩, h2]
theorem head_sg {k : ByteArray} {j : Nat} (h1 : 1 ≤ j) (hj : j ≤ cnt k) : sg (k.extract 0 (pos k j)) 0 = sg k 0 := sg_take (by omega) hj
theorem head_sec {k : ByteArray} {j : Nat} (h1 : 2 ≤ j) (hj : j ≤ cnt k) : secR (k.extract 0 (pos k j)) = secR k := by
  unfold secR
  rw [cnt_take hj, if_pos (by omega), if_pos (by omega), sg_take (by omega) hj]
theorem head_sec1 {k : ByteArray} (hj : 1 ≤ cnt k) : secR (k.extract 0 (pos k 1)) = 0 := by
  unfold secR
  rw [cnt_take hj, if_neg (by omega)]
theorem head_valid {k : ByteArray} (h : validB k = true) {m : Nat} (hm : m ≤ cnt k) : validB (k.extract 0 (pos k m)) = true := by
  unfold validB at h ⊢
  rw [List.all_eq_true] at h ⊢
  intro n hn
  rw [List.mem_range, cnt_take hm] at hn
  rw [bad_take hn hm]
  exact h n (List.mem_range.2 (by omega))
theorem PlainK.head {k : ByteArray} {wd : Bool} (h : PlainK k wd) {j : Nat} (h1 : 1 ≤ j) (hj : j ≤ cnt k) : PlainK (k.extract 0 (pos k j)) wd := by
  have hs := head_sg h1 hj
  have hcr : crB k 0 = false := by
    unfold crB
    rw [show (sg k 0 == 13) = false from by
      have := h.ctl
      simp only [beq_eq_false_iff_ne]
      omega]
    rfl
  have hv := head_valid h.val hj
  refine ⟨hv, head_one h.one hcr h1 hj, ?_, by rw [hs]; exact h.n9, ?_, by rw [hs]; exact h.ctl, by rw [hs]; exact h.fmt, by rw [hs]; exact h.mark, .inl (by rw [hs]; exact h.w0)⟩
  · exact valid_bad hv (by rw [cnt_take hj]; omega)
  · rw [hs]
    rintro (h' | h')
    · exact h.nl (.inl h')
    · rcases Nat.lt_or_ge j 2 with h2 | h2
      · have : j = 1 := by omega
        subst this
        rw [head_sec1 hj] at h'
        exact absurd h' (by decide)
      · rw [head_sec h2 hj] at h'
        exact h.nl (.inr h')
theorem PlainK.head_le {k : ByteArray} {wd : Bool} (h : PlainK k wd) {j : Nat} (h1 : 1 ≤ j) (hj : j ≤ cnt k) : widK (k.extract 0 (pos k j)) wd ≤ widK k wd := by
  have hs := head_sg h1 hj
  have hle := wideR_le (sg k 0) wd
  unfold widK
  rw [hs]
  by_cases h2 : twoK (k.extract 0 (pos k j)) wd
  · rw [if_pos h2]
    have : twoK k wd := by
      rcases Nat.lt_or_ge j 2 with h3 | h3
      · have : j = 1 := by omega
        subst this
        unfold twoK at h2
        rw [head_sec1 hj] at h2
        rcases h2 with ⟨_, h2⟩ | ⟨_, _, h2⟩
        · exact absurd h2 (by decide)
        · exact absurd h2 (by decide)
      · unfold twoK at h2 ⊢
        rw [hs, head_sec h3 hj] at h2
        exact h2
    rw [if_pos this]
    exact Nat.le_refl _
  · rw [if_neg h2]
    split
    · exact hle
    · exact Nat.le_refl _
theorem first_9676 {s t : ByteArray} (h : s = ⟨#[226, 151, 140]⟩ ++ t) : sg s 0 = 9676 := by
  have h1 := nx_app (s := ⟨#[226, 151, 140]⟩) (u := t) (by decide +kernel)
  have h2 : nxR ⟨#[226, 151, 140]⟩ = 9676 := by decide +kernel
  rw [h2, ← h] at h1
  have hz : s.size ≠ 0 := by
    rw [h, ByteArray.size_append]
    show 3 + t.size ≠ 0
    omega
  have := h1.2
  unfold nxR at this
  rw [if_neg hz] at this
  exact this
theorem plain_of {k : ByteArray} {wd : Bool} (h : plN k wd ≠ 0) : PlainK k wd := by
  unfold plN at h
  split at h
  case isFalse => exact absurd rfl h
  rename_i hc
  obtain ⟨hv, h1, hs, h2⟩ := hc
  obtain ⟨h0, hf, _⟩ := one_first h1
  have hsz := one_bt h1
  have hb := valid_bad hv h0
  rw [one_text h1] at hs
  have hne : ¬ (ByteArray.mk #[]) = k := fun e => by rw [← e] at hsz; exact absurd hsz (by decide)
  have hlow : sg k 0 < 128 → (bt k 0 : Int) = sg k 0 := fun h => (dc_low (s := k) (i := 0) h).2.symm
  have g9 : ¬ sg k 0 = 9 := fun h9 => by
    rw [oneC_tab hb h9] at hs
    have hst := stop_bd 0 (lkW wd).tab
    have hl := hlow (by rw [h9]; decide)
    rw [h9, ← hs] at hl
    dsimp only at hl
    have : bt (blankS (stopN 0 (lkW wd).tab)) 0 = 32 := by
      obtain ⟨m, hm⟩ : ∃ m, stopN 0 (lkW wd).tab = m + 1 := ⟨stopN 0 (lkW wd).tab - 1, by omega⟩
      rw [hm]; rfl
    omega
  have gnl : ¬ (sg k 0 = 10 ∨ secR k = 10) := fun h => by
    rw [oneC_nl hb g9 h] at hs
    exact hne hs
  have gct : ¬ (sg k 0 < 32 ∨ sg k 0 = 127) := fun h => by
    rw [oneC_ctl hb g9 gnl h] at hs
    have hl := hlow (by omega)
    have hk : bt (ctlS (sg k 0)) 0 = 94 := rfl
    have hs' : ctlS (sg k 0) = k := hs
    rw [hs'] at hk
    omega
  have gf : fmtB (sg k 0) = false := by
    cases hfm : fmtB (sg k 0) with
    | false => rfl
    | true =>
      rw [oneC_fmt hb g9 gnl gct hfm rfl] at hs
      exact absurd hs hne
  have gm : ¬ (kindR (sg k 0) = 2 ∨ joinB (sg k 0) = true) := fun h => by
    rw [oneC_mark hb g9 gnl gct gf h] at hs
    have hx := first_9676 hs.symm
    rw [hx] at h
    exact absurd h (by decide +kernel)
  refine ⟨hv, h1, hb, g9, gnl, gct, gf, gm, ?_⟩
  by_cases h2k : twoK k wd
  · unfold twoK at h2k
    rcases h2k with h | h
    · exact .inr h
    · left; rw [h.2.1]; decide
  · rw [oneC_wid (l := lkW wd) hb g9 gnl gct gf gm h2k] at hs
    left
    intro hw
    have hw : wideR (sg k 0) (lkW wd).wide = 0 := hw
    rw [if_pos hw] at hs
    exact hne hs
end

section
open Go Vc Ut Tb Cl
def okAt (l : List Ce) (w : Nat) (wd : Bool) (i : Nat) : Prop :=
  if (ceG l i).p = 1 then 0 < i ∧ (ceG l (i - 1)).p = 0 ∧ plN (txC (ceG l (i - 1))) wd = 2
  else (ceG l i).p = 0 ∧ (plN (txC (ceG l i)) wd = 1 ∨ plN (txC (ceG l i)) wd = 2 ∧ (i + 1) % w ≠ 0 ∧ i + 1 < l.length ∧ (ceG l (i + 1)).p = 1 ∧ (ceG l (i + 1)).st = (ceG l i).st ∧ (ceG l (i + 1)).t.size = 0)
def okL (l : List Ce) (w : Nat) (wd : Bool) : Prop := ∀ i, i < l.length → okAt l w wd i
structure lastOk (g : Gs) : Prop where
  le : g.last ≤ g.cs.length
  p : (ceG g.cs (g.last - 1)).p = 0
  at_ : g.y * g.w + g.x + 1 = g.last + plN (txC (ceG g.cs (g.last - 1))) g.wd
def okCe (c : Ce) : Prop := c.st < 65536 ∧ c.a = 0 ∧ c.n = 0 ∧ c.r = false
structure okG (g : Gs) (m : Nat) : Prop where
  w : g.w ≤ 1024
  h : g.h ≤ 1024
  len : g.cs.length = g.w * g.h
  ok : okL g.cs g.w g.wd
  x : g.x ≤ g.w
  y : g.y < g.h ∨ g.y = 0
  sty : g.sty < 65536
  st : ∀ c ∈ g.cs, okCe c
  num : ∀ n ∈ g.num, -1 ≤ n ∧ n ≤ 9999
  numl : g.num.length ≤ m + 1
  stt : g.stt ≤ 2
  sl : g.stt ≠ 0 → g.last = 0
  last : g.last ≠ 0 → lastOk g
def heldG (g : Gs) : Gs := if g.num = [] then { g with num := [-1] } else g
end

section
open Go Vc Ut Tb Cl Orb
theorem ceG_lt {l : List Ce} {i : Nat} (h : i < l.length) : ceG l i = l[i] := by
  unfold ceG; rw [List.getD_eq_getElem?_getD, List.getElem?_eq_getElem h]; rfl
theorem ceG_out {l : List Ce} {i : Nat} (h : l.length ≤ i) : ceG l i = blkC 0 := by
  unfold ceG; rw [List.getD_eq_getElem?_getD, List.getElem?_eq_none h]; rfl
theorem ceG_set {l : List Ce} {i j : Nat} {c : Ce} (hi : i < l.length) : ceG (l.set i c) j = if j = i then c else ceG l j := by
  unfold ceG
  rw [List.getD_eq_getElem?_getD, List.getElem?_set]
  by_cases h : i = j
  · subst h; rw [if_pos rfl, if_pos hi, if_pos rfl]; rfl
  · rw [if_neg h, if_neg (by omega), List.getD_eq_getElem?_getD]
theorem lay_len (l : List Ce) (w i : Nat) (c : Ce) : (layL l w i c).length = l.length := by
  unfold layL
  rw [List.length_set]
  split
  · rw [List.length_set]
  · split
    · rw [List.length_set]
    · rfl
theorem ceG_lay {l : List Ce} {w i : Nat} {c : Ce} (hi : i < l.length) (h0 : (ceG l i).p = 1 → 0 < i) (j : Nat) :
    ceG (layL l w i c) j = if j = i then c else if (ceG l i).p = 1 then (if j = i - 1 then blkC (ceG l (i - 1)).st else ceG l j)
      else if (i + 1) % w ≠ 0 ∧ (ceG l (i + 1)).p = 1 ∧ j = i + 1 then blkC (ceG l (i + 1)).st else ceG l j := by
  unfold layL
  by_cases h1 : (ceG l i).p = 1
  · have := h0 h1
    rw [if_pos h1, ceG_set (by rw [List.length_set]; exact hi), if_pos h1]
    by_cases hj : j = i
    · rw [if_pos hj, if_pos hj]
    · rw [if_neg hj, if_neg hj, ceG_set (by omega)]
  · rw [if_neg h1, if_neg h1]
    by_cases h2 : (i + 1) % w ≠ 0 ∧ (ceG l (i + 1)).p = 1
    · have h3 : i + 1 < l.length := by
        rcases Nat.lt_or_ge (i + 1) l.length with h | h
        · exact h
        · have := h2.2
          rw [ceG_out h] at this
          exact absurd this (by decide)
      rw [if_pos h2, ceG_set (by rw [List.length_set]; exact hi)]
      by_cases hj : j = i
      · rw [if_pos hj, if_pos hj]
      · rw [if_neg hj, if_neg hj, ceG_set h3]
        by_cases hj2 : j = i + 1
        · rw [if_pos hj2, if_pos ⟨h2.1, h2.2, hj2⟩]
        · rw [if_neg hj2, if_neg (fun h => hj2 h.2.2)]
    · rw [if_neg h2, ceG_set hi]
      by_cases hj : j = i
      · rw [if_pos hj, if_pos hj]
      · rw [if_neg hj, if_neg hj, if_neg (fun h => h2 ⟨h.1, h.2.1⟩)]
end

section
open Go Go.RowKit Vc
theorem ceV_len (c : Ce) : (ceV c).length = 6 := rfl
theorem ceV_one (c : Ce) : ∀ u ∈ ceV c, u.oneCell' = true := by
  intro u hu
  simp only [ceV, List.mem_cons, List.not_mem_nil, or_false] at hu
  rcases hu with rfl | rfl | rfl | rfl | rfl | rfl <;> rfl
theorem flc_nil : flat [] = [] := rfl
theorem flc_cons (c : Ce) (l : List Ce) : flat (c :: l) = ceV c ++ flat l := rfl
theorem flc_append (a b : List Ce) : flat (a ++ b) = flat a ++ flat b := by unfold flat; rw [List.flatMap_append]
theorem flc_len : ∀ l : List Ce, (flat l).length = l.length * 6
  | [] => rfl
  | c :: l => by rw [flc_cons, List.length_append, flc_len l, List.length_cons, ceV_len]; omega
theorem flc_one (l : List Ce) : ∀ u ∈ flat l, u.oneCell' = true := by
  intro u hu
  obtain ⟨c, _, h⟩ := List.mem_flatMap.1 hu
  exact ceV_one c u h
theorem flc_at : ∀ (l : List Ce) {i k : Nat}, i < l.length → k < 6 → (flat l)[i * 6 + k]? = (ceV (ceG l i))[k]?
  | [], i, k, h, _ => by simp at h
  | c :: l, 0, k, h, hk => by
    rw [flc_cons, Nat.zero_mul, Nat.zero_add, List.getElem?_append_left (by rw [ceV_len]; exact hk)]; rfl
  | c :: l, i + 1, k, h, hk => by
    rw [flc_cons, List.getElem?_append_right (by rw [ceV_len]; omega), ceV_len, show (i + 1) * 6 + k - 6 = i * 6 + k from by omega, flc_at l (by simpa using h) hk]; rfl
theorem flc_take : ∀ (l : List Ce) (k : Nat), (flat l).take (k * 6) = flat (l.take k)
  | [], k => by simp [flc_nil]
  | c :: l, 0 => by simp [flc_nil]
  | c :: l, k + 1 => by
    rw [flc_cons, List.take_succ_cons, flc_cons, show (k + 1) * 6 = 6 + k * 6 from by omega, List.take_append, ceV_len, List.take_of_length_le (by rw [ceV_len]; omega), show 6 + k * 6 - 6 = k * 6 from by omega, flc_take l k]
theorem flc_drop : ∀ (l : List Ce) (k : Nat), (flat l).drop (k * 6) = flat (l.drop k)
  | [], k => by simp [flc_nil]
  | c :: l, 0 => by simp
  | c :: l, k + 1 => by
    rw [flc_cons, List.drop_succ_cons, show (k + 1) * 6 = 6 + k * 6 from by omega, List.drop_append, ceV_len, List.drop_eq_nil_of_le (by rw [ceV_len]; omega), show 6 + k * 6 - 6 = k * 6 from by omega, flc_drop l k, List.nil_append]
def CeAt (w : World) (b o : Nat) (c : Ce) : Prop :=
  w.cell? ⟨b, o, none⟩ = some (.string c.t) ∧ w.cell? ⟨b, o + 1, none⟩ = some (.int .i8 c.p) ∧ w.cell? ⟨b, o + 2, none⟩ = some (.int .i64 c.a) ∧ w.cell? ⟨b, o + 3, none⟩ = some (.int .i64 c.n) ∧ w.cell? ⟨b, o + 4, none⟩ = some (.bool c.r) ∧ w.cell? ⟨b, o + 5, none⟩ = some (.int .u16 c.st)
theorem CeAt.ext {w w' : World} {b o : Nat} {c : Ce} (h : CeAt w b o c) (hx : Ext w w') : CeAt w' b o c :=
  ⟨hx.cell h.1, hx.cell h.2.1, hx.cell h.2.2.1, hx.cell h.2.2.2.1, hx.cell h.2.2.2.2.1, hx.cell h.2.2.2.2.2⟩
theorem Vc.CellsAt.ce {w : World} {ad : Option Addr} {cs : List Ce} {i : Nat} {K : Nat → Nat → Prop} (h : CellsAt w ad (flat cs)) (hi : i < cs.length) (hk : ∀ b o, CeAt w b (o + i * 6) (ceG cs i) → K b o) : ptrE ad K := by
  have at' : ∀ {b o k : Nat} {v : Value}, (∀ (j : Nat) v, (flat cs)[j]? = some v → w.cell? ⟨b, o + j, none⟩ = some v) → k < 6 → (ceV (ceG cs i))[k]? = some v → w.cell? ⟨b, o + i * 6 + k, none⟩ = some v := by
    intro b o k v hh hk hv
    rw [show o + i * 6 + k = o + (i * 6 + k) from by omega]
    exact hh _ _ ((flc_at cs hi hk).trans hv)
  rcases h with h | ⟨b, o, rfl, hh⟩
  · have := flc_len cs
    rw [h] at this; simp at this; omega
  · exact hk b o ⟨at' hh (k := 0) (by decide) rfl, at' hh (k := 1) (by decide) rfl, at' hh (k := 2) (by decide) rfl, at' hh (k := 3) (by decide) rfl, at' hh (k := 4) (by decide) rfl, at' hh (k := 5) (by decide) rfl⟩
theorem CeAt.load {w : World} {b o : Nat} {c : Ce} (h : CeAt w b o c) {K : ByteArray → Int → Int → Int → Bool → Int → Prop} (hk : K c.t c.p c.a c.n c.r c.st) :
    ∃ s, w.cell? ⟨b, o, none⟩ = some (.string s) ∧ ∃ n, w.cell? ⟨b, o + 1, none⟩ = some (.int .i8 n) ∧ ∃ n1, w.cell? ⟨b, o + 2, none⟩ = some (.int .i64 n1) ∧ ∃ n2, w.cell? ⟨b, o + 3, none⟩ = some (.int .i64 n2) ∧ ∃ r, w.cell? ⟨b, o + 4, none⟩ = some (.bool r) ∧ ∃ n3, w.cell? ⟨b, o + 5, none⟩ = some (.int .u16 n3) ∧ K s n n1 n2 r n3 :=
  ⟨_, h.1, _, h.2.1, _, h.2.2.1, _, h.2.2.2.1, _, h.2.2.2.2.1, _, h.2.2.2.2.2, hk⟩
theorem box_ce {w : World} {b : Nat} {c : Ce} {t : TypeId} (h : w.heap[b]? = some (.cells #[.string c.t, .int .i8 c.p, .int .i64 c.a, .int .i64 c.n, .bool c.r, .int .u16 c.st] t)) : CeAt w b 0 c := by
  refine ⟨?_, ?_, ?_, ?_, ?_, ?_⟩ <;> (rw [cell_of_heap h]; rfl)
theorem Vc.Row.put {w w1 : World} {e : TypeId} {s g n c j : Nat} {vs : List Value} {v : Value} (h : Row w e s (some ⟨g, 0, none⟩) n vs c) (hs : Stored w ⟨g, j, none⟩ v w1) : Row w1 e s (some ⟨g, 0, none⟩) n (vs.set j v) c := by
  refine ⟨by rw [List.length_set]; exact h.1, ?_⟩
  rcases h.2 with ⟨h1, _⟩ | ⟨g', cur, he, h1, h2, h3, h4, h5⟩
  · cases h1
  · cases he
    refine .inr ⟨g, _, rfl, hs.heap h1, h2, h3, by simpa using h4, ?_⟩
    rw [Array.toList_setIfInBounds, List.take_set, h5]
theorem Vc.Row.can {w : World} {e : TypeId} {s g n c j : Nat} {vs : List Value} (h : Row w e s (some ⟨g, 0, none⟩) n vs c) (hj : j < n * s) :
    (∃ old, w.cell? ⟨g, j, none⟩ = some old) ∧ w.frozen? ⟨g, j, none⟩ = false := by
  rcases h.2 with ⟨h1, _⟩ | ⟨g', cur, he, h1, h2, h3, h4, h5⟩
  · cases h1
  · cases he
    have h6 : n * s ≤ c * s := Nat.mul_le_mul_right _ h2
    refine ⟨?_, frozen_of_heap h1 _⟩
    rw [cell_of_heap h1]
    exact ⟨_, Array.getElem?_eq_getElem (by omega)⟩
def setL : List Value → Nat → List Value → List Value
  | vs, _, [] => vs
  | vs, k, u :: us => setL (vs.set k u) (k + 1) us
theorem setL_app (l : List Value) : ∀ (us r : List Value) (k : Nat), setL (l ++ r) (l.length + k) us = l ++ setL r k us
  | [], r, k => rfl
  | u :: us, r, k => by
    simp only [setL]
    rw [List.set_append_right _ _ (by omega), Nat.add_sub_cancel_left, Nat.add_assoc, setL_app l us]
theorem flc_set : ∀ (cs : List Ce) (i : Nat) (c : Ce), i < cs.length → setL (flat cs) (i * 6) (ceV c) = flat (cs.set i c)
  | [], i, c, h => by simp at h
  | a :: cs, 0, c, h => by
    rw [flc_cons, List.set_cons_zero, flc_cons]
    rfl
  | a :: cs, i + 1, c, h => by
    rw [flc_cons, List.set_cons_succ, flc_cons, show (i + 1) * 6 = (ceV a).length + i * 6 from by rw [ceV_len]; omega, setL_app, flc_set cs i c (by simpa using h)]
theorem one_is {v : Value} (h : v.oneCell' = true) : oneB v = true := by cases v <;> simp_all [oneB, Value.oneCell']
theorem stores_row {e : TypeId} {s g n c off : Nat} : ∀ (us : List Value) (i : Nat) {vs : List Value} {w : World} {K : World → Prop}, Row w e s (some ⟨g, 0, none⟩) n vs c → (∀ u ∈ us, u.oneCell' = true) → off + i + us.length ≤ n * s →
    (∀ w', Row w' e s (some ⟨g, 0, none⟩) n (setL vs (off + i) us) c → Fr (fun b => b = g) w w' → K w') → storesE g off i us w K
  | [], i, vs, w, K, h, _, _, hk => hk w h (Fr.refl _ _)
  | u :: us, i, vs, w, K, h, h1, hl, hk => by
    simp only [List.length_cons] at hl
    have hj := h.can (j := off + i) (by omega)
    refine ⟨one_is (h1 u (by simp)), by rw [addN_eq]; exact hj.1, by rw [addN_eq]; exact hj.2, fun w1 hs => ?_⟩
    rw [addN_eq] at hs
    refine stores_row us (i + 1) (h.put hs) (fun x hx => h1 x (by simp [hx])) (by omega) fun w' hr hf => hk w' hr ((Fr.stored hs).trans hf (fun _ _ hx => hx))
theorem Vc.Row.setCe {w : World} {e : TypeId} {g n c i : Nat} {cs : List Ce} {K : World → Prop} (h : Row w e 6 (some ⟨g, 0, none⟩) n (flat cs) c) (hi : i < cs.length) (x : Ce)
    (hk : ∀ w', Row w' e 6 (some ⟨g, 0, none⟩) n (flat (cs.set i x)) c → Fr (fun b => b = g) w w' → K w') : storesE g (0 + i * 6) 0 (ceV x) w K := by
  have hn := h.1
  rw [flc_len] at hn
  refine stores_row (ceV x) 0 h (ceV_one x) (by rw [ceV_len]; omega) fun w' hr hf => hk w' ?_ hf
  rw [Nat.zero_add, Nat.add_zero, flc_set cs i x hi] at hr
  exact hr
theorem flc_set1 : ∀ (cs : List Ce) (i k : Nat) (x : Ce) (v : Value), i < cs.length → k < 6 → (ceV (ceG cs i)).set k v = ceV x → (flat cs).set (i * 6 + k) v = flat (cs.set i x)
  | [], i, k, x, v, h, _, _ => by simp at h
  | a :: cs, 0, k, x, v, h, hk, he => by
    rw [flc_cons, List.set_cons_zero, flc_cons, Nat.zero_mul, Nat.zero_add, List.set_append_left _ _ (by rw [ceV_len]; exact hk)]
    exact congrArg (· ++ flat cs) he
  | a :: cs, i + 1, k, x, v, h, hk, he => by
    rw [flc_cons, List.set_cons_succ, flc_cons, show (i + 1) * 6 + k = (ceV a).length + (i * 6 + k) from by rw [ceV_len]; omega, List.set_append_right _ _ (by omega), Nat.add_sub_cancel_left, flc_set1 cs i k x v (by simpa using h) hk he]
theorem setL_eq : ∀ (us vs : List Value) (k : Nat), k + us.length ≤ vs.length → setL vs k us = vs.take k ++ us ++ vs.drop (k + us.length)
  | [], vs, k, h => by simp [setL]
  | u :: us, vs, k, h => by
    simp only [List.length_cons] at h ⊢
    have hk : k < vs.length := by omega
    simp only [setL]
    rw [setL_eq us _ (k + 1) (by rw [List.length_set]; omega), List.take_set, List.drop_set_of_lt (by omega)]
    rw [List.take_succ_eq_append_getElem hk, List.set_append_right _ _ (by rw [List.length_take]; exact Nat.min_le_left _ _), List.length_take, Nat.min_eq_left (by omega), Nat.sub_self]
    simp only [List.set_cons_zero, List.append_assoc, List.cons_append, List.nil_append]
    rw [show k + 1 + us.length = k + (us.length + 1) from by omega]
theorem run_stores_row {P : Program} {e : TypeId} {s g n c off : Nat} (us : List Value) {vs : List Value} {w : World} (h : Row w e s (some ⟨g, 0, none⟩) n vs c) (h1 : ∀ u ∈ us, u.oneCell' = true) (hl : off + us.length ≤ n * s) :
    ∃ w', (storeCells ⟨g, off, none⟩ us).run P w = .ok () w' ∧ Row w' e s (some ⟨g, 0, none⟩) n (setL vs off us) c ∧ Fr (fun b => b = g) w w' ∧ KO w w' := by
  obtain ⟨w', h2, ⟨h3, h4⟩, h5⟩ := run_stores (P := P) us 0 w (fun w' => Row w' e s (some ⟨g, 0, none⟩) n (setL vs off us) c ∧ Fr (fun b => b = g) w w') (stores_row us 0 h h1 (by omega) fun w' hr hf => ⟨hr, hf⟩)
  exact ⟨w', h2, h3, h4, h5⟩
theorem stores_all {w : World} {b : Nat} {t : TypeId} {cur : Array Value} (h : w.heap[b]? = some (.cells cur t)) (us : List Value) (hl : us.length = cur.size) (hm : us.length ≤ maxLen) (h1 : ∀ u ∈ us, u.oneCell' = true) {K : World → Prop}
    (hk : ∀ w', w'.heap[b]? = some (.cells us.toArray t) → Fr (fun q => q = b) w w' → K w') : storesE b 0 0 us w K := by
  have hR : Row w t 1 (some ⟨b, 0, none⟩) us.length cur.toList us.length := ⟨by rw [Array.length_toList]; omega, .inr ⟨b, cur, rfl, h, Nat.le_refl _, hm, by omega, List.take_of_length_le (by rw [Array.length_toList]; omega)⟩⟩
  refine stores_row us 0 hR h1 (by omega) fun w' hr hf => hk w' ?_ hf
  have hcl : cur.toList.length = us.length := by rw [Array.length_toList, hl]
  have hse : setL cur.toList (0 + 0) us = us := by
    rw [setL_eq us cur.toList (0 + 0) (by rw [hcl]; omega), show (0 + 0 : Nat) = 0 from rfl, Nat.zero_add, List.take_zero, List.nil_append, List.drop_eq_nil_of_le (by rw [hcl]; exact Nat.le_refl _), List.append_nil]
  rw [hse] at hr
  rcases hr.2 with ⟨h2, _⟩ | ⟨g, c2, h2, h3, h4, h5, h6, h7⟩
  · cases h2
  · cases h2
    rw [h3]
    have : c2 = us.toArray := by
      apply Array.toList_inj.1
      rw [← h7, List.take_of_length_le (by rw [Array.length_toList]; omega)]
    rw [this]
theorem copy_row {P : Program} {w : World} {dT sT ty e : TypeId} {i : TypeInfo} {s g n c m cx dn : Nat} {sa : Option Addr} {vs us : List Value} (hu : P.underlying dT = some (.slice e)) (hi : P.info? e = some i) (hs : i.size = s) (h : Row w e s (some ⟨g, 0, none⟩) n vs c)
    (hsa : CellsAt w sa us) (hl : us.length = m * s) (hm : m ≤ n) (h1 : ∀ u ∈ us, u.oneCell' = true) :
    ∃ w', CopyRun P #[dT, sT] ty (.slice (some ⟨g, 0, none⟩) n dn) (.slice sa m cx) w m w' ∧ KO w w' ∧ Row w' e s (some ⟨g, 0, none⟩) n (setL vs 0 us) c ∧ Fr (fun b => b = g) w w' := by
  obtain ⟨w', h2, h3, h4, h5⟩ := run_stores_row (P := P) (off := 0) us h h1 (by rw [hl, Nat.zero_add]; exact Nat.mul_le_mul_right _ hm)
  refine ⟨w', ?_, h5, h3, h4⟩
  have hmin : Nat.min m n = m := Nat.min_eq_left hm
  have hfc : (Builtin.firstCells s m (.slice sa m cx)).run P w = .ok us.toArray w := by
    rcases hsa with hn | ⟨b, o, rfl, hc⟩
    · subst hn
      have h0 : m * s = 0 := by simpa using hl.symm
      cases sa with
      | none => rfl
      | some a => simp [Builtin.firstCells, h0, loadCells, loadCellsFrom]
    · have := run_loadCells_list (P := P) w ⟨b, o, none⟩ us (fun j v hj => by rw [add_lit]; exact hc j v hj)
      rw [hl] at this
      simp [Builtin.firstCells, this]
  unfold CopyRun
  simp only [Builtin.copy_, run_underlying hu, Builtin.lenOf, sizeOf, typeInfo, hi, hs, Sem.run_bind, Sem.run_pure, Result.andThen, run_program, List.getElem?_toArray, List.getElem?_cons_zero, List.getElem?_cons_succ, hmin, hfc, List.toList_toArray, h2, goInt]
theorem blk_at (i : Nat) (h : i < 6) : (ceV (blkC 0)).toArray[i]! = (ceV (blkC 0)).getD i .nilFunc := by
  rcases (by omega : i = 0 ∨ i = 1 ∨ i = 2 ∨ i = 3 ∨ i = 4 ∨ i = 5) with rfl | rfl | rfl | rfl | rfl | rfl <;> rfl
theorem range_flc (n : Nat) : ((Array.range (n * 6)).map fun i => (ceV (blkC 0)).toArray[i % 6]!).toList = flat (List.replicate n (blkC 0)) := by
  apply List.ext_getElem?
  intro i
  rw [Array.getElem?_toList, Array.getElem?_map]
  by_cases h : i < n * 6
  · have h6 : i % 6 < 6 := Nat.mod_lt _ (by decide)
    have hd : i / 6 < n := by omega
    rw [Array.getElem?_range, if_pos h, show i = i / 6 * 6 + i % 6 from by omega, flc_at _ (by simpa using hd) h6]
    have hc : ceG (List.replicate n (blkC 0)) (i / 6) = blkC 0 := by
      unfold ceG; rw [List.getD_eq_getElem?_getD, List.getElem?_replicate, if_pos hd]; rfl
    rw [hc, show i / 6 * 6 + i % 6 = i from by omega]
    simp only [Option.map_some]
    rw [blk_at _ h6, List.getD_eq_getElem?_getD, List.getElem?_eq_getElem (by rw [ceV_len]; exact h6)]
    rfl
  · rw [Array.getElem?_range, if_neg h]
    rw [List.getElem?_eq_none (by rw [flc_len]; simp; omega)]
    rfl
theorem zeroCells_flc (n : Nat) : (Builtin.zeroCells (ceV (blkC 0)).toArray n).toList = flat (List.replicate n (blkC 0)) := range_flc n
theorem mkRow_flc (n : Nat) : (mkRow (ceV (blkC 0)).toArray n).toList = flat (List.replicate n (blkC 0)) := range_flc n
theorem clear_row {P : Program} {w : World} {t ty e : TypeId} {z : Value} {g n c k m cx : Nat} {cs : List Ce} (ht : P.underlying t = some (.slice e)) (hz : zeroOf P e = some z) (hzc : z.cells = (ceV (blkC 0)).toArray)
    (h : Row w e 6 (some ⟨g, 0, none⟩) n (flat cs) c) (hk : k + m = n) :
    ∃ w', ClearRun P #[t] ty (.slice (some ⟨g, k * 6, none⟩) m cx) w w' ∧ KO w w' ∧ Row w' e 6 (some ⟨g, 0, none⟩) n (flat (cs.take k ++ List.replicate m (blkC 0))) c ∧ Fr (fun b => b = g) w w' := by
  have hn := h.1
  rw [flc_len] at hn
  have hlen : cs.length = n := by omega
  by_cases hm : m = 0
  · subst hm
    refine ⟨w, ?_, KOE.refl _ _, ?_, Fr.refl _ _⟩
    · unfold ClearRun
      simp [Builtin.clear_, run_underlying ht]
    · rw [List.take_of_length_le (by omega)]; simpa using h
  · obtain ⟨w', h2, h3, h4, h5⟩ := run_stores_row (P := P) (off := k * 6) (flat (List.replicate m (blkC 0))) h (flc_one _) (by rw [flc_len, List.length_replicate]; omega)
    refine ⟨w', ?_, h5, ?_, h4⟩
    · unfold ClearRun
      obtain ⟨m', rfl⟩ : ∃ m', m = m' + 1 := ⟨m - 1, by omega⟩
      have hzr := info_zero hz
      have hzl := zeroCells_flc (m' + 1)
      simp only [Builtin.clear_, Sem.run_bind, run_underlying ht, Result.andThen, hzr, hzc, hzl, h2, List.getElem?_toArray, List.getElem?_cons_zero, Sem.run_pure]
    · rw [setL_eq _ _ _ (by rw [flc_len, flc_len, List.length_replicate]; omega), flc_take, flc_len, List.length_replicate, show k * 6 + m * 6 = n * 6 from by omega, List.drop_eq_nil_of_le (by rw [flc_len]; omega), List.append_nil, ← flc_append] at h3
      exact h3
end

section
open Go Vc Ut Tb Cl Orb
theorem pl_le2 (s : ByteArray) (wd : Bool) : plN s wd ≤ 2 := by
  unfold plN; split
  · rename_i h; exact h.2.2.2
  · exact Nat.zero_le _
theorem pl_blank (wd : Bool) : plN ⟨#[32]⟩ wd = 1 := by cases wd <;> decide +kernel
theorem pl_none (wd : Bool) : plN ⟨#[]⟩ wd = 0 := by cases wd <;> decide +kernel
theorem pos_four (s : ByteArray) : ∀ n, pos s n ≤ 4 * n
  | 0 => Nat.le_refl _
  | n + 1 => by
    have ih := pos_four s n
    simp only [pos]
    split
    · rename_i h; have := dcN_le4 h; omega
    · omega
theorem pl_size {s : ByteArray} {wd : Bool} (h : plN s wd ≠ 0) : s.size ≤ 128 := by
  have hp := plain_of h
  have h1 := one_le hp.one
  have h2 := (one_first hp.one).2.2
  have h3 := pos_four s (cnt s)
  rw [pos_cnt] at h3
  omega
theorem tx_pl {c : Ce} {wd : Bool} (hp : c.p = 0) (h : plN c.t wd ≠ 0) : txC c = c.t := by
  unfold txC
  rw [if_neg]
  rintro ⟨-, hs⟩
  rw [size_zero hs, pl_none] at h
  exact h rfl
theorem tx_blk (st : Nat) : txC (blkC st) = ⟨#[32]⟩ := by unfold txC; rw [if_pos ⟨rfl, rfl⟩]
def oneAt (c : Ce) (wd : Bool) : Prop := c.p = 0 ∧ plN (txC c) wd = 1
theorem one_blk (st : Nat) (wd : Bool) : oneAt (blkC st) wd := ⟨rfl, by rw [tx_blk, pl_blank]⟩
theorem okAt_one {l : List Ce} {w i : Nat} {wd : Bool} (h : oneAt (ceG l i) wd) : okAt l w wd i := by
  unfold okAt; rw [if_neg (by rw [h.1]; decide)]; exact ⟨h.1, .inl h.2⟩
theorem okL_rep (n w : Nat) (wd : Bool) (st : Nat) : okL (List.replicate n (blkC st)) w wd := fun i hi => okAt_one (by
  rw [ceG_lt hi, List.getElem_replicate]; exact one_blk st wd)
theorem okL_lay {l : List Ce} {w i : Nat} {wd : Bool} {c : Ce} (h : okL l w wd) (hi : i < l.length) (hc : oneAt c wd) : okL (layL l w i c) w wd := by
  intro j hj
  rw [lay_len] at hj
  have h0 : (ceG l i).p = 1 → 0 < i := fun hp => by have := h i hi; unfold okAt at this; rw [if_pos hp] at this; exact this.1
  have hci := ceG_lay (w := w) (c := c) hi h0
  have hoi := h i hi
  have hoj := h j hj
  by_cases hji : j = i
  · exact okAt_one (by rw [hci, if_pos hji]; exact hc)
  by_cases hp : (ceG l i).p = 1
  · simp only [if_pos hp] at hci
    have hi0 := h0 hp
    unfold okAt at hoi
    rw [if_pos hp] at hoi
    by_cases hj1 : j = i - 1
    · exact okAt_one (by rw [hci, if_neg hji, if_pos hj1]; exact one_blk _ _)
    have ej : ceG (layL l w i c) j = ceG l j := by rw [hci, if_neg hji, if_neg hj1]
    unfold okAt at hoj ⊢
    rw [ej, lay_len]
    by_cases hpj : (ceG l j).p = 1
    · rw [if_pos hpj] at hoj ⊢
      have e1 : ceG (layL l w i c) (j - 1) = ceG l (j - 1) := by
        rw [hci, if_neg (fun e => ?_), if_neg (fun e => ?_)]
        · have : j = i := by omega
          exact hji this
        · rw [e] at hoj; rw [hoj.2.1] at hp; exact absurd hp (by decide)
      rw [e1]; exact hoj
    · rw [if_neg hpj] at hoj ⊢
      refine ⟨hoj.1, hoj.2.imp id fun ⟨a1, a2, a3, a4, a5, a6⟩ => ?_⟩
      have e1 : ceG (layL l w i c) (j + 1) = ceG l (j + 1) := by
        rw [hci, if_neg (fun e => hj1 (by omega)), if_neg (fun e => ?_)]
        rw [e, hoi.2.1] at a4; exact absurd a4 (by decide)
      rw [e1]; exact ⟨a1, a2, a3, a4, a5, a6⟩
  · simp only [if_neg hp] at hci
    unfold okAt at hoi
    rw [if_neg hp] at hoi
    by_cases hj1 : (i + 1) % w ≠ 0 ∧ (ceG l (i + 1)).p = 1 ∧ j = i + 1
    · exact okAt_one (by rw [hci, if_neg hji, if_pos hj1]; exact one_blk _ _)
    have ej : ceG (layL l w i c) j = ceG l j := by rw [hci, if_neg hji, if_neg hj1]
    have two : (ceG l (i + 1)).p = 1 → i + 1 < l.length → (i + 1) % w ≠ 0 := fun hp1 hl => by
      have := h (i + 1) hl
      unfold okAt at this
      rw [if_pos hp1] at this
      have h2 := this.2.2
      rw [Nat.add_sub_cancel] at h2
      rcases hoi.2 with hh | hh
      · omega
      · exact hh.2.1
    unfold okAt at hoj ⊢
    rw [ej, lay_len]
    by_cases hpj : (ceG l j).p = 1
    · rw [if_pos hpj] at hoj ⊢
      have e1 : ceG (layL l w i c) (j - 1) = ceG l (j - 1) := by
        rw [hci, if_neg (fun e => ?_), if_neg (fun e => ?_)]
        · obtain ⟨a1, a2, a3⟩ := e
          rw [a3] at hoj; rw [hoj.2.1] at a2; exact absurd a2 (by decide)
        · have e2 : j = i + 1 := by omega
          subst e2
          exact hj1 ⟨two hpj hj, hpj, rfl⟩
      rw [e1]; exact hoj
    · rw [if_neg hpj] at hoj ⊢
      refine ⟨hoj.1, hoj.2.imp id fun ⟨a1, a2, a3, a4, a5, a6⟩ => ?_⟩
      have e1 : ceG (layL l w i c) (j + 1) = ceG l (j + 1) := by
        rw [hci, if_neg (fun e => ?_), if_neg (fun e => ?_)]
        · exact hji (by omega)
        · rw [e] at a4; exact hp a4
      rw [e1]; exact ⟨a1, a2, a3, a4, a5, a6⟩
theorem okL_pair {l : List Ce} {w i : Nat} {wd : Bool} {c d : Ce} (h : okL l w wd) (hi : i + 1 < l.length) (hm : (i + 1) % w ≠ 0) (h1 : oneAt (ceG l i) wd) (h2 : oneAt (ceG l (i + 1)) wd)
    (hc : c.p = 0) (hc2 : plN (txC c) wd = 2) (hd : d.p = 1) (hs : d.st = c.st) (ht : d.t.size = 0) : okL ((l.set i c).set (i + 1) d) w wd := by
  have hg : ∀ j, ceG ((l.set i c).set (i + 1) d) j = if j = i + 1 then d else if j = i then c else ceG l j := fun j => by
    rw [ceG_set (by rw [List.length_set]; exact hi), ceG_set (by omega)]
  have hlen : ((l.set i c).set (i + 1) d).length = l.length := by rw [List.length_set, List.length_set]
  intro j hj
  rw [hlen] at hj
  have hoj := h j hj
  by_cases e1 : j = i + 1
  · unfold okAt
    rw [hg, if_pos e1, if_pos hd, hg, if_neg (by omega), if_pos (by omega)]
    exact ⟨by omega, hc, hc2⟩
  by_cases e2 : j = i
  · unfold okAt
    rw [hg, if_neg e1, if_pos e2, if_neg (by rw [hc]; decide), hg, if_pos (by omega), hlen]
    exact ⟨hc, .inr ⟨hc2, by rw [e2]; exact hm, by omega, hd, hs, ht⟩⟩
  unfold okAt at hoj ⊢
  rw [hlen, hg j, if_neg e1, if_neg e2]
  by_cases hp : (ceG l j).p = 1
  · rw [if_pos hp] at hoj ⊢
    rw [hg, if_neg (fun e => ?_), if_neg (fun e => ?_)]
    · exact hoj
    · omega
    · rw [e] at hoj; rw [h2.2] at hoj; have e2 : (1 : Nat) = 2 := hoj.2.2; cases e2
  · rw [if_neg hp] at hoj ⊢
    refine ⟨hoj.1, hoj.2.imp id fun ⟨a1, a2, a3, a4, a5, a6⟩ => ?_⟩
    rw [hg, if_neg (by omega), if_neg (fun e => ?_)]
    · exact ⟨a1, a2, a3, a4, a5, a6⟩
    · rw [e, h1.1] at a4; exact absurd a4 (by decide)
theorem lay_set {l : List Ce} {w i : Nat} {c c' : Ce} : (layL l w i c).set i c' = layL l w i c' := by
  unfold layL; rw [List.set_set]
theorem okL_two {l : List Ce} {w i : Nat} {wd : Bool} {c d : Ce} (h : okL l w wd) (hi : i + 1 < l.length) (hm : (i + 1) % w ≠ 0) (hc : c.p = 0) (hc2 : plN (txC c) wd = 2) (hd : d.p = 1) (hs : d.st = c.st) (ht : d.t.size = 0) (st : Nat) :
    okL ((layL (layL l w (i + 1) (blkC st)) w i c).set (i + 1) d) w wd := by
  have o1 := okL_lay h hi (one_blk st wd)
  have o2 := okL_lay (i := i) o1 (by rw [lay_len]; omega) (one_blk st wd)
  rw [← lay_set (c := blkC st)]
  have hi1 : i < (layL l w (i + 1) (blkC st)).length := by rw [lay_len]; omega
  have g1 : ceG (layL l w (i + 1) (blkC st)) (i + 1) = blkC st := by
    rw [ceG_lay hi (fun _ => by omega), if_pos rfl]
  have hp0 : (ceG (layL l w (i + 1) (blkC st)) i).p = 1 → 0 < i := fun hp => by have := o1 i hi1; unfold okAt at this; rw [if_pos hp] at this; exact this.1
  refine okL_pair o2 (by rw [lay_len, lay_len]; exact hi) hm ?_ ?_ hc hc2 hd hs ht
  · rw [ceG_lay hi1 hp0, if_pos rfl]; exact one_blk st wd
  · rw [ceG_lay hi1 hp0, if_neg (by omega)]
    split
    · rw [if_neg (by omega), g1]; exact one_blk st wd
    · rw [if_neg (fun e => by rw [g1] at e; have e2 : (0 : Int) = 1 := e.2.1; cases e2), g1]; exact one_blk st wd
theorem ceG_app {l m : List Ce} {i : Nat} : ceG (l ++ m) i = if i < l.length then ceG l i else ceG m (i - l.length) := by
  unfold ceG
  rw [List.getD_eq_getElem?_getD, List.getElem?_append]
  split <;> rw [List.getD_eq_getElem?_getD]
theorem ceG_drop {l : List Ce} {k i : Nat} : ceG (l.drop k) i = ceG l (k + i) := by
  unfold ceG
  rw [List.getD_eq_getElem?_getD, List.getElem?_drop, List.getD_eq_getElem?_getD]
theorem ceG_rep {n i : Nat} : ceG (List.replicate n (blkC 0)) i = blkC 0 := by
  by_cases h : i < n
  · rw [ceG_lt (by rw [List.length_replicate]; exact h), List.getElem_replicate]
  · exact ceG_out (by rw [List.length_replicate]; omega)
theorem okL_down {l : List Ce} {w : Nat} {wd : Bool} (h : okL l w wd) (hw : w ≤ l.length) (n : Nat) : okL (l.drop w ++ List.replicate n (blkC 0)) w wd := by
  intro j hj
  rw [List.length_append, List.length_drop, List.length_replicate] at hj
  by_cases hj1 : j < l.length - w
  · have e1 : ceG (l.drop w ++ List.replicate n (blkC 0)) j = ceG l (w + j) := by rw [ceG_app, if_pos (by rw [List.length_drop]; exact hj1), ceG_drop]
    have hoj := h (w + j) (by omega)
    unfold okAt at hoj ⊢
    rw [e1]
    by_cases hp : (ceG l (w + j)).p = 1
    · rw [if_pos hp] at hoj ⊢
      have hj0 : 0 < j := by
        rcases Nat.eq_zero_or_pos j with e | e
        · exfalso
          subst e
          rw [Nat.add_zero] at hoj
          have hb := h (w - 1) (by omega)
          unfold okAt at hb
          rw [if_neg (by rw [hoj.2.1]; decide)] at hb
          rcases hb.2 with hh | hh
          · omega
          · have := hh.2.1
            rw [show w - 1 + 1 = w by omega, Nat.mod_self] at this
            exact this rfl
        · exact e
      rw [ceG_app, if_pos (by rw [List.length_drop]; omega), ceG_drop, show w + (j - 1) = w + j - 1 by omega]
      exact ⟨hj0, hoj.2⟩
    · rw [if_neg hp] at hoj ⊢
      refine ⟨hoj.1, hoj.2.imp id fun ⟨a1, a2, a3, a4, a5, a6⟩ => ?_⟩
      rw [ceG_app, if_pos (by rw [List.length_drop]; omega), ceG_drop, show w + (j + 1) = w + j + 1 by omega, List.length_append, List.length_drop, List.length_replicate]
      exact ⟨a1, by rw [show w + j + 1 = j + 1 + w by omega, Nat.add_mod_right] at a2; exact a2, by omega, a4, a5, a6⟩
  · exact okAt_one (by
      rw [ceG_app, if_neg (by rw [List.length_drop]; exact hj1), ceG_rep]
      exact one_blk 0 wd)
end

section
open Go Vc Ut Tb Cl Orb
theorem tx_size (c : Ce) : (txC c).size ≤ 1 + c.t.size := by
  unfold txC; split
  · show 1 ≤ _; omega
  · omega
theorem drop_ce {l : List Ce} {i : Nat} (h : i < l.length) : l.drop i = ceG l i :: l.drop (i + 1) := by
  rw [List.drop_eq_getElem_cons h, ceG_lt h]
theorem rgt_cons (w : Nat) (wd : Bool) (c : Ce) (r : List Ce) (i : Nat) : rgtL w wd (c :: r) i = (c.p == 0 && (if plN (txC c) wd = 0 then false else if plN (txC c) wd = 2 then
      (match r with
        | [] => false
        | d :: r' => !((i + 1) % w == 0) && (d.p == 1 && (d.st == c.st && decide (d.t.size = 0))) && rgtL w wd r' (i + 2))
      else rgtL w wd r (i + 1))) := by rw [rgtL.eq_def]; rfl
theorem rgt_bad {w : Nat} {wd : Bool} {l : List Ce} {i : Nat} (h : i < l.length) (hb : (ceG l i).p ≠ 0 ∨ plN (txC (ceG l i)) wd = 0) : rgtL w wd (l.drop i) i = false := by
  rw [drop_ce h, rgt_cons]
  rcases hb with hb | hb
  · rw [show ((ceG l i).p == 0) = false from by simpa using hb]; rfl
  · rw [if_pos hb, Bool.and_false]
theorem rgt_one {w : Nat} {wd : Bool} {l : List Ce} {i : Nat} (h : i < l.length) (hp : (ceG l i).p = 0) (h0 : plN (txC (ceG l i)) wd ≠ 0) (h2 : plN (txC (ceG l i)) wd ≠ 2) : rgtL w wd (l.drop i) i = rgtL w wd (l.drop (i + 1)) (i + 1) := by
  rw [drop_ce h, rgt_cons, hp, if_neg h0, if_neg h2]; rfl
theorem rgt_two {w : Nat} {wd : Bool} {l : List Ce} {i : Nat} (h : i + 1 < l.length) (hp : (ceG l i).p = 0) (h2 : plN (txC (ceG l i)) wd = 2) :
    rgtL w wd (l.drop i) i = (!((i + 1) % w == 0) && ((ceG l (i + 1)).p == 1 && ((ceG l (i + 1)).st == (ceG l i).st && decide ((ceG l (i + 1)).t.size = 0))) && rgtL w wd (l.drop (i + 2)) (i + 2)) := by
  rw [drop_ce (by omega), rgt_cons, hp, if_neg (by omega), if_pos h2, drop_ce h]; rfl
theorem rgt_end {w : Nat} {wd : Bool} {l : List Ce} {i : Nat} (h : i + 1 = l.length) (hp : (ceG l i).p = 0) (h2 : plN (txC (ceG l i)) wd = 2) : rgtL w wd (l.drop i) i = false := by
  rw [drop_ce (by omega), rgt_cons, hp, if_neg (by omega), if_pos h2, List.drop_eq_nil_of_le (by omega)]; rfl
theorem rgt_nil {w : Nat} {wd : Bool} {l : List Ce} {i : Nat} (h : l.length ≤ i) : rgtL w wd (l.drop i) i = true := by
  rw [List.drop_eq_nil_of_le h]; rfl
theorem pl_le (s : ByteArray) (wd : Bool) : plN s wd ≤ 2 := by
  unfold plN; split
  · rename_i h; exact h.2.2.2
  · omega
theorem right_cur {g : Gr} {wd : Bool} (h : curB g = false) : rightB g wd = false := by unfold rightB; rw [h]; simp
theorem right_is {g : Gr} {wd : Bool} (h1 : sizeB g.w g.h = true) (h2 : (g.cs.length : Int) = g.w * g.h) (h3 : curB g = true) : rightB g wd = rgtL g.w.toNat wd g.cs 0 := by
  unfold rightB; rw [h1, h3, show ((g.cs.length : Int) == g.w * g.h) = true from by simpa using h2]; rfl
theorem sam_cons {a b : List Ce} {i : Nat} (h1 : i < a.length) (h2 : i < b.length) : samL (a.drop i) (b.drop i) = (alikeB (ceG a i) (ceG b i) && samL (a.drop (i + 1)) (b.drop (i + 1))) := by
  rw [drop_ce h1, drop_ce h2, samL]
theorem sam_nil {a b : List Ce} {i : Nat} (h1 : a.length ≤ i) (h2 : b.length ≤ i) : samL (a.drop i) (b.drop i) = true := by
  rw [List.drop_eq_nil_of_le h1, List.drop_eq_nil_of_le h2]; rfl
theorem sam_len : ∀ {a b : List Ce}, samL a b = true → a.length = b.length
  | [], [], _ => rfl
  | [], _ :: _, h => by simp [samL] at h
  | _ :: _, [], h => by simp [samL] at h
  | x :: a, y :: b, h => by
    simp only [samL, Bool.and_eq_true] at h
    rw [List.length_cons, List.length_cons, sam_len h.2]
theorem same_is {a b : Gr} (h1 : a.w = b.w) (h2 : a.h = b.h) (h3 : a.x = b.x) (h4 : a.y = b.y) : sameB a b = samL a.cs b.cs := by
  unfold sameB; rw [h1, h2, h3, h4]; simp
theorem right_facts {g : Gr} {wd : Bool} (h : rightB g wd = true) : 0 ≤ g.w ∧ g.w ≤ 1024 ∧ 0 ≤ g.h ∧ g.h ≤ 1024 ∧ (g.cs.length : Int) = g.w * g.h ∧ curB g = true ∧ rgtL g.w.toNat wd g.cs 0 = true := by
  unfold rightB at h
  simp only [Bool.and_eq_true, beq_iff_eq] at h
  obtain ⟨h1, h2, h3, h4⟩ := h
  have h1 := of_decide_eq_true h1
  exact ⟨h1.1, h1.2.1, h1.2.2.1, h1.2.2.2, h2, h3, h4⟩
theorem rgt_ok {l : List Ce} {w : Nat} {wd : Bool} : ∀ (n i : Nat), l.length ≤ n + i → rgtL w wd (l.drop i) i = true → ∀ j, i ≤ j → j < l.length → okAt l w wd j
  | 0, i, hn, _, j, h1, h2 => by omega
  | n + 1, i, hn, h, j, h1, h2 => by
    have hi : i < l.length := by omega
    by_cases hb : (ceG l i).p ≠ 0 ∨ plN (txC (ceG l i)) wd = 0
    · rw [rgt_bad hi hb] at h; cases h
    have hp : (ceG l i).p = 0 := by
      by_cases e : (ceG l i).p = 0
      · exact e
      · exact absurd (.inl e) hb
    have h0 : plN (txC (ceG l i)) wd ≠ 0 := fun e => hb (.inr e)
    have hle := pl_le (txC (ceG l i)) wd
    have hne : ¬ (ceG l i).p = 1 := by rw [hp]; decide
    by_cases e2 : plN (txC (ceG l i)) wd = 2
    · rcases Nat.lt_or_ge (i + 1) l.length with hi1 | hi1
      · rw [rgt_two hi1 hp e2] at h
        simp only [Bool.and_eq_true, Bool.not_eq_true', beq_eq_false_iff_ne, beq_iff_eq, decide_eq_true_eq] at h
        obtain ⟨⟨k1, k2, k3, k4⟩, k5⟩ := h
        by_cases ej : j = i
        · rw [ej]; unfold okAt
          rw [if_neg hne]
          exact ⟨hp, .inr ⟨e2, k1, hi1, k2, k3, k4⟩⟩
        by_cases ej1 : j = i + 1
        · rw [ej1]; unfold okAt
          rw [if_pos k2, Nat.add_sub_cancel]
          exact ⟨Nat.succ_pos i, hp, e2⟩
        exact rgt_ok n (i + 2) (by omega) k5 j (by omega) h2
      · rw [rgt_end (by omega) hp e2] at h; cases h
    · rw [rgt_one hi hp h0 e2] at h
      by_cases ej : j = i
      · rw [ej]; unfold okAt
        rw [if_neg hne]
        exact ⟨hp, .inl (by omega)⟩
      exact rgt_ok n (i + 1) (by omega) h j (by omega) h2
theorem ok_rgt {l : List Ce} {w : Nat} {wd : Bool} (h : okL l w wd) : ∀ (n i : Nat), l.length ≤ n + i → (i < l.length → (ceG l i).p = 0) → rgtL w wd (l.drop i) i = true
  | 0, i, hn, _ => rgt_nil (by omega)
  | n + 1, i, hn, hs => by
    rcases Nat.lt_or_ge i l.length with hi | hi
    · have hp := hs hi
      have ho := h i hi
      unfold okAt at ho
      rw [if_neg (by rw [hp]; decide)] at ho
      have next : ∀ j, j < l.length → ¬ ((ceG l (j - 1)).p = 0 ∧ plN (txC (ceG l (j - 1))) wd = 2) → (ceG l j).p = 0 := fun j hj hno => by
        have := h j hj
        unfold okAt at this
        split at this
        · exact absurd this.2 hno
        · exact this.1
      rcases ho.2 with e1 | ⟨e2, k1, hi1, k2, k3, k4⟩
      · rw [rgt_one hi hp (by omega) (by omega)]
        exact ok_rgt h n (i + 1) (by omega) (fun hj => next (i + 1) hj (fun hh => by rw [Nat.add_sub_cancel] at hh; omega))
      · rw [rgt_two hi1 hp e2, ok_rgt h n (i + 2) (by omega) (fun hj => next (i + 2) hj (fun hh => by
          rw [show i + 2 - 1 = i + 1 by omega, k2] at hh
          exact absurd hh.1 (by decide)))]
        simp only [Bool.and_eq_true, Bool.not_eq_true', beq_eq_false_iff_ne, beq_iff_eq, decide_eq_true_eq]
        exact ⟨⟨k1, k2, k3, k4⟩, trivial⟩
    · exact rgt_nil hi
theorem rgt_iff {l : List Ce} {w : Nat} {wd : Bool} : rgtL w wd l 0 = true ↔ okL l w wd := by
  constructor
  · intro h j hj
    exact rgt_ok (l := l) l.length 0 (by omega) (by rw [List.drop_zero]; exact h) j (Nat.zero_le _) hj
  · intro h
    have := ok_rgt h l.length 0 (by omega) (fun h0 => by
      have := h 0 h0
      unfold okAt at this
      split at this
      · exact absurd this.1 (by decide)
      · exact this.1)
    rw [List.drop_zero] at this
    exact this
theorem sam_iff {a b : List Ce} : samL a b = true ↔ a.length = b.length ∧ ∀ j, j < a.length → alikeB (ceG a j) (ceG b j) = true := by
  have key : ∀ (n i : Nat), a.length = b.length → a.length ≤ n + i → (samL (a.drop i) (b.drop i) = true ↔ ∀ j, i ≤ j → j < a.length → alikeB (ceG a j) (ceG b j) = true) := by
    intro n
    induction n with
    | zero =>
      intro i hl hn
      rw [sam_nil (by omega) (by omega)]
      exact ⟨fun _ j h1 h2 => by omega, fun _ => rfl⟩
    | succ n ih =>
      intro i hl hn
      rcases Nat.lt_or_ge i a.length with hi | hi
      · rw [sam_cons hi (by omega), Bool.and_eq_true, ih (i + 1) hl (by omega)]
        constructor
        · rintro ⟨h1, h2⟩ j hj1 hj2
          by_cases e : j = i
          · rw [e]; exact h1
          · exact h2 j (by omega) hj2
        · intro h
          exact ⟨h i (Nat.le_refl _) hi, fun j h1 h2 => h j (by omega) h2⟩
      · rw [sam_nil (by omega) (by omega)]
        exact ⟨fun _ j h1 h2 => by omega, fun _ => rfl⟩
  constructor
  · intro h
    have hl := sam_len h
    exact ⟨hl, fun j hj => (key a.length 0 hl (by omega)).1 h j (Nat.zero_le _) hj⟩
  · rintro ⟨hl, h⟩
    exact (key a.length 0 hl (by omega)).2 (fun j _ hj => h j hj)
theorem alike_iff {a b : Ce} : alikeB a b = true ↔ a.p = b.p ∧ a.st = b.st ∧ txC a = txC b := by
  unfold alikeB
  simp only [Bool.and_eq_true, beq_iff_eq, decide_eq_true_eq]
end
end Go.Proofs.YtjdohhididpomaaGreatDoor
