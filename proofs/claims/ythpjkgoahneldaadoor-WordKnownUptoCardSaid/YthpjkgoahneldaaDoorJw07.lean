/-
  Texts joined by program: Bw, Wd, We, SpWa, SpWb, VgWb.
-/
import Derived.Test.YthpjkgoahneldaaDoorJw06
import Derived.Test.YthpjkgoahneldaaDoorJw04
import Derived.Test.YthpjkgoahneldaaDoorProg
import Derived.KernelRfl
set_option linter.unusedVariables false
set_option linter.unusedSimpArgs false

section
/-
  Breaks in plain words, third part: a piece of a text between borders; lines, each alone.
-/
namespace Go.Proofs.YthpjkgoahneldaaDoor
open Go Vc Ut Tb Cl Orb

theorem ext2 {s : ByteArray} {a b c d : Nat} (h : a + d ≤ b) : (s.extract a b).extract c d = s.extract (a + c) (a + d) := by
  rw [ByteArray.extract_extract, Nat.min_eq_left h]
/-- The piece from cluster f to cluster e. -/
def pieceS (s : ByteArray) (f e : Nat) : ByteArray := s.extract (bp s f) (bp s e)
theorem piece_eq {s : ByteArray} {f e : Nat} (hf : f ≤ e) (he : e ≤ ncl s) : pieceS s f e = (s.extract (bp s f) s.size).extract 0 (bp (s.extract (bp s f) s.size) (e - f)) := by
  have h1 := bp_drop (s := s) (k := f) (by omega) (e - f)
  have h2 := bp_le s e
  rw [show f + (e - f) = e from by omega] at h1
  rw [ext2 (by omega), Nat.add_zero, show bp s f + bp (s.extract (bp s f) s.size) (e - f) = bp s e from by omega]
  rfl
theorem piece_ncl {s : ByteArray} {f e : Nat} (hf : f ≤ e) (he : e ≤ ncl s) : ncl (pieceS s f e) = e - f := by
  rw [piece_eq hf he]
  have := ncl_drop (s := s) (k := f) (by omega)
  exact ncl_take (by omega)
theorem piece_bp {s : ByteArray} {f e i : Nat} (hf : f ≤ e) (he : e ≤ ncl s) (hi : i ≤ e - f) : bp (pieceS s f e) i + bp s f = bp s (f + i) := by
  rw [piece_eq hf he]
  have := ncl_drop (s := s) (k := f) (by omega)
  rw [bp_take (by omega) hi]
  exact bp_drop (by omega) i
theorem piece_size {s : ByteArray} {f e : Nat} (hf : f ≤ e) : (pieceS s f e).size + bp s f = bp s e := by
  have := bp_mono s hf
  unfold pieceS
  rw [size_ext (bp_le s e)]; omega
theorem piece_pc {s : ByteArray} {f e i : Nat} (hf : f ≤ e) (he : e ≤ ncl s) (hi : i < e - f) : (pcP (pieceS s f e) i).2 = (pcP s (f + i)).2 := by
  have h1 := piece_bp hf he (i := i) (by omega)
  have h2 := piece_bp hf he (i := i + 1) (by omega)
  have h3 := bp_mono s (show f + (i + 1) ≤ e by omega)
  unfold pcP
  show (pieceS s f e).extract _ _ = _
  generalize bp (pieceS s f e) i = x at h1
  generalize bp (pieceS s f e) (i + 1) = y at h2
  unfold pieceS
  rw [ext2 (by omega), show bp s f + x = bp s (f + i) from by omega, show bp s f + y = bp s (f + i + 1) from by rw [Nat.add_assoc]; omega]
theorem piece_kc {s : ByteArray} {f e i : Nat} (hf : f ≤ e) (he : e ≤ ncl s) (hi : i < e - f) : kc (pieceS s f e) i = kc s (f + i) := by
  unfold kc; rw [piece_pc hf he hi]

/-- What is said hangs on the solid one, the cluster and the next one. -/
theorem where_local {s : ByteArray} {f k e : Nat} (hfk : f ≤ k) (hk : k < ncl s) (he : e = if ncl s ≤ k + 2 then ncl s else k + 2) (hsp : ∀ j, f < j → j ≤ k → kc s j = 1) (hso : f = 0 ∨ kc s f ≠ 1) : whereI (pieceS s f e) (k - f) = whereI s k := by
  have hfe : f ≤ e := by rw [he]; split <;> omega
  have hen : e ≤ ncl s := by rw [he]; split <;> omega
  have hke : k < e := by rw [he]; split <;> omega
  have hk1 : k + 1 < e ↔ k + 1 < ncl s := by rw [he]; split <;> omega
  have hn := piece_ncl hfe hen
  have hkc : ∀ i, i < e - f → kc (pieceS s f e) i = kc s (f + i) := fun i hi => piece_kc hfe hen hi
  have hsol : ∀ i, i ≤ k - f → sol (pieceS s f e) (i + 1) = sol s (f + i + 1) := by
    intro i
    induction i with
    | zero =>
      intro _
      simp only [sol, Nat.add_zero]
      rw [hkc 0 (by omega), Nat.add_zero]
      rcases hso with h | h
      · subst h; rfl
      · rw [if_neg h, if_neg h]
    | succ i ih =>
      intro hi
      show (if kc (pieceS s f e) (i + 1) = 1 then sol (pieceS s f e) (i + 1) else kc (pieceS s f e) (i + 1)) = (if kc s (f + (i + 1)) = 1 then sol s (f + (i + 1)) else kc s (f + (i + 1)))
      rw [hkc (i + 1) (by omega), ih (by omega)]
      rfl
  unfold whereI
  rw [hn, hkc (k - f) (by omega), show f + (k - f) = k from by omega, hsol (k - f) (Nat.le_refl _), show f + (k - f) + 1 = k + 1 from by omega]
  by_cases h1 : k + 1 < ncl s
  · rw [if_pos (by have := hk1.2 h1; omega), if_pos h1, hkc (k - f + 1) (by have := hk1.2 h1; omega), show f + (k - f + 1) = k + 1 from by omega]
  · rw [if_neg (by intro h; exact h1 (hk1.1 (by omega))), if_neg h1]

/-! ### Lines, each alone -/

/-- A line: clusters a to b, no Must but at its end (m: there is one), not too long. -/
def LineIs (s : ByteArray) (p : Nat × Nat) (m : Bool) : Prop :=
  ∃ a b, a ≤ b ∧ b ≤ ncl s ∧ p = (bp s a, bp s b) ∧ bp s b ≤ bp s a + 65536 ∧ (∀ j, a ≤ j → j + 1 < b → kc s j ≠ 2) ∧ (m = true ↔ a < b ∧ kc s (b - 1) = 2)

theorem line_piece {s : ByteArray} {p : Nat × Nat} {m : Bool} (h : LineIs s p m) : ∃ a b, a ≤ b ∧ b ≤ ncl s ∧ p = (bp s a, bp s b) ∧ (lnP s p).2 = pieceS s a b ∧ bp s b ≤ bp s a + 65536 ∧ (∀ j, a ≤ j → j + 1 < b → kc s j ≠ 2) ∧ (m = true ↔ a < b ∧ kc s (b - 1) = 2) := by
  obtain ⟨a, b, h1, h2, rfl, h4, h5, h6⟩ := h
  exact ⟨a, b, h1, h2, rfl, rfl, h4, h5, h6⟩

/-- The lines of a line. -/
theorem line_alone {s : ByteArray} {p : Nat × Nat} {m : Bool} (h : LineIs s p m) : lnL (lnP s p).2 = if m = true then [(0, (lnP s p).2), ((lnP s p).2.size, ⟨#[]⟩)] else [(0, (lnP s p).2)] := by
  obtain ⟨a, b, hab, hbn, rfl, hp, hlen, hno, hm⟩ := line_piece h
  rw [hp]
  have hn := piece_ncl hab hbn
  have hz := piece_size (s := s) hab
  generalize ht : pieceS s a b = t at hn hz
  have hkc : ∀ i, i < b - a → kc t i = kc s (a + i) := fun i hi => by rw [← ht]; exact piece_kc hab hbn hi
  have hbt : ∀ i, bp t i ≤ 65536 := fun i => by have := bp_le t i; omega
  have hS : ∀ i, i + 1 ≤ b - a → lnS t i = (0, []) := by
    intro i
    induction i with
    | zero => intro _; rfl
    | succ i ih =>
      intro hi
      simp only [lnS]
      rw [ih (by omega), if_neg (by rw [hkc i (by omega)]; exact hno _ (by omega) (by omega)), if_neg (by have := hbt (i + 1); dsimp only; omega)]
  have hself : t.extract 0 t.size = t := ByteArray.extract_zero_size
  have hnil : t.extract t.size t.size = ⟨#[]⟩ := by apply ByteArray.ext; simp [ByteArray.data_extract]
  unfold lnL lnA
  rw [hn]
  by_cases hba : b = a
  · have hm0 : ¬ m = true := fun h => by have := hm.1 h; omega
    rw [show b - a = 0 from by omega, if_neg hm0]
    show [lnP t (0, t.size)] = _
    unfold lnP
    rw [hself]
  · obtain ⟨d, hd⟩ : ∃ d, b - a = d + 1 := ⟨b - a - 1, by omega⟩
    rw [hd]
    have hl := hS d (by omega)
    have hk : kc t d = kc s (b - 1) := by rw [hkc d (by omega), show a + d = b - 1 from by omega]
    have hend : bp t (d + 1) = t.size := by rw [← hd, ← hn, bp_end]
    simp only [lnS]
    rw [hl, hk]
    by_cases hmm : m = true
    · rw [if_pos (hm.1 hmm).2, if_neg (by have := hbt (d + 1); dsimp only; omega), if_pos hmm, hend]
      show [lnP t (0, t.size), lnP t (t.size, t.size)] = _
      unfold lnP
      rw [hself, hnil]
    · rw [if_neg (fun h => hmm (hm.2 ⟨by omega, h⟩)), if_neg (by have := hbt (d + 1); dsimp only; omega), if_neg hmm]
      show [lnP t (0, t.size)] = _
      unfold lnP
      rw [hself]
/-- What is said of a line. -/
theorem line_where {s : ByteArray} {p : Nat × Nat} {m : Bool} (h : LineIs s p m) : (∀ i, i + 1 < ncl (lnP s p).2 → whereI (lnP s p).2 i ≠ 2) ∧ (m = true ↔ 0 < ncl (lnP s p).2 ∧ whereI (lnP s p).2 (ncl (lnP s p).2 - 1) = 2) := by
  obtain ⟨a, b, hab, hbn, rfl, hp, hlen, hno, hm⟩ := line_piece h
  rw [hp]
  have hn := piece_ncl hab hbn
  have hkc : ∀ i, i < b - a → kc (pieceS s a b) i = kc s (a + i) := fun i hi => piece_kc hab hbn hi
  rw [hn]
  constructor
  · intro i hi h2
    have := whereI_must.1 h2
    rw [hkc i (by omega)] at this
    exact hno _ (by omega) (by omega) this
  · rw [whereI_must]
    constructor
    · intro h2
      have := hm.1 h2
      exact ⟨by omega, by rw [hkc _ (by omega), show a + (b - a - 1) = b - 1 from by omega]; exact this.2⟩
    · rintro ⟨h1, h2⟩
      rw [hkc _ (by omega), show a + (b - a - 1) = b - 1 from by omega] at h2
      exact hm.2 ⟨by omega, h2⟩

/-- Lines one behind the other. -/
def Chain : Nat → List (Nat × Nat) → Nat → Prop
  | a, [], e => a = e
  | a, p :: l, e => p.1 = a ∧ Chain p.2 l e
theorem Chain.snoc {e' : Nat} : ∀ {a : Nat} {l : List (Nat × Nat)} {e : Nat}, Chain a l e → Chain a (l ++ [(e, e')]) e'
  | a, [], e, h => ⟨h.symm, rfl⟩
  | a, p :: l, e, h => ⟨h.1, Chain.snoc h.2⟩
theorem Chain.at {a e : Nat} : ∀ {l : List (Nat × Nat)} {a : Nat} {k : Nat} {p : Nat × Nat}, Chain a l e → l[k]? = some p → p.1 = if k = 0 then a else (l.getD (k - 1) (0, 0)).2
  | [], _, k, p, _, h => by simp at h
  | q :: l, a, 0, p, hc, h => by simp at h; subst h; exact hc.1
  | q :: l, a, k + 1, p, hc, h => by
    simp only [List.getElem?_cons_succ] at h
    have := Chain.at (a := a) (e := e) hc.2 h
    rw [this]
    by_cases hk : k = 0
    · subst hk; rfl
    · obtain ⟨j, rfl⟩ : ∃ j, k = j + 1 := ⟨k - 1, by omega⟩
      rw [if_neg (by omega), if_neg (by omega)]
      rfl
/-- How far one has come. -/
structure LnInv (s : ByteArray) (i : Nat) : Prop where
  here : ∃ a, a ≤ i ∧ (lnS s i).1 = bp s a ∧ bp s i ≤ bp s a + 65536 ∧ ∀ j, a ≤ j → j < i → kc s j ≠ 2
  told : ∀ p ∈ (lnS s i).2, (∃ m, LineIs s p m) ∧ p.1 < p.2
  chain : Chain 0 (lnS s i).2 (lnS s i).1

theorem ln_inv (s : ByteArray) : ∀ i, i ≤ ncl s → LnInv s i
  | 0, _ => ⟨⟨0, Nat.le_refl _, rfl, by omega, fun j h1 h2 => by omega⟩, fun p hp => by simp [lnS] at hp, rfl⟩
  | i + 1, hi => by
    obtain ⟨⟨a, ha, hf, hl, hno⟩, ht, hc⟩ := ln_inv s i (by omega)
    have hsm := clu_small (s := s) (i := i) (by omega)
    have hst := bp_strict (s := s) (show i < i + 1 by omega) (by omega)
    have hai := bp_mono s ha
    rw [hf] at hc
    have cut : ∀ {m : Bool}, bp s (i + 1) - bp s a > 65536 → m = false → LineIs s (bp s a, bp s i) m ∧ bp s a < bp s i := fun ho hm => by
      refine ⟨⟨a, i, ha, by omega, rfl, hl, fun j h1 h2 => hno j h1 (by omega), ?_⟩, by omega⟩
      rw [hm]
      constructor
      · intro h; cases h
      · rintro ⟨h1, h2⟩; exact absurd h2 (hno (i - 1) (by omega) (by omega))
    by_cases hk : kc s i = 2
    · by_cases ho : bp s (i + 1) - (lnS s i).1 > 65536
      · have e : lnS s (i + 1) = (bp s (i + 1), (lnS s i).2 ++ [(bp s a, bp s i), (bp s i, bp s (i + 1))]) := by simp only [lnS]; rw [if_pos hk, if_pos ho, hf]
        rw [hf] at ho
        refine ⟨⟨i + 1, Nat.le_refl _, by rw [e], by omega, fun j h1 h2 => by omega⟩, ?_, ?_⟩
        · rw [e]
          intro p hp
          simp only [List.mem_append, List.mem_cons, List.not_mem_nil, or_false] at hp
          rcases hp with hp | rfl | rfl
          · exact ht p hp
          · have := cut (m := false) ho rfl; exact ⟨⟨_, this.1⟩, this.2⟩
          · exact ⟨⟨true, i, i + 1, by omega, hi, rfl, by omega, fun j h1 h2 => by omega, by simp [hk]⟩, hst⟩
        · rw [e]
          have := (hc.snoc (e' := bp s i)).snoc (e' := bp s (i + 1))
          rw [List.append_assoc] at this
          exact this
      · have e : lnS s (i + 1) = (bp s (i + 1), (lnS s i).2 ++ [(bp s a, bp s (i + 1))]) := by simp only [lnS]; rw [if_pos hk, if_neg ho, hf]
        rw [hf] at ho
        refine ⟨⟨i + 1, Nat.le_refl _, by rw [e], by omega, fun j h1 h2 => by omega⟩, ?_, ?_⟩
        · rw [e]
          intro p hp
          simp only [List.mem_append, List.mem_cons, List.not_mem_nil, or_false] at hp
          rcases hp with hp | rfl
          · exact ht p hp
          · exact ⟨⟨true, a, i + 1, by omega, hi, rfl, by omega, fun j h1 h2 => hno j h1 (by omega), by simp [hk]; omega⟩, by dsimp only; omega⟩
        · rw [e]; exact hc.snoc
    · by_cases ho : bp s (i + 1) - (lnS s i).1 > 65536
      · have e : lnS s (i + 1) = (bp s i, (lnS s i).2 ++ [(bp s a, bp s i)]) := by simp only [lnS]; rw [if_neg hk, if_pos ho, hf]
        rw [hf] at ho
        refine ⟨⟨i, by omega, by rw [e], by omega, fun j h1 h2 => by have : j = i := by omega
                                                                     subst this; exact hk⟩, ?_, ?_⟩
        · rw [e]
          intro p hp
          simp only [List.mem_append, List.mem_cons, List.not_mem_nil, or_false] at hp
          rcases hp with hp | rfl
          · exact ht p hp
          · have := cut (m := false) ho rfl; exact ⟨⟨_, this.1⟩, this.2⟩
        · rw [e]; exact hc.snoc
      · have e : lnS s (i + 1) = lnS s i := by simp only [lnS]; rw [if_neg hk, if_neg ho]
        rw [hf] at ho
        refine ⟨⟨a, by omega, by rw [e, hf], by omega, fun j h1 h2 => ?_⟩, by rw [e]; exact ht, by rw [e, hf]; exact hc⟩
        rcases Nat.lt_or_ge j i with h | h
        · exact hno j h1 h
        · have : j = i := by omega
          subst this; exact hk

def endAt (s : ByteArray) (k : Nat) : Nat := if k = 0 then 0 else ((lnA s).getD (k - 1) (0, 0)).2
theorem lnA_len (s : ByteArray) : (lnA s).length = (lnL s).length := by simp [lnL]
theorem ln_facts {s : ByteArray} {k : Nat} {p : Nat × Nat} (h : (lnA s)[k]? = some p) : (∃ m, LineIs s p m ∧ (k + 1 = (lnA s).length → m = false ∧ p.2 = s.size)) ∧ p.1 = endAt s k ∧ (k + 1 < (lnA s).length → p.1 < p.2) := by
  obtain ⟨⟨a, ha, hf, hl, hno⟩, ht, hc⟩ := ln_inv s (ncl s) (Nat.le_refl _)
  have hbe := bp_end s
  have hlen : (lnA s).length = (lnS s (ncl s)).2.length + 1 := by simp [lnA]
  have hkl := (List.getElem?_eq_some_iff.1 h).1
  have hch : Chain 0 (lnA s) s.size := hc.snoc
  refine ⟨?_, ?_, ?_⟩
  · by_cases hk : k < (lnS s (ncl s)).2.length
    · have h2 : (lnS s (ncl s)).2[k]? = some p := by unfold lnA at h; rwa [List.getElem?_append_left hk] at h
      obtain ⟨⟨m, hm⟩, _⟩ := ht p (List.mem_of_getElem? h2)
      exact ⟨m, hm, fun e => by omega⟩
    · have hk2 : k = (lnS s (ncl s)).2.length := by omega
      have h2 : p = (bp s a, bp s (ncl s)) := by
        unfold lnA at h
        rw [hk2, List.getElem?_append_right (Nat.le_refl _), Nat.sub_self] at h
        simp only [List.getElem?_cons_zero, Option.some.injEq] at h
        rw [← h, hf, hbe]
      subst h2
      refine ⟨false, ⟨a, ncl s, ha, Nat.le_refl _, rfl, hl, fun j h1 h2 => hno j h1 (by omega), ?_⟩, fun _ => ⟨rfl, hbe⟩⟩
      constructor
      · intro h; cases h
      · rintro ⟨h1, h2⟩; exact absurd h2 (hno _ (by omega) (by omega))
  · have := Chain.at (a := 0) (e := s.size) hch h
    rw [this]; rfl
  · intro hk
    have h2 : (lnS s (ncl s)).2[k]? = some p := by unfold lnA at h; rwa [List.getElem?_append_left (by omega)] at h
    exact (ht p (List.mem_of_getElem? h2)).2
def lmB (t : ByteArray) : Bool := decide (0 < ncl t) && decide (whereI t (ncl t - 1) = 2)
def lastB (s : ByteArray) (k : Nat) : Bool := if k = 0 then false else lmB ((lnL s).getD (k - 1) (0, ⟨#[]⟩)).2
theorem line_lm {s : ByteArray} {p : Nat × Nat} {m : Bool} (h : LineIs s p m) : m = lmB (lnP s p).2 := by
  have := (line_where h).2
  unfold lmB
  rw [Bool.eq_iff_iff, this]
  simp
theorem line_border {s : ByteArray} {p : Nat × Nat} {m : Bool} (h : LineIs s p m) : (∃ i, i ≤ ncl s ∧ bp s i = p.2) ∧ p.1 ≤ p.2 ∧ p.2 ≤ s.size ∧ p.2 ≤ p.1 + 65536 := by
  obtain ⟨a, b, h1, h2, rfl, h4, _, _⟩ := h
  have := bp_mono s h1
  exact ⟨⟨b, h2, rfl⟩, this, bp_le s b, h4⟩

end Go.Proofs.YthpjkgoahneldaaDoor
end

section
/-
  Words in plain words: a cluster's sort; when a segment goes on; the segments of a row of clusters; cut at a border they are those of the parts.
-/
namespace Go.Proofs.YthpjkgoahneldaaDoor.Wd
open Orb

/-- May a cluster that joins b stand between x and y? -/
def Jn (b x y : Nat) : Prop := 3 ≤ b ∧ x = b ∧ y = b
instance (b x y : Nat) : Decidable (Jn b x y) := by unfold Jn; infer_instance
/-- Does the segment with cluster i go on with the next? n clusters, their sorts k, what they join b. -/
def GoW (n : Nat) (k b : Nat → Nat) (i : Nat) : Prop :=
  i + 1 < n ∧ (3 ≤ k i ∧ 3 ≤ k (i + 1) ∨ k i = 1 ∧ k (i + 1) = 1 ∨ 3 ≤ k i ∧ i + 2 < n ∧ Jn (b (i + 1)) (k i) (k (i + 2)) ∨ 3 ≤ k (i + 1) ∧ 0 < i ∧ Jn (b i) (k (i - 1)) (k (i + 1)))
instance (n : Nat) (k b : Nat → Nat) (i : Nat) : Decidable (GoW n k b i) := by unfold GoW; infer_instance
def runW (n : Nat) (k b : Nat → Nat) : Nat → Nat → Nat
  | 0, _ => 1
  | f + 1, i => if GoW n k b i then runW n k b f (i + 1) + 1 else 1
/-- How many clusters the segment that begins at i has. -/
def segF (n : Nat) (k b : Nat → Nat) (i : Nat) : Nat := runW n k b (n - 1 - i) i

variable {n : Nat} {k b : Nat → Nat}

theorem run_bd : ∀ f i, 1 ≤ runW n k b f i ∧ runW n k b f i ≤ f + 1
  | 0, _ => by simp [runW]
  | f + 1, i => by
    have := run_bd f (i + 1)
    simp only [runW]
    split <;> omega
theorem run_mid : ∀ f i j, i ≤ j → j + 1 < i + runW n k b f i → GoW n k b j
  | 0, i, j, h1, h2 => by simp only [runW] at h2; omega
  | f + 1, i, j, h1, h2 => by
    simp only [runW] at h2
    split at h2
    · rename_i hg
      by_cases hj : j = i
      · subst hj; exact hg
      · exact run_mid f (i + 1) j (by omega) (by omega)
    · omega
theorem run_end : ∀ f i, runW n k b f i = f + 1 ∨ ¬ GoW n k b (i + runW n k b f i - 1)
  | 0, _ => .inl rfl
  | f + 1, i => by
    simp only [runW]
    split
    · have h1 := (run_bd (n := n) (k := k) (b := b) f (i + 1)).1
      rcases run_end f (i + 1) with h | h
      · exact .inl (by omega)
      · right; rwa [show i + (runW n k b f (i + 1) + 1) - 1 = i + 1 + runW n k b f (i + 1) - 1 from by omega]
    · rename_i hg
      exact .inr hg
theorem seg_fit : Fit n (segF n k b) := by
  intro i hi
  have := run_bd (n := n) (k := k) (b := b) (n - 1 - i) i
  unfold segF; omega
theorem seg_mid {i j : Nat} (h1 : i ≤ j) (h2 : j + 1 < i + segF n k b i) : GoW n k b j := run_mid _ i j h1 h2
theorem seg_end {i : Nat} (hi : i < n) : ¬ GoW n k b (i + segF n k b i - 1) := by
  rcases run_end (n := n) (k := k) (b := b) (n - 1 - i) i with h | h
  · unfold segF; rw [h]; intro hg; have := hg.1; omega
  · exact h
theorem seg_one {i d : Nat} (hi : i < n) (hd : 1 ≤ d) (hm : ∀ j, i ≤ j → j + 1 < i + d → GoW n k b j) (he : ¬ GoW n k b (i + d - 1)) : segF n k b i = d := by
  have h1 := (seg_fit (n := n) (k := k) (b := b) i hi).1
  rcases Nat.lt_trichotomy (segF n k b i) d with h | h | h
  · exact absurd (hm (i + segF n k b i - 1) (by omega) (by omega)) (seg_end hi)
  · exact h
  · exact absurd (seg_mid (i := i) (j := i + d - 1) (by omega) (by omega)) he

/-- A border: no segment goes over it. -/
def Bd (n : Nat) (k b : Nat → Nat) (c : Nat) : Prop := c = 0 ∨ ¬ GoW n k b (c - 1)
theorem orb_bd {i : Nat} (hi : i ≤ orbN n (segF n k b)) : Bd n k b (orb n (segF n k b) i) := by
  rcases i with _ | i
  · exact .inl rfl
  · have hl := (orb_lt seg_fit).1 (show i < orbN n (segF n k b) by omega)
    right
    rw [orb_succ hl]
    exact seg_end hl

theorem go_drop {n' c j : Nat} {k' b' : Nat → Nat} (hn : n' + c = n) (hc : Bd n k b c) (hk : ∀ j, j < n' → k' j = k (c + j)) (hb : ∀ j, j < n' → b' j = b (c + j)) (hj : j < n') : GoW n' k' b' j ↔ GoW n k b (c + j) := by
  unfold GoW
  constructor
  · rintro ⟨h1, h⟩
    refine ⟨by omega, ?_⟩
    rw [hk j hj, hk (j + 1) (by omega)] at h
    rcases h with h | h | ⟨h2, h3, h4⟩ | ⟨h2, h3, h4⟩
    · exact .inl h
    · exact .inr (.inl h)
    · rw [hb (j + 1) (by omega), hk (j + 2) h3] at h4
      exact .inr (.inr (.inl ⟨h2, by omega, h4⟩))
    · rw [hb j hj, hk (j - 1) (by omega), show c + (j - 1) = c + j - 1 from by omega] at h4
      exact .inr (.inr (.inr ⟨h2, by omega, h4⟩))
  · rintro ⟨h1, h⟩
    refine ⟨by omega, ?_⟩
    rw [hk j hj, hk (j + 1) (by omega)]
    rcases h with h | h | ⟨h2, h3, h4⟩ | ⟨h2, h3, h4⟩
    · exact .inl h
    · exact .inr (.inl h)
    · rw [hb (j + 1) (by omega), hk (j + 2) (by omega)]
      exact .inr (.inr (.inl ⟨h2, by omega, h4⟩))
    · by_cases h0 : 0 < j
      · rw [hb j hj, hk (j - 1) (by omega), show c + (j - 1) = c + j - 1 from by omega]
        exact .inr (.inr (.inr ⟨h2, h0, h4⟩))
      · exfalso
        have e : j = 0 := by omega
        subst e
        rcases hc with hc | hc
        · omega
        · refine hc ⟨by omega, .inr (.inr (.inl ⟨?_, by omega, ?_⟩))⟩
          · have := h4.1; have := h4.2.1; simp only [Nat.add_zero] at *; omega
          · rw [show c - 1 + 1 = c + 0 from by omega, show c - 1 + 2 = c + 0 + 1 from by omega]; exact h4
theorem seg_drop {n' c j : Nat} {k' b' : Nat → Nat} (hn : n' + c = n) (hc : Bd n k b c) (hk : ∀ j, j < n' → k' j = k (c + j)) (hb : ∀ j, j < n' → b' j = b (c + j)) (hj : j < n') : segF n' k' b' j = segF n k b (c + j) := by
  have h1 := seg_fit (n := n) (k := k) (b := b) (c + j) (by omega)
  refine seg_one hj h1.1 (fun i h2 h3 => ?_) (fun h => ?_)
  · exact (go_drop hn hc hk hb (by omega)).2 (seg_mid (i := c + j) (by omega) (by omega))
  · have h' := (go_drop hn hc hk hb (by omega)).1 h
    rw [show c + (j + segF n k b (c + j) - 1) = c + j + segF n k b (c + j) - 1 from by omega] at h'
    exact seg_end (by omega) h'
theorem go_take {c j : Nat} {k' b' : Nat → Nat} (hn : c ≤ n) (hc : Bd n k b c) (hk : ∀ j, j < c → k' j = k j) (hb : ∀ j, j < c → b' j = b j) (hj : j + 1 < c) : GoW c k' b' j ↔ GoW n k b j := by
  unfold GoW
  rw [hk j (by omega), hk (j + 1) (by omega)]
  constructor
  · rintro ⟨h1, h⟩
    refine ⟨by omega, ?_⟩
    rcases h with h | h | ⟨h2, h3, h4⟩ | ⟨h2, h3, h4⟩
    · exact .inl h
    · exact .inr (.inl h)
    · rw [hb (j + 1) (by omega), hk (j + 2) h3] at h4
      exact .inr (.inr (.inl ⟨h2, by omega, h4⟩))
    · rw [hb j (by omega), hk (j - 1) (by omega)] at h4
      exact .inr (.inr (.inr ⟨h2, h3, h4⟩))
  · rintro ⟨h1, h⟩
    refine ⟨hj, ?_⟩
    rcases h with h | h | ⟨h2, h3, h4⟩ | ⟨h2, h3, h4⟩
    · exact .inl h
    · exact .inr (.inl h)
    · by_cases h0 : j + 2 < c
      · rw [hb (j + 1) (by omega), hk (j + 2) h0]
        exact .inr (.inr (.inl ⟨h2, h0, h4⟩))
      · exfalso
        have e : c = j + 2 := by omega
        rcases hc with hc | hc
        · omega
        · refine hc ⟨by omega, .inr (.inr (.inr ⟨?_, by omega, ?_⟩))⟩
          · rw [show c - 1 + 1 = j + 2 from by omega]; have := h4.1; have := h4.2.2; omega
          · rw [show c - 1 = j + 1 from by omega, show j + 1 - 1 = j from rfl, show j + 1 + 1 = j + 2 from rfl]; exact h4
    · rw [hb j (by omega), hk (j - 1) (by omega)]
      exact .inr (.inr (.inr ⟨h2, h3, h4⟩))
theorem seg_take {c j : Nat} {k' b' : Nat → Nat} (hn : c ≤ n) (hc : Bd n k b c) (hk : ∀ j, j < c → k' j = k j) (hb : ∀ j, j < c → b' j = b j) (hj : j < c) (he : j + segF n k b j ≤ c) : segF c k' b' j = segF n k b j := by
  have h1 := seg_fit (n := n) (k := k) (b := b) j (by omega)
  refine seg_one hj h1.1 (fun i h2 h3 => (go_take hn hc hk hb (by omega)).2 (seg_mid (i := j) h2 h3)) (fun h => ?_)
  have h2 := h.1
  exact seg_end (by omega) ((go_take hn hc hk hb h2).1 h)

/-! ### The program's way: a segment begins at p, its clusters up to i are gone over -/
/-- What is known when the segment that begins at p has taken the clusters up to i. -/
def InvW (n : Nat) (k b : Nat → Nat) (p i : Nat) : Prop :=
  p < i ∧ i ≤ n ∧ Bd n k b p ∧ (∀ j, p ≤ j → j + 1 < i → GoW n k b j) ∧
  (k p = 1 ∧ k (i - 1) = 1 ∨ 3 ≤ k p ∧ (3 ≤ k (i - 1) ∨ p + 1 < i ∧ i < n ∧ 3 ≤ k i ∧ b (i - 1) = k (i - 2) ∧ k i = k (i - 2) ∧ 3 ≤ k (i - 2)) ∨ k p ≠ 1 ∧ k p < 3 ∧ i = p + 1)
theorem inv_start {p : Nat} (hp : p < n) (hb : Bd n k b p) : InvW n k b p (p + 1) := by
  refine ⟨by omega, hp, hb, fun j h1 h2 => by omega, ?_⟩
  simp only [Nat.add_sub_cancel]
  by_cases h1 : k p = 1
  · exact .inl ⟨h1, h1⟩
  · by_cases h3 : 3 ≤ k p
    · exact .inr (.inl ⟨h3, .inl h3⟩)
    · exact .inr (.inr ⟨h1, by omega, trivial⟩)
/-- What the program's test says. -/
def JoinW (n : Nat) (k b : Nat → Nat) (p i : Nat) : Prop :=
  k p = 1 ∧ k i = 1 ∨ (3 ≤ k (i - 1) ∨ p + 1 < i) ∧ 3 ≤ k p ∧ (3 ≤ k i ∨ k i < 3 ∧ 3 ≤ k (i - 1) ∧ i + 1 < n ∧ b i = k (i - 1) ∧ k (i + 1) = k (i - 1))
instance (n : Nat) (k b : Nat → Nat) (p i : Nat) : Decidable (JoinW n k b p i) := by unfold JoinW; infer_instance
theorem join_go (hbk : ∀ j, j < n → b j ≠ 0 → k j = 0) (h34 : ∀ j, b j = 0 ∨ 3 ≤ b j) {p i : Nat} (h : InvW n k b p i) (hi : i < n) : JoinW n k b p i ↔ GoW n k b (i - 1) := by
  obtain ⟨h1, h2, h3, h4, h5⟩ := h
  unfold JoinW GoW Jn
  rw [show i - 1 + 1 = i from by omega, show i - 1 + 2 = i + 1 from by omega]
  have hbi := hbk i hi
  have hbi1 := hbk (i - 1) (by omega)
  have h34i := h34 i
  have h34p := h34 (i - 1)
  rcases h5 with ⟨ha, hb⟩ | ⟨ha, hb⟩ | ⟨ha, hb, rfl⟩
  · have hz : b (i - 1) = 0 := by omega
    constructor
    · intro h; omega
    · rintro ⟨_, h | h | ⟨h, _⟩ | ⟨_, _, h, _⟩⟩ <;> omega
  · constructor
    · rintro (h | ⟨_, _, h | ⟨h6, h7, h8, h9, h10⟩⟩)
      · omega
      · rcases hb with hb | ⟨h6, h7, h8, h9, h10, h11⟩
        · exact ⟨by omega, .inl ⟨hb, h⟩⟩
        · refine ⟨by omega, .inr (.inr (.inr ⟨h, by omega, by omega, ?_, by omega⟩))⟩
          rw [show i - 1 - 1 = i - 2 from by omega]; omega
      · exact ⟨by omega, .inr (.inr (.inl ⟨h7, h8, by omega, by omega, by omega⟩))⟩
    · rintro ⟨_, h⟩
      rcases hb with hb | ⟨h6, h7, h8, h9, h10, h11⟩
      · right
        refine ⟨.inl hb, ha, ?_⟩
        rcases h with h | h | ⟨h6, h7, h8⟩ | ⟨h6, _⟩
        · exact .inl h.2
        · omega
        · by_cases h9 : 3 ≤ k i
          · exact .inl h9
          · exact .inr ⟨by omega, hb, h7, by omega, by omega⟩
        · exact .inl h6
      · exact .inr ⟨.inr h6, ha, .inl h8⟩
  · simp only [Nat.add_sub_cancel] at *
    constructor
    · rintro (h | ⟨_, h, _⟩) <;> omega
    · rintro ⟨hl, h | h | ⟨h, _⟩ | ⟨h6, h7, h8, h9, h10⟩⟩
      · omega
      · omega
      · omega
      · exfalso
        rcases h3 with h3 | h3
        · omega
        · refine h3 ⟨by omega, .inr (.inr (.inl ⟨by omega, by omega, ?_⟩))⟩
          rw [show p - 1 + 1 = p from by omega, show p - 1 + 2 = p + 1 from by omega]
          exact ⟨h8, h9, h10⟩
theorem inv_next (hbk : ∀ j, j < n → b j ≠ 0 → k j = 0) (h34 : ∀ j, b j = 0 ∨ 3 ≤ b j) {p i : Nat} (h : InvW n k b p i) (hi : i < n) (hj : JoinW n k b p i) : InvW n k b p (i + 1) := by
  have hg := (join_go hbk h34 h hi).1 hj
  obtain ⟨h1, h2, h3, h4, h5⟩ := h
  refine ⟨by omega, hi, h3, fun j h6 h7 => ?_, ?_⟩
  · by_cases hl : j + 1 < i
    · exact h4 j h6 hl
    · rwa [show j = i - 1 from by omega]
  · simp only [Nat.add_sub_cancel]
    rw [show i + 1 - 2 = i - 1 from by omega]
    rcases hj with h | ⟨_, h6, h7 | ⟨h7, h8, h9, h10, h11⟩⟩
    · exact .inl h
    · exact .inr (.inl ⟨h6, .inl h7⟩)
    · exact .inr (.inl ⟨h6, .inr ⟨by omega, h9, by omega, h10, h11, h8⟩⟩)
/-- Where the test fails, or the row ends, the segment ends. -/
theorem inv_seg (hbk : ∀ j, j < n → b j ≠ 0 → k j = 0) (h34 : ∀ j, b j = 0 ∨ 3 ≤ b j) {p i : Nat} (h : InvW n k b p i) (he : i = n ∨ i < n ∧ ¬ JoinW n k b p i) : segF n k b p = i - p := by
  have h' := h
  obtain ⟨h1, h2, h3, h4, h5⟩ := h
  refine seg_one (by omega) (by omega) (fun j h6 h7 => h4 j h6 (by omega)) ?_
  rw [show p + (i - p) - 1 = i - 1 from by omega]
  rcases he with rfl | ⟨hl, hj⟩
  · intro hg; have := hg.1; omega
  · exact fun hg => hj ((join_go hbk h34 h' hl).2 hg)

end Go.Proofs.YthpjkgoahneldaaDoor.Wd
end

section
/-
  Words in plain words, second part: a text's segments.
-/
namespace Go.Proofs.YthpjkgoahneldaaDoor
open Go Vc Ut Tb Cl Orb Wd

/-- A cluster's sort, as the program counts: 0 other, 1 blank, 2 alone, 3 letter, 4 digit. -/
def sortC (c : ByteArray) : Nat :=
  if nxR c = 65533 ∧ nxN c < 2 then 0
  else if kindR (nxR c) = 3 ∧ brkR (nxR c) = 7 then 2
  else if kindR (nxR c) = 3 ∨ kindR (nxR c) = 2 ∨ nxR c = 95 then 3
  else if kindR (nxR c) = 4 then 4
  else if nxR c = 9 ∨ (kindR (nxR c) = 5 ∧ brkR (nxR c) ≠ 2) then 1 else 0
/-- The same, as the document counts. -/
def sortQ : Nat → Nat
  | 1 => 4
  | 2 => 3
  | 3 => 1
  | 4 => 2
  | _ => 0
def betC (c : ByteArray) : Nat :=
  if c = ⟨#[39]⟩ ∨ c = ⟨#[226, 128, 153]⟩ ∨ c = ⟨#[194, 183]⟩ ∨ c = ⟨#[58]⟩ then 3 else if c = ⟨#[46]⟩ ∨ c = ⟨#[44]⟩ then 4 else 0
theorem bet34 (c : ByteArray) : betC c = 0 ∨ 3 ≤ betC c := by
  unfold betC; split
  · exact .inr (by omega)
  · split
    · exact .inr (by omega)
    · exact .inl rfl
theorem bet_le (c : ByteArray) : betC c ≤ 4 := by
  unfold betC; split
  · omega
  · split <;> omega
theorem bet_sort {c : ByteArray} (h : betC c ≠ 0) : sortC c = 0 := by
  have : (c = ⟨#[39]⟩ ∨ c = ⟨#[226, 128, 153]⟩ ∨ c = ⟨#[194, 183]⟩ ∨ c = ⟨#[58]⟩) ∨ c = ⟨#[46]⟩ ∨ c = ⟨#[44]⟩ := by
    unfold betC at h
    split at h
    · rename_i h1; exact .inl h1
    · split at h
      · rename_i _ h1; exact .inr h1
      · exact absurd rfl h
  rcases this with (h | h | h | h) | h | h
  all_goals (rw [h]; decide +kernel)
theorem sort_le (c : ByteArray) : sortC c ≤ 4 := by
  unfold sortC
  repeat' split
  all_goals omega
def kw (s : ByteArray) (i : Nat) : Nat := sortC (pcP s i).2
def bw (s : ByteArray) (i : Nat) : Nat := betC (pcP s i).2
abbrev sgW (s : ByteArray) : Nat → Nat := segF (ncl s) (kw s) (bw s)
/-- At which cluster segment k begins; how many segments; at which place; the segment. -/
def wb (s : ByteArray) (k : Nat) : Nat := orb (ncl s) (sgW s) k
def wn (s : ByteArray) : Nat := orbN (ncl s) (sgW s)
def wp (s : ByteArray) (k : Nat) : Nat := bp s (wb s k)
def wdP (s : ByteArray) (k : Nat) : Nat × ByteArray := (wp s k, s.extract (wp s k) (wp s (k + 1)))
def wdL (s : ByteArray) : List (Nat × ByteArray) := (List.range (wn s)).map (wdP s)

theorem kw_bw (s : ByteArray) (j : Nat) (_ : j < ncl s) (h : bw s j ≠ 0) : kw s j = 0 := bet_sort h
theorem bw_34 (s : ByteArray) (j : Nat) : bw s j = 0 ∨ 3 ≤ bw s j := bet34 _
theorem wb_le (s : ByteArray) (k : Nat) : wb s k ≤ ncl s := orb_le seg_fit k
theorem wb_end (s : ByteArray) : wb s (wn s) = ncl s := orb_end seg_fit
theorem wb_lt {s : ByteArray} {k : Nat} : k < wn s ↔ wb s k < ncl s := orb_lt seg_fit
theorem wb_mono (s : ByteArray) {i j : Nat} (h : i ≤ j) : wb s i ≤ wb s j := orb_mono h
theorem wb_succ {s : ByteArray} {k : Nat} (h : k < wn s) : wb s (k + 1) = wb s k + sgW s (wb s k) := orb_succ (wb_lt.1 h)
theorem wb_step {s : ByteArray} {k : Nat} (h : k < wn s) : wb s k < wb s (k + 1) := by
  have h1 : 1 ≤ sgW s (wb s k) := (seg_fit (n := ncl s) (k := kw s) (b := bw s) _ (wb_lt.1 h)).1
  rw [wb_succ h]; omega
theorem wn_le (s : ByteArray) : wn s ≤ ncl s := orbN_le seg_fit
theorem wb_bd {s : ByteArray} {k : Nat} (h : k ≤ wn s) : Bd (ncl s) (kw s) (bw s) (wb s k) := orb_bd h
theorem wp_zero (s : ByteArray) : wp s 0 = 0 := rfl
theorem wp_le (s : ByteArray) (k : Nat) : wp s k ≤ s.size := bp_le s _
theorem wp_end (s : ByteArray) : wp s (wn s) = s.size := by unfold wp; rw [wb_end, bp_end]
theorem wp_mono (s : ByteArray) {i j : Nat} (h : i ≤ j) : wp s i ≤ wp s j := bp_mono s (wb_mono s h)
theorem wp_step {s : ByteArray} {k : Nat} (h : k < wn s) : wp s k < wp s (k + 1) := bp_strict (wb_step h) (wb_lt.1 h)
theorem wp_strict {s : ByteArray} {i j : Nat} (h : i < j) (hi : i < wn s) : wp s i < wp s j := Nat.lt_of_lt_of_le (wp_step hi) (wp_mono s h)
theorem wd_len (s : ByteArray) : (wdL s).length = wn s := by simp [wdL]
theorem wd_at (s : ByteArray) (k : Nat) : (wdL s)[k]? = if k < wn s then some (wdP s k) else none := by
  unfold wdL
  rw [List.getElem?_map]
  split
  · rename_i h; rw [List.getElem?_range h]; rfl
  · rename_i h; rw [List.getElem?_eq_none (by simp; omega)]; rfl

/-! ### Cut at a border -/
theorem drop_piece (s : ByteArray) (f : Nat) : s.extract (bp s f) s.size = pieceS s f (ncl s) := by unfold pieceS; rw [bp_end]
theorem take_piece (s : ByteArray) (e : Nat) : s.extract 0 (bp s e) = pieceS s 0 e := rfl
theorem wd_drop {s : ByteArray} {i : Nat} (hi : i ≤ wn s) : wn (s.extract (wp s i) s.size) + i = wn s ∧ (∀ k, wb (s.extract (wp s i) s.size) k + wb s i = wb s (i + k)) ∧ ∀ k, wp (s.extract (wp s i) s.size) k + wp s i = wp s (i + k) := by
  have hle := wb_le s i
  have hn : ncl (s.extract (wp s i) s.size) + wb s i = ncl s := by
    have := ncl_drop (s := s) (k := wb s i) hle
    unfold wp; omega
  have hpc : ∀ j, j < ncl (s.extract (wp s i) s.size) → (pcP (s.extract (wp s i) s.size) j).2 = (pcP s (wb s i + j)).2 := by
    intro j hj
    unfold wp
    rw [drop_piece]
    exact piece_pc hle (Nat.le_refl _) (by omega)
  have hf : ∀ j, j < ncl (s.extract (wp s i) s.size) → sgW (s.extract (wp s i) s.size) j = sgW s (orb (ncl s) (sgW s) i + j) := fun j hj =>
    seg_drop hn (wb_bd hi) (fun j hj => by unfold kw; rw [hpc j hj]; rfl) (fun j hj => by unfold bw; rw [hpc j hj]; rfl) hj
  have h2 : ∀ k, wb (s.extract (wp s i) s.size) k + wb s i = wb s (i + k) := orb_drop seg_fit hi hn hf
  refine ⟨orbN_drop seg_fit hi hn hf, h2, fun k => ?_⟩
  have := bp_drop (s := s) (k := wb s i) hle (wb (s.extract (wp s i) s.size) k)
  rw [Nat.add_comm (wb s i), h2 k] at this
  exact this
theorem wd_take {s : ByteArray} {i : Nat} (hi : i ≤ wn s) : wn (s.extract 0 (wp s i)) = i ∧ ∀ k, k ≤ i → wb (s.extract 0 (wp s i)) k = wb s k ∧ wp (s.extract 0 (wp s i)) k = wp s k := by
  have hle := wb_le s i
  have hn : ncl (s.extract 0 (wp s i)) = wb s i := ncl_take hle
  have hpc : ∀ j, j < wb s i → (pcP (s.extract 0 (wp s i)) j).2 = (pcP s j).2 := by
    intro j hj
    have := piece_pc (s := s) (f := 0) (e := wb s i) (i := j) (Nat.zero_le _) hle (by omega)
    rw [Nat.zero_add] at this
    exact this
  have hf : ∀ j, j < i → segF (wb s i) (kw (s.extract 0 (wp s i))) (bw (s.extract 0 (wp s i))) (orb (ncl s) (sgW s) j) = sgW s (orb (ncl s) (sgW s) j) := fun j hj =>
    seg_take hle (wb_bd hi) (fun j hj => by unfold kw; rw [hpc j hj]) (fun j hj => by unfold bw; rw [hpc j hj]) (Nat.lt_of_lt_of_le (wb_step (by omega)) (wb_mono s hj)) (orb_strict seg_fit hj (Nat.lt_of_lt_of_le hj hi))
  have h1 : wn (s.extract 0 (wp s i)) = i := by
    unfold wn; rw [show sgW (s.extract 0 (wp s i)) = segF (wb s i) (kw (s.extract 0 (wp s i))) (bw (s.extract 0 (wp s i))) from by unfold sgW; rw [hn], hn]
    exact orbN_take seg_fit hi hf seg_fit
  have h2 : ∀ k, k ≤ i → wb (s.extract 0 (wp s i)) k = wb s k := by
    intro k hk
    unfold wb; rw [show sgW (s.extract 0 (wp s i)) = segF (wb s i) (kw (s.extract 0 (wp s i))) (bw (s.extract 0 (wp s i))) from by unfold sgW; rw [hn], hn]
    exact orb_take seg_fit hi hf k hk
  refine ⟨h1, fun k hk => ⟨h2 k hk, ?_⟩⟩
  show bp _ (wb (s.extract 0 (wp s i)) k) = _
  rw [h2 k hk]
  exact bp_take hle (wb_mono s hk)
theorem wdL_take {s : ByteArray} {n : Nat} (hn : n ≤ wn s) : (wdL s).take n = wdL (s.extract 0 (wp s n)) := by
  obtain ⟨h1, h2⟩ := wd_take hn
  apply List.ext_getElem?
  intro k
  rw [wd_at, h1, List.getElem?_take]
  split
  · rename_i h
    rw [wd_at, if_pos (by omega)]
    unfold wdP
    rw [(h2 k (by omega)).2, (h2 (k + 1) (by omega)).2, ext2 (by have := wp_mono s (show k + 1 ≤ n by omega); omega), Nat.zero_add, Nat.zero_add]
  · rfl
theorem wdL_drop {s : ByteArray} {n : Nat} (hn : n ≤ wn s) : (wdL s).drop n = (wdL (s.extract (wp s n) s.size)).map fun p => (p.1 + wp s n, p.2) := by
  obtain ⟨h1, _, h2⟩ := wd_drop hn
  apply List.ext_getElem?
  intro k
  rw [List.getElem?_drop, List.getElem?_map, wd_at, wd_at]
  by_cases h : n + k < wn s
  · rw [if_pos h, if_pos (by omega)]
    have h3 := h2 k
    have h4 := h2 (k + 1)
    have h5 := wp_le s (n + (k + 1))
    unfold wdP
    simp only [Option.map_some]
    rw [ext2 (by omega), h3, show wp s n + wp (s.extract (wp s n) s.size) k = wp s (n + k) from by omega, show wp s n + wp (s.extract (wp s n) s.size) (k + 1) = wp s (n + k + 1) from by rw [Nat.add_assoc]; omega]
  · rw [if_neg h, if_neg (by omega)]; rfl
/-- A segment's first cluster is its own first cluster. -/
theorem wd_first {s : ByteArray} {k : Nat} (h : k < wn s) : ncl (wdP s k).2 = wb s (k + 1) - wb s k ∧ (pcP (wdP s k).2 0).2 = (pcP s (wb s k)).2 ∧ 0 < ncl (wdP s k).2 := by
  have h1 := wb_step h
  have h2 := wb_le s (k + 1)
  have e : (wdP s k).2 = pieceS s (wb s k) (wb s (k + 1)) := rfl
  have h3 := piece_ncl (s := s) (f := wb s k) (e := wb s (k + 1)) (by omega) h2
  rw [e, h3]
  refine ⟨rfl, ?_, by omega⟩
  have := piece_pc (s := s) (f := wb s k) (e := wb s (k + 1)) (i := 0) (by omega) h2 (by omega)
  rwa [Nat.add_zero] at this

end Go.Proofs.YthpjkgoahneldaaDoor
end

section
/-
  Specifications, chapter 12: a cluster's sort, what joins, the segments.
-/
namespace Go.Proofs.YthpjkgoahneldaaDoor
open Go Go.RowKit Vc Ut Tb Cl Wd

def spSortP : List (Nat × CallSpec) := [(63, sDec nxR nxN), (75, sRuneX .i8 kindR), (64, sRuneX .i8 brkR)]
def spSortR : List (Nat × CallSpec) := [(80, sSigns), (102, sRune .i8 kindR), (87, sRune .i8 brkR)]
/-- The document's sort, of a text that is not empty. -/
def sSortR : CallSpec where
  G := ByteArray
  args := fun s => #[.string s]
  pre := fun s w => U8 w ∧ s.size ≤ 67108864 ∧ 0 < s.size
  X := Nat
  res := fun x => .int .i64 x
  post := fun s w x w' => x = sortQ (sortC s) ∧ Ext w w'
def sBet : CallSpec where
  G := ByteArray
  args := fun s => #[.string s]
  pre := fun _ _ => True
  X := Nat
  res := fun x => .int .i64 x
  post := fun s w x w' => x = betC s ∧ w' = w
def sJoins : CallSpec where
  G := ByteArray × Nat × Nat
  args := fun g => #[.string g.1, .int .i64 (sortQ g.2.1 : Nat), .int .i64 (sortQ g.2.2 : Nat)]
  pre := fun g _ => g.2.1 ≤ 4 ∧ g.2.2 ≤ 4
  X := Bool
  res := fun x => .bool x
  post := fun g w x w' => x = decide (Jn (betC g.1) g.2.1 g.2.2) ∧ w' = w
/-- The clusters' sorts, the document's and the program's numbers. -/
def ksQ (s : ByteArray) : List Int := (List.range (ncl s)).map fun i => ((sortQ (kw s i) : Nat) : Int)
def ksP (s : ByteArray) : List Int := (List.range (ncl s)).map fun i => ((kw s i : Nat) : Int)
structure GGo where
  s : ByteArray
  la : Option Addr
  lc : Nat
  sa : Option Addr
  sc : Nat
  i : Nat
def sGoes12 : CallSpec where
  G := GGo
  args := fun g => #[.slice g.la (ncl g.s) g.lc, .slice g.sa (ncl g.s) g.sc, .int .i64 g.i]
  pre := fun g w => g.i < ncl g.s ∧ g.s.size ≤ 67108864 ∧ CellsAt w g.la ((pcL g.s).flatMap encPc) ∧ CellsAt w g.sa ((ksQ g.s).map (Value.int .i64))
  X := Bool
  res := fun x => .bool x
  post := fun g w x w' => x = decide (GoW (ncl g.s) (kw g.s) (bw g.s) g.i) ∧ Ext w w'
def spGoes12 : List (Nat × CallSpec) := [(103, sJoins)]

/-- The document's segments. -/
def sRAllW : CallSpec where
  G := ByteArray
  args := fun s => #[.string s]
  pre := fun s w => U8 w ∧ s.size ≤ 67108864
  X := Option Addr × Nat × Nat
  res := fun x => .slice x.1 x.2.1 x.2.2
  post := fun s w x w' => x.2.1 = wn s ∧ Made w w' 44 2 x.1 x.2.1 ((wdL s).flatMap encPc) x.2.2
structure GRw where
  i : Nat
  k : Nat
  a : Option Addr
  c : Nat
def spRAllW : List (Nat × CallSpec) := [(56, sRAllP), (66, sSortR), (67, sGoes12)]
def annRAllW (s : ByteArray) (_ : World) : Ann where
  sp := spRAllW
  loops := [(4, {
    X := Nat × Option Addr × Nat
    sh := fun _ x => [(5, .int .i64 x.1), (4, .slice x.2.1 x.1 x.2.2)]
    inv := fun _ w0 x w => x.1 ≤ ncl s ∧ Made w0 w 3 1 x.2.1 x.1 (((ksQ s).take x.1).map (Value.int .i64)) x.2.2
    mu := fun _ _ x _ => ncl s - x.1 }), (10, {
    X := GRw
    sh := fun _ x => [(8, .int .i64 x.i), (7, .int .i64 (wp s x.k)), (6, .slice x.a x.k x.c)]
    inv := fun _ w0 x w => (x.i = ncl s ∧ x.k = wn s ∨ x.i < ncl s ∧ x.k < wn s ∧ wb s x.k ≤ x.i ∧ x.i < wb s (x.k + 1)) ∧ Made w0 w 44 2 x.a x.k (((wdL s).take x.k).flatMap encPc) x.c
    mu := fun _ _ x _ => ncl s - x.i })]

/-- Where the segments end; of which sort what they begin with is. -/
def endsW (s : ByteArray) : List Int := (List.range (wn s)).map fun k => ((wp s (k + 1) : Nat) : Int)
def sortsW (s : ByteArray) : List Int := (List.range (wn s)).map fun k => ((kw s (wb s k) : Nat) : Int)
structure GSg where
  n : Nat
  ea : Option Addr
  ec : Nat
  sa : Option Addr
  sc : Nat
def sSegs : CallSpec where
  G := ByteArray
  args := fun s => #[.string s]
  pre := fun s w => U8 w ∧ s.size ≤ 67108864
  X := GSg
  res := fun x => .tuple #[.slice x.ea x.n x.ec, .slice x.sa x.n x.sc]
  post := fun s w x w' => x.n = wn s ∧ Made w w' 3 1 x.ea x.n ((endsW s).map (Value.int .i64)) x.ec ∧ Made w w' 3 1 x.sa x.n ((sortsW s).map (Value.int .i64)) x.sc
def spSegs : List (Nat × CallSpec) := [(55, sIter 101), (104, sSN sortC), (105, sBet)]
def strV2 (p : Nat × ByteArray) : Value := .string p.2
structure Two (W : World) (bt bk : Nat) (s : ByteArray) (k : Nat) (a : Option Addr) (c : Nat) (a2 : Option Addr) (c2 : Nat) : Prop where
  t : Grow W bt 37 9 a c (((pcL s).take k).map strV2)
  k : Grow W bk 45 3 a2 c2 (((ksP s).take k).map (Value.int .i64))
  ne : ∀ q, blk a = some q → blk a2 ≠ some q
  nt : blk a2 ≠ some bt
  nk : blk a ≠ some bk
def slB (v : Value) (q : Nat) : Prop := match v with | .slice a _ _ => blk a = some q | _ => False
def annSegs (s : ByteArray) (_ : World) : Ann where
  sp := spSegs
  frees := [(21, fun e q => slB (gv e 2) q ∨ slB (gv e 3) q), (23, fun e q => slB (gv e 2) q ∨ slB (gv e 3) q)]
  cuts := [(15, 15, { X := Unit, sh := fun e _ => [(11, .int .i64 (kw s ((gi e 9).toNat - 1) : Nat)), (12, .int .i64 (kw s (gi e 9).toNat : Nat))], inv := fun _ w0 _ w => Ext w0 w }),
    (16, 16, { X := Unit, sh := fun e _ => [(13, .bool (decide (kw s (gi e 10).toNat = 1 ∧ kw s (gi e 9).toNat = 1)))], inv := fun _ w0 _ w => Ext w0 w }),
    (18, 18, { X := Unit, sh := fun e _ => [(14, .bool (decide (kw s (gi e 9).toNat < 3 ∧ 3 ≤ kw s ((gi e 9).toNat - 1) ∧ (gi e 9).toNat + 1 < ncl s ∧ bw s (gi e 9).toNat = kw s ((gi e 9).toNat - 1) ∧ kw s ((gi e 9).toNat + 1) = kw s ((gi e 9).toNat - 1))))], inv := fun _ w0 _ w => Ext w0 w }),
    (17, 19, { X := Unit, sh := fun e _ => [(13, .bool (decide (JoinW (ncl s) (kw s) (bw s) (gi e 10).toNat (gi e 9).toNat)))], inv := fun _ w0 _ w => Ext w0 w })]
  ranges := [(4, {
    α := Nat × ByteArray
    enc := encPc
    J := fun e w0 xs k D W => ∃ a c a2 c2, D = (fun q => q = ptrB (gv e 4) ∨ q = ptrB (gv e 5) ∨ blk a = some q ∨ blk a2 = some q) ∧ Two W (ptrB (gv e 4)) (ptrB (gv e 5)) s k a c a2 c2
    Jx := fun e w0 _ _ D W => (1 : Nat) = 0 })]
  loops := [(9, {
    X := GSg
    sh := fun _ x => [(9, .int .i64 (wb s x.n)), (8, .int .i64 (wp s x.n)), (2, .slice x.ea x.n x.ec), (3, .slice x.sa x.n x.sc)]
    inv := fun _ w0 x w => x.n ≤ wn s ∧ Made w0 w 3 1 x.ea x.n (((endsW s).take x.n).map (Value.int .i64)) x.ec ∧ Made w0 w 3 1 x.sa x.n (((sortsW s).take x.n).map (Value.int .i64)) x.sc ∧ (∀ q, blk x.ea = some q → blk x.sa ≠ some q)
    mu := fun _ _ x _ => wn s - x.n }), (13, {
    X := Nat
    sh := fun e i => [(9, .int .i64 i), (8, .int .i64 (bp s i)), (2, gv e 2), (3, gv e 3)]
    inv := fun e w0 i w => InvW (ncl s) (kw s) (bw s) (gi e 10).toNat i ∧ Ext w0 w
    mu := fun _ _ i _ => ncl s - i })]

/-- The iterator over a text's segments. -/
structure GWd where
  s : ByteArray
  be : Nat
  bs : Nat
  ea : Option Addr
  ec : Nat
def cWd (g : GWd) (q : Nat) : Prop := q = g.be ∨ q = g.bs ∨ blk g.ea = some q
def hWd (g : GWd) (w : World) : Prop := w.heap[g.be]? = some (.cells #[.slice g.ea (wn g.s) g.ec] 45) ∧ w.heap[g.bs]? = some (.cells #[.string g.s] 9) ∧ CellsAt w g.ea ((endsW g.s).map (Value.int .i64)) ∧ (∀ q, blk g.ea = some q → q < w.heap.size) ∧ g.s.size ≤ 67108864
def itWd : IterSpec where
  G := GWd
  cap := fun g => [.pointer (some ⟨g.be, 0, none⟩), .pointer (some ⟨g.bs, 0, none⟩)]
  xs := fun g => (wdL g.s).map encPc
  C := cWd
  pre := hWd
def annItWd (g : GWd) (i : ItG) (W : World) : Ann where
  sp := []
  yl := some (ylOf (itWd.xs g) i W)
  loops := [(2, {
    X := Nat × (Nat → Prop)
    sh := fun _ x => [(4, .int .i64 (wp g.s x.1)), (9, .int .i64 x.1)]
    inv := fun _ _ x w => x.1 ≤ wn g.s ∧ i.J x.1 x.2 w ∧ Mid W i.D0 x.2 w
    mu := fun _ _ x _ => wn g.s - x.1 })]
def sAllW : CallSpec where
  G := ByteArray
  args := fun s => #[.string s]
  pre := fun s w => U8 w ∧ s.size ≤ 67108864
  X := GWd
  res := fun g => .func (.func 69) #[] #[.pointer (some ⟨g.be, 0, none⟩), .pointer (some ⟨g.bs, 0, none⟩)]
  post := fun s w g w' => g.s = s ∧ hWd g w' ∧ (∀ q, cWd g q → w.heap.size ≤ q) ∧ Ext w w'
def spAllW : List (Nat × CallSpec) := [(68, sSegs)]

--#vc sortP_vc 104 (sSN sortC) (annOf spSortP) spSortP
--#vc sortR_vc 66 sSortR (annOf spSortR) spSortR
--#vc betw_vc 105 sBet (annOf []) []
--#vc joins_vc 103 sJoins (annOf []) []
--#vc goes12_vc 67 sGoes12 (annOf spGoes12) spGoes12
--#vc rallW_vc 30 sRAllW annRAllW spRAllW
--#vc segs_vc 68 sSegs annSegs spSegs
--#vc allW_vc 31 sAllW (annOf spAllW) spAllW
--#vci itWd_vc 69 itWd annItWd []

end Go.Proofs.YthpjkgoahneldaaDoor
end

section
/-
  Specifications, chapter 12: borders, the segment at a place, the next and the last beginning of a word.
-/
namespace Go.Proofs.YthpjkgoahneldaaDoor
open Go Go.RowKit Vc Ut Tb Cl Wd

def isW (s : ByteArray) (p : Int) : Bool := (List.range (wn s + 1)).any fun i => decide ((wp s i : Int) = p)
/-- The segment at a place: the first one that ends behind it. -/
def ixW (s : ByteArray) (p : Nat) : Nat := ((List.range (wn s)).find? fun i => decide (p < wp s (i + 1))).getD (wn s)
def atW (s : ByteArray) (p : Int) : Nat × Nat := (wp s (ixW s (clampN s p)), wp s (ixW s (clampN s p) + 1))
/-- Is segment k a word? -/
def wdB (s : ByteArray) (k : Nat) : Bool := decide (2 ≤ kw s (wb s k))
/-- The next beginning behind q, of the segments up to k; the last one ahead. -/
def nxU (s : ByteArray) (q : Nat) : Nat → Nat
  | 0 => s.size
  | k + 1 => if wdB s k = true ∧ q < wp s k ∧ wp s k < nxU s q k then wp s k else nxU s q k
def pvU (s : ByteArray) (q : Nat) : Nat → Nat
  | 0 => 0
  | k + 1 => if wdB s k = true ∧ wp s k < q then wp s k else pvU s q k
def nextW (s : ByteArray) (p : Int) : Nat := nxU s (clampN s p) (wn s)
def prevW (s : ByteArray) (p : Int) : Nat := pvU s (clampN s p) (wn s)

def sIsW : CallSpec where
  G := ByteArray × Int
  args := fun g => #[.string g.1, .int .i64 g.2]
  pre := fun g w => U8 w ∧ g.1.size ≤ 67108864
  X := Bool
  res := fun x => .bool x
  post := fun g w x w' => x = isW g.1 g.2 ∧ Ext w w'
def sAtW : CallSpec where
  G := ByteArray × Int
  args := fun g => #[.string g.1, .int .i64 g.2]
  pre := fun g w => U8 w ∧ g.1.size ≤ 67108864
  X := Nat × Nat
  res := fun x => .tuple #[.int .i64 x.1, .int .i64 x.2]
  post := fun g w x w' => x = atW g.1 g.2 ∧ Ext w w'
/-- A number out of a text and a place. -/
def sSIN (f : ByteArray → Int → Nat) : CallSpec where
  G := ByteArray × Int
  args := fun g => #[.string g.1, .int .i64 g.2]
  pre := fun g w => U8 w ∧ g.1.size ≤ 67108864
  X := Nat
  res := fun x => .int .i64 x
  post := fun g w x w' => x = f g.1 g.2 ∧ Ext w w'

def spAllW2 : List (Nat × CallSpec) := [(31, sAllW)]
def annIsW (g : ByteArray × Int) (_ : World) : Ann where
  sp := spAllW2
  ranges := [(2, {
    α := Nat × ByteArray
    enc := encPc
    exs := [.ret]
    J := fun e w0 xs k D W => D = ones [ptrB (gv e 4)] ∧ (∀ j, j < k → (wp g.1 j : Int) ≠ g.2) ∧ (∃ v, W.heap[ptrB (gv e 4)]? = some (.cells #[.bool v] 4))
    Jx := fun e w0 _ _ D W => D = ones [ptrB (gv e 4)] ∧ W.heap[ptrB (gv e 4)]? = some (.cells #[.bool (isW g.1 g.2)] 4) })]
def annAtW (g : ByteArray × Int) (_ : World) : Ann where
  sp := spAllW2
  ranges := [(3, {
    α := Nat × ByteArray
    enc := encPc
    exs := [.ret]
    J := fun e w0 xs k D W => D = ones [ptrB (gv e 4), ptrB (gv e 5)] ∧ (∀ j, j < k → wp g.1 (j + 1) ≤ clampN g.1 g.2) ∧ (∃ v u, W.heap[ptrB (gv e 4)]? = some (.cells #[.int .i64 v] 3) ∧ W.heap[ptrB (gv e 5)]? = some (.cells #[.int .i64 u] 3))
    Jx := fun e w0 _ _ D W => D = ones [ptrB (gv e 4), ptrB (gv e 5)] ∧ W.heap[ptrB (gv e 4)]? = some (.cells #[.int .i64 (atW g.1 g.2).1] 3) ∧ W.heap[ptrB (gv e 5)]? = some (.cells #[.int .i64 (atW g.1 g.2).2] 3) })]

/-! ### The document's -/
def sWordR : CallSpec where
  G := ByteArray
  args := fun s => #[.string s]
  pre := fun s w => U8 w ∧ s.size ≤ 67108864 ∧ 0 < s.size
  X := Bool
  res := fun x => .bool x
  post := fun s w x w' => x = decide (2 ≤ sortC (pcP s 0).2) ∧ Ext w w'
def spWordR : List (Nat × CallSpec) := [(78, sSN nextL), (66, sSortR)]
def spRAllW2 : List (Nat × CallSpec) := [(30, sRAllW), (70, sInto), (73, sWordR)]
def annRIsW (g : ByteArray × Int) (_ : World) : Ann where
  sp := spRAllW2
  loops := [(3, {
    X := Nat
    sh := fun _ i => [(6, .int .i64 i)]
    inv := fun _ w0 i w => i ≤ wn g.1 ∧ (∀ j, j < i → (wp g.1 j : Int) ≠ g.2) ∧ Ext w0 w
    mu := fun _ _ i _ => wn g.1 - i })]
def annRAtW (g : ByteArray × Int) (_ : World) : Ann where
  sp := spRAllW2
  loops := [(4, {
    X := Nat
    sh := fun _ i => [(8, .int .i64 i)]
    inv := fun _ w0 i w => i ≤ wn g.1 ∧ (∀ j, j < i → wp g.1 (j + 1) ≤ clampN g.1 g.2) ∧ Ext w0 w
    mu := fun _ _ i _ => wn g.1 - i })]
def annRNextW (g : ByteArray × Int) (_ : World) : Ann where
  sp := spRAllW2
  loops := [(4, {
    X := Nat
    sh := fun _ i => [(7, .int .i64 i)]
    inv := fun _ w0 i w => i ≤ wn g.1 ∧ (∀ j, j < i → ¬ (wdB g.1 j = true ∧ clampN g.1 g.2 < wp g.1 j)) ∧ Ext w0 w
    mu := fun _ _ i _ => wn g.1 - i })]
def annRPrevW (g : ByteArray × Int) (_ : World) : Ann where
  sp := spRAllW2
  loops := [(5, {
    X := Nat
    sh := fun _ i => [(8, .int .i64 i), (7, .int .i64 (pvU g.1 (clampN g.1 g.2) i))]
    inv := fun _ w0 i w => i ≤ wn g.1 ∧ Ext w0 w
    mu := fun _ _ i _ => wn g.1 - i })]

/-! ### The program's -/
structure GBg where
  s : ByteArray
  gf : Nat
  caps : Array Value
  J : Nat → World → Prop
  S : Nat → Prop
/-- The places at which words begin, told to a function. -/
def sBegs : CallSpec where
  G := GBg
  args := fun g => #[.string g.s, .func (.func g.gf) #[] g.caps]
  pre := fun g w => U8 w ∧ g.s.size ≤ 67108864 ∧ g.J 0 w ∧ CallsOf Tryd.prog g.gf ∧ (∀ q, g.S q → q < w.heap.size) ∧ (∀ k W W', g.J k W → Ext W W' → g.J k W') ∧ (∀ k W, k < wn g.s → wdB g.s k = false → g.J k W → g.J (k + 1) W) ∧
    ∀ k W, k < wn g.s → wdB g.s k = true → g.J k W → Calls Tryd.prog g.gf (#[.int .i64 (wp g.s k)] ++ g.caps) W fun e W' => e = .returned (.tuple #[]) ∧ (g.J (k + 1) W' ∧ Fr g.S W W') ∧ KO W W'
  X := Unit
  res := fun _ => .tuple #[]
  post := fun g w _ w' => g.J (wn g.s) w' ∧ Fr g.S w w'
def spBegs : List (Nat × CallSpec) := [dynMark, (68, sSegs)]
def annBegs (g : GBg) (_ : World) : Ann where
  sp := spBegs
  loops := [(3, {
    X := Nat
    sh := fun _ k => [(16, .int .i64 k), (6, .int .i64 (wp g.s k))]
    inv := fun _ w0 k w => k ≤ wn g.s ∧ g.J k w ∧ Fr g.S w0 w
    mu := fun _ _ k _ => wn g.s - k })]
structure GNx where
  p : Nat
  ba : Nat
  bo : Nat
  at_ : Int
  out : Int
def sNx1 : CallSpec where
  G := GNx
  args := fun g => #[.int .i64 g.p, .pointer (some ⟨g.ba, 0, none⟩), .pointer (some ⟨g.bo, 0, none⟩)]
  pre := fun g w => w.heap[g.ba]? = some (.cells #[.int .i64 g.at_] 3) ∧ w.heap[g.bo]? = some (.cells #[.int .i64 g.out] 3)
  X := Unit
  res := fun _ => .tuple #[]
  post := fun g w _ w' => w'.heap[g.bo]? = some (.cells #[.int .i64 (if g.at_ < g.p ∧ (g.p : Int) < g.out then (g.p : Int) else g.out)] 3) ∧ Fr (fun q => q = g.bo) w w'
def sPv1 : CallSpec where
  G := GNx
  args := fun g => #[.int .i64 g.p, .pointer (some ⟨g.ba, 0, none⟩), .pointer (some ⟨g.bo, 0, none⟩)]
  pre := fun g w => w.heap[g.ba]? = some (.cells #[.int .i64 g.at_] 3) ∧ w.heap[g.bo]? = some (.cells #[.int .i64 g.out] 3)
  X := Unit
  res := fun _ => .tuple #[]
  post := fun g w _ w' => w'.heap[g.bo]? = some (.cells #[.int .i64 (if (g.p : Int) < g.at_ then (g.p : Int) else g.out)] 3) ∧ Fr (fun q => q = g.bo) w w'
def spNxW : List (Nat × CallSpec) := [(71, sBegs)]

/-! ### The laws' helpers -/
def sPcsW : CallSpec where
  G := ByteArray
  args := fun s => #[.string s]
  pre := fun s w => U8 w ∧ s.size ≤ 67108864
  X := Option Addr × Nat × Nat
  res := fun x => .slice x.1 x.2.1 x.2.2
  post := fun s w x w' => x.2.1 = wn s ∧ Made w w' 53 2 x.1 x.2.1 ((wdL s).flatMap encPc) x.2.2
def annPcsW (s : ByteArray) (_ : World) : Ann where
  sp := spAllW2
  ranges := [(6, {
    α := Nat × ByteArray
    enc := encPc
    J := fun e w0 xs k D W => ∃ a c, D = (fun q => q = ptrB (gv e 3) ∨ blk a = some q) ∧ GrowS W (ptrB (gv e 3)) 50 53 2 k a c ((xs.take k).flatMap encPc)
    Jx := fun e w0 _ _ D W => (1 : Nat) = 0 })]
structure GRow12 where
  s : ByteArray
  want : List ByteArray
  a : Option Addr
  c : Nat
def rowW (s : ByteArray) (want : List ByteArray) : Bool := decide ((wdL s).map Prod.snd = want)
def sRowW : CallSpec where
  G := GRow12
  args := fun g => #[.string g.s, .slice g.a g.want.length g.c]
  pre := fun g w => U8 w ∧ g.s.size ≤ 67108864 ∧ CellsAt w g.a (g.want.map Value.string) ∧ g.want.length ≤ 1000000
  X := Bool
  res := fun x => .bool x
  post := fun g w x w' => x = rowW g.s g.want ∧ Ext w w'
def spRowW : List (Nat × CallSpec) := [(41, sPcsW)]
def annRowW (g : GRow12) (_ : World) : Ann where
  sp := spRowW
  loops := [(6, {
    X := Nat
    sh := fun _ i => [(7, .int .i64 i), (6, .int .i64 (wp g.s i))]
    inv := fun _ w0 i w => i ≤ wn g.s ∧ ((wdL g.s).map Prod.snd).take i = g.want.take i ∧ Ext w0 w
    mu := fun _ _ i _ => wn g.s - i })]
structure GPp12 where
  a : Option Addr
  ac : Nat
  l : List (Nat × ByteArray)
  b : Option Addr
  bc : Nat
  m : List (Nat × ByteArray)
  k : Nat
def sSameW : CallSpec where
  G := GPp12
  args := fun g => #[.slice g.a g.l.length g.ac, .slice g.b g.m.length g.bc, .int .i64 g.k]
  pre := fun g w => CellsAt w g.a (g.l.flatMap encPc) ∧ CellsAt w g.b (g.m.flatMap encPc) ∧ g.l.length ≤ 67108864 ∧ g.k ≤ 67108864 ∧ ∀ p ∈ g.m, p.1 ≤ 67108864
  X := Bool
  res := fun x => .bool x
  post := fun g w x w' => x = decide (g.l = g.m.map (upP g.k)) ∧ Ext w w'
def annSameW (g : GPp12) (_ : World) : Ann where
  sp := []
  loops := [(4, {
    X := Nat
    sh := fun _ i => [(7, .int .i64 i)]
    inv := fun _ w0 i w => i ≤ g.l.length ∧ g.l.take i = (g.m.map (upP g.k)).take i ∧ Ext w0 w
    mu := fun _ _ i _ => g.l.length - i })]
def spAliveW : List (Nat × CallSpec) := [(33, sAtW), (35, sIsW), (37, sSIN nextW), (39, sSIN prevW), (43, sRowW)]

--#vc isW_vc 35 sIsW annIsW spAllW2
--#vc atW_vc 33 sAtW annAtW spAllW2
--#vc wordR_vc 73 sWordR (annOf spWordR) spWordR
--#vc risW_vc 36 sIsW annRIsW spRAllW2
--#vc ratW_vc 34 sAtW annRAtW spRAllW2
--#vc rnextW_vc 38 (sSIN nextW) annRNextW spRAllW2
--#vc rprevW_vc 40 (sSIN prevW) annRPrevW spRAllW2
--#vc begs_vc 71 sBegs annBegs spBegs
--#vc nx1_vc 72 sNx1 (annOf []) []
--#vc pv1_vc 74 sPv1 (annOf []) []
--#vc nextW_vc 37 (sSIN nextW) (annOf spNxW) spNxW
--#vc prevW_vc 39 (sSIN prevW) (annOf spNxW) spNxW
--#vc pcsW_vc 41 sPcsW annPcsW spAllW2
--#vc rowW_vc 43 sRowW annRowW spRowW
--#vc sameW_vc 44 sSameW annSameW []
--#vc aliveW_vc 32 (sYes U8) (annOf spAliveW) spAliveW

end Go.Proofs.YthpjkgoahneldaaDoor
end

section
/-
  Verification conditions, printed by a program out of the specifications beside this text: each theorem says that the condition suffices. (Lean's kernel compares the printed condition with what 'wpE' computes.)
-/
set_option linter.unusedVariables false
namespace Go.Proofs.YthpjkgoahneldaaDoor
open Go Go.RowKit Vc Ut Tb Cl Wd

set_option maxRecDepth 1000000 in
theorem isW_vc (hsp : SpecsOk Tryd.prog spAllW2) (h : ∀ (g : ByteArray × Int) (w : World), U8 w ∧ g.fst.size ≤ (67108864 : Nat) → ∀ (b : Nat) (w1 : World), New w (Obj.cells #[Value.int IntKind.i64 g.snd] (3 : Nat)) b w1 → ∀ (b1 : Nat) (w11 : World), New w1 (Obj.cells #[Value.bool false] (4 : Nat)) b1 w11 → ∃ (g1 : ByteArray), #[Value.string g.fst] = #[Value.string g1] ∧ (U8 w11 ∧ g1.size ≤ (67108864 : Nat)) ∧ ∀ (x : GWd) (w' : World), x.s = g1 ∧ hWd x w' ∧ (∀ (q : Nat), cWd x q → w11.heap.size ≤ q) ∧ Ext w11 w' → ∃ (xs : List (Nat × ByteArray)), ∃ (C : Nat → Prop), ∃ (D0 : Nat → Prop), IterAt Tryd.prog (Value.func (Fn.func (69 : FuncId)) #[] #[Value.pointer (some { block := x.be, off := (0 : Nat) }), Value.pointer (some { block := x.bs, off := (0 : Nat) })]) (List.map encPc xs) C w' ∧ DomOk w' C D0 ∧ (D0 = ones [ptrB (Value.pointer (some { block := b1, off := (0 : Nat) }))] ∧ (∀ (j : Nat), j < (0 : Nat) → (↑(wp g.fst j) : Int) ≠ g.snd) ∧ ∃ (v : Bool), w'.heap[ptrB (Value.pointer (some { block := b1, off := (0 : Nat) }))]? = some (Obj.cells #[Value.bool v] (4 : TypeId))) ∧ (Stab w'.heap.size fun (k : Nat) (D : Nat → Prop) (W : World) => D = ones [ptrB (Value.pointer (some { block := b1, off := (0 : Nat) }))] ∧ (∀ (j : Nat), j < k → (↑(wp g.fst j) : Int) ≠ g.snd) ∧ ∃ (v : Bool), W.heap[ptrB (Value.pointer (some { block := b1, off := (0 : Nat) }))]? = some (Obj.cells #[Value.bool v] (4 : TypeId))) ∧ (∀ (x1 : Exit), Stab w'.heap.size fun (x : Nat) (D : Nat → Prop) (W : World) => D = ones [ptrB (Value.pointer (some { block := b1, off := (0 : Nat) }))] ∧ W.heap[ptrB (Value.pointer (some { block := b1, off := (0 : Nat) }))]? = some (Obj.cells #[Value.bool (isW g.fst g.snd)] (4 : TypeId))) ∧ (∀ (k : Nat) (x1 : Nat × ByteArray) (D : Nat → Prop) (W : World), xs[k]? = some x1 → (D = ones [ptrB (Value.pointer (some { block := b1, off := (0 : Nat) }))] ∧ (∀ (j : Nat), j < k → (↑(wp g.fst j) : Int) ≠ g.snd) ∧ ∃ (v : Bool), W.heap[ptrB (Value.pointer (some { block := b1, off := (0 : Nat) }))]? = some (Obj.cells #[Value.bool v] (4 : TypeId))) → Mid w' D0 D W → ∃ (n : Int), W.cell? { block := b, off := (0 : Nat) } = some (Value.int IntKind.i64 n) ∧ bcase ((↑x1.fst : Int) == n) (true = true ∧ (∃ (old : Value), W.cell? { block := b1, off := (0 : Nat) } = some old) ∧ W.frozen? { block := b1, off := (0 : Nat) } = false ∧ ∀ (w12 : World), Stored W { block := b1, off := (0 : Nat) } (Value.bool true) w12 → ∃ (D' : Nat → Prop), Step D W w12 D' ∧ D' = ones [ptrB (Value.pointer (some { block := b1, off := (0 : Nat) }))] ∧ w12.heap[ptrB (Value.pointer (some { block := b1, off := (0 : Nat) }))]? = some (Obj.cells #[Value.bool (isW g.fst g.snd)] (4 : TypeId))) (∃ (D' : Nat → Prop), Step D W W D' ∧ D' = ones [ptrB (Value.pointer (some { block := b1, off := (0 : Nat) }))] ∧ (∀ (j : Nat), j < k + (1 : Nat) → (↑(wp g.fst j) : Int) ≠ g.snd) ∧ ∃ (v : Bool), W.heap[ptrB (Value.pointer (some { block := b1, off := (0 : Nat) }))]? = some (Obj.cells #[Value.bool v] (4 : TypeId)))) ∧
 (∀ (D : Nat → Prop) (W : World), (D = ones [ptrB (Value.pointer (some { block := b1, off := (0 : Nat) }))] ∧ (∀ (j : Nat), j < lenX xs → (↑(wp g.fst j) : Int) ≠ g.snd) ∧ ∃ (v : Bool), W.heap[ptrB (Value.pointer (some { block := b1, off := (0 : Nat) }))]? = some (Obj.cells #[Value.bool v] (4 : TypeId))) → Mid w' D0 D W → ∃ (n : Int), W.cell? { block := b, off := (0 : Nat) } = some (Value.int IntKind.i64 n) ∧ true = true ∧ (∃ (old : Value), W.cell? { block := b1, off := (0 : Nat) } = some old) ∧ W.frozen? { block := b1, off := (0 : Nat) } = false ∧ ∀ (w12 : World), Stored W { block := b1, off := (0 : Nat) } (Value.bool (n == (↑g.fst.size : Int))) w12 → ∃ (b2 : Bool), w12.cell? { block := b1, off := (0 : Nat) } = some (Value.bool b2) ∧ ∀ (w2 : World), Turn w.heap.size w12 w2 → ∃ (x1 : Bool), Value.bool b2 = Value.bool x1 ∧ x1 = isW g.fst g.snd ∧ Ext w w2) ∧ ∀ (D : Nat → Prop) (W : World), D = ones [ptrB (Value.pointer (some { block := b1, off := (0 : Nat) }))] ∧ W.heap[ptrB (Value.pointer (some { block := b1, off := (0 : Nat) }))]? = some (Obj.cells #[Value.bool (isW g.fst g.snd)] (4 : TypeId)) → Mid w' D0 D W → ∃ (b2 : Bool), W.cell? { block := b1, off := (0 : Nat) } = some (Value.bool b2) ∧ ∀ (w2 : World), Turn w.heap.size W w2 → ∃ (x1 : Bool), Value.bool b2 = Value.bool x1 ∧ x1 = isW g.fst g.snd ∧ Ext w w2) :
    (sIsW).Ok Tryd.prog 35 :=
  ok_of_vc sIsW annIsW spAllW2 (fun _ _ => rfl) (fun _ _ => rfl) hsp Tryd.func35 rfl (n := 2) (fun _ => rfl) (by kernel_rfl) (vcast (by kernel_rfl) h)

set_option maxRecDepth 1000000 in
theorem atW_vc (hsp : SpecsOk Tryd.prog spAllW2) (h : ∀ (g : ByteArray × Int) (w : World), U8 w ∧ g.fst.size ≤ (67108864 : Nat) → ∀ (b : Nat) (w1 : World), New w (Obj.cells #[Value.int IntKind.i64 g.snd] (3 : Nat)) b w1 → ∀ (b1 : Nat) (w11 : World), New w1 (Obj.cells #[Value.int IntKind.i64 (0 : Int)] (3 : Nat)) b1 w11 → ∀ (b2 : Nat) (w12 : World), New w11 (Obj.cells #[Value.int IntKind.i64 (0 : Int)] (3 : Nat)) b2 w12 → ∃ (n : Int), w12.cell? { block := b, off := (0 : Nat) } = some (Value.int IntKind.i64 n) ∧ true = true ∧ (∃ (old : Value), w12.cell? { block := b, off := (0 : Nat) } = some old) ∧ w12.frozen? { block := b, off := (0 : Nat) } = false ∧ ∀ (w13 : World), Stored w12 { block := b, off := (0 : Nat) } (Value.int IntKind.i64 (if (↑g.fst.size : Int) < if (0 : Int) > n then (0 : Int) else n then (↑g.fst.size : Int) else if (0 : Int) > n then (0 : Int) else n)) w13 → ∃ (g1 : ByteArray), #[Value.string g.fst] = #[Value.string g1] ∧ (U8 w13 ∧ g1.size ≤ (67108864 : Nat)) ∧ ∀ (x : GWd) (w' : World), x.s = g1 ∧ hWd x w' ∧ (∀ (q : Nat), cWd x q → w13.heap.size ≤ q) ∧ Ext w13 w' → ∃ (xs : List (Nat × ByteArray)), ∃ (C : Nat → Prop), ∃ (D0 : Nat → Prop), IterAt Tryd.prog (Value.func (Fn.func (69 : FuncId)) #[] #[Value.pointer (some { block := x.be, off := (0 : Nat) }), Value.pointer (some { block := x.bs, off := (0 : Nat) })]) (List.map encPc xs) C w' ∧ DomOk w' C D0 ∧ (D0 = ones [ptrB (Value.pointer (some { block := b1, off := (0 : Nat) })), ptrB (Value.pointer (some { block := b2, off := (0 : Nat) }))] ∧ (∀ (j : Nat), j < (0 : Nat) → wp g.fst (j + (1 : Nat)) ≤ clampN g.fst g.snd) ∧ ∃ (v : Int), ∃ (u : Int), w'.heap[ptrB (Value.pointer (some { block := b1, off := (0 : Nat) }))]? = some (Obj.cells #[Value.int IntKind.i64 v] (3 : TypeId)) ∧ w'.heap[ptrB (Value.pointer (some { block := b2, off := (0 : Nat) }))]? = some (Obj.cells #[Value.int IntKind.i64 u] (3 : TypeId))) ∧ (Stab w'.heap.size fun (k : Nat) (D : Nat → Prop) (W : World) => D = ones [ptrB (Value.pointer (some { block := b1, off := (0 : Nat) })), ptrB (Value.pointer (some { block := b2, off := (0 : Nat) }))] ∧ (∀ (j : Nat), j < k → wp g.fst (j + (1 : Nat)) ≤ clampN g.fst g.snd) ∧ ∃ (v : Int), ∃ (u : Int), W.heap[ptrB (Value.pointer (some { block := b1, off := (0 : Nat) }))]? = some (Obj.cells #[Value.int IntKind.i64 v] (3 : TypeId)) ∧ W.heap[ptrB (Value.pointer (some { block := b2, off := (0 : Nat) }))]? = some (Obj.cells #[Value.int IntKind.i64 u] (3 : TypeId))) ∧ (∀ (x1 : Exit), Stab w'.heap.size fun (x : Nat) (D : Nat → Prop) (W : World) => D = ones [ptrB (Value.pointer (some { block := b1, off := (0 : Nat) })), ptrB (Value.pointer (some { block := b2, off := (0 : Nat) }))] ∧ W.heap[ptrB (Value.pointer (some { block := b1, off := (0 : Nat) }))]? = some (Obj.cells #[Value.int IntKind.i64 (↑(wp g.fst (ixW g.fst (clampN g.fst g.snd))) : Int)] (3 : TypeId)) ∧ W.heap[ptrB (Value.pointer (some { block := b2, off := (0 : Nat) }))]? = some
 (Obj.cells #[Value.int IntKind.i64 (↑(wp g.fst (ixW g.fst (clampN g.fst g.snd) + (1 : Nat))) : Int)] (3 : TypeId))) ∧ (∀ (k : Nat) (x1 : Nat × ByteArray) (D : Nat → Prop) (W : World), xs[k]? = some x1 → (D = ones [ptrB (Value.pointer (some { block := b1, off := (0 : Nat) })), ptrB (Value.pointer (some { block := b2, off := (0 : Nat) }))] ∧ (∀ (j : Nat), j < k → wp g.fst (j + (1 : Nat)) ≤ clampN g.fst g.snd) ∧ ∃ (v : Int), ∃ (u : Int), W.heap[ptrB (Value.pointer (some { block := b1, off := (0 : Nat) }))]? = some (Obj.cells #[Value.int IntKind.i64 v] (3 : TypeId)) ∧ W.heap[ptrB (Value.pointer (some { block := b2, off := (0 : Nat) }))]? = some (Obj.cells #[Value.int IntKind.i64 u] (3 : TypeId))) → Mid w' D0 D W → ∃ (n1 : Int), W.cell? { block := b, off := (0 : Nat) } = some (Value.int IntKind.i64 n1) ∧ InR IntKind.i64 ((↑x1.fst : Int) + (↑x1.snd.size : Int)) ∧ bcase (decide (n1 < (↑x1.fst : Int) + (↑x1.snd.size : Int))) (InR IntKind.i64 ((↑x1.fst : Int) + (↑x1.snd.size : Int)) ∧ true = true ∧ (∃ (old : Value), W.cell? { block := b1, off := (0 : Nat) } = some old) ∧ W.frozen? { block := b1, off := (0 : Nat) } = false ∧ ∀ (w14 : World), Stored W { block := b1, off := (0 : Nat) } (Value.int IntKind.i64 (↑x1.fst : Int)) w14 → true = true ∧ (∃ (old : Value), w14.cell? { block := b2, off := (0 : Nat) } = some old) ∧ w14.frozen? { block := b2, off := (0 : Nat) } = false ∧ ∀ (w15 : World), Stored w14 { block := b2, off := (0 : Nat) } (Value.int IntKind.i64 ((↑x1.fst : Int) + (↑x1.snd.size : Int))) w15 → ∃ (D' : Nat → Prop), Step D W w15 D' ∧ D' = ones [ptrB (Value.pointer (some { block := b1, off := (0 : Nat) })), ptrB (Value.pointer (some { block := b2, off := (0 : Nat) }))] ∧ w15.heap[ptrB (Value.pointer (some { block := b1, off := (0 : Nat) }))]? = some (Obj.cells #[Value.int IntKind.i64 (↑(wp g.fst (ixW g.fst (clampN g.fst g.snd))) : Int)] (3 : TypeId)) ∧ w15.heap[ptrB (Value.pointer (some { block := b2, off := (0 : Nat) }))]? = some (Obj.cells #[Value.int IntKind.i64 (↑(wp g.fst (ixW g.fst (clampN g.fst g.snd) + (1 : Nat))) : Int)] (3 : TypeId))) (∃ (D' : Nat → Prop), Step D W W D' ∧ D' = ones [ptrB (Value.pointer (some { block := b1, off := (0 : Nat) })), ptrB (Value.pointer (some { block := b2, off := (0 : Nat) }))] ∧ (∀ (j : Nat), j < k + (1 : Nat) → wp g.fst (j + (1 : Nat)) ≤ clampN g.fst g.snd) ∧ ∃ (v : Int), ∃ (u : Int), W.heap[ptrB (Value.pointer (some { block := b1, off := (0 : Nat) }))]? = some (Obj.cells #[Value.int IntKind.i64 v] (3 : TypeId)) ∧ W.heap[ptrB (Value.pointer (some { block := b2, off := (0 : Nat) }))]? = some (Obj.cells #[Value.int IntKind.i64 u] (3 : TypeId)))) ∧ (∀ (D : Nat → Prop) (W : World), (D = ones [ptrB (Value.pointer (some { block := b1, off := (0 : Nat) })), ptrB (Value.pointer (some { block := b2, off := (0 : Nat) }))] ∧ (∀ (j : Nat), j < lenX xs → wp g.fst (j + (1 : Nat)) ≤ clampN g.fst g.snd) ∧ ∃ (v : Int), ∃ (u : Int), W.heap[ptrB (Value.pointer (some { block := b1, off := (0 : Nat) }))]? =
 some (Obj.cells #[Value.int IntKind.i64 v] (3 : TypeId)) ∧ W.heap[ptrB (Value.pointer (some { block := b2, off := (0 : Nat) }))]? = some (Obj.cells #[Value.int IntKind.i64 u] (3 : TypeId))) → Mid w' D0 D W → true = true ∧ (∃ (old : Value), W.cell? { block := b1, off := (0 : Nat) } = some old) ∧ W.frozen? { block := b1, off := (0 : Nat) } = false ∧ ∀ (w14 : World), Stored W { block := b1, off := (0 : Nat) } (Value.int IntKind.i64 (↑g.fst.size : Int)) w14 → true = true ∧ (∃ (old : Value), w14.cell? { block := b2, off := (0 : Nat) } = some old) ∧ w14.frozen? { block := b2, off := (0 : Nat) } = false ∧ ∀ (w15 : World), Stored w14 { block := b2, off := (0 : Nat) } (Value.int IntKind.i64 (↑g.fst.size : Int)) w15 → ∃ (n1 : Int), w15.cell? { block := b1, off := (0 : Nat) } = some (Value.int IntKind.i64 n1) ∧ ∃ (n2 : Int), w15.cell? { block := b2, off := (0 : Nat) } = some (Value.int IntKind.i64 n2) ∧ ∀ (w2 : World), Turn w.heap.size w15 w2 → ∃ (x1 : Nat × Nat), Value.tuple #[Value.int IntKind.i64 n1, Value.int IntKind.i64 n2] = Value.tuple #[Value.int IntKind.i64 (↑x1.fst : Int), Value.int IntKind.i64 (↑x1.snd : Int)] ∧ x1 = (wp g.fst (ixW g.fst (clampN g.fst g.snd)), wp g.fst (ixW g.fst (clampN g.fst g.snd) + (1 : Nat))) ∧ Ext w w2) ∧ ∀ (D : Nat → Prop) (W : World), D = ones [ptrB (Value.pointer (some { block := b1, off := (0 : Nat) })), ptrB (Value.pointer (some { block := b2, off := (0 : Nat) }))] ∧ W.heap[ptrB (Value.pointer (some { block := b1, off := (0 : Nat) }))]? = some (Obj.cells #[Value.int IntKind.i64 (↑(wp g.fst (ixW g.fst (clampN g.fst g.snd))) : Int)] (3 : TypeId)) ∧ W.heap[ptrB (Value.pointer (some { block := b2, off := (0 : Nat) }))]? = some (Obj.cells #[Value.int IntKind.i64 (↑(wp g.fst (ixW g.fst (clampN g.fst g.snd) + (1 : Nat))) : Int)] (3 : TypeId)) → Mid w' D0 D W → ∃ (n1 : Int), W.cell? { block := b1, off := (0 : Nat) } = some (Value.int IntKind.i64 n1) ∧ ∃ (n2 : Int), W.cell? { block := b2, off := (0 : Nat) } = some (Value.int IntKind.i64 n2) ∧ ∀ (w2 : World), Turn w.heap.size W w2 → ∃ (x1 : Nat × Nat), Value.tuple #[Value.int IntKind.i64 n1, Value.int IntKind.i64 n2] = Value.tuple #[Value.int IntKind.i64 (↑x1.fst : Int), Value.int IntKind.i64 (↑x1.snd : Int)] ∧ x1 = (wp g.fst (ixW g.fst (clampN g.fst g.snd)), wp g.fst (ixW g.fst (clampN g.fst g.snd) + (1 : Nat))) ∧ Ext w w2) :
    (sAtW).Ok Tryd.prog 33 :=
  ok_of_vc sAtW annAtW spAllW2 (fun _ _ => rfl) (fun _ _ => rfl) hsp Tryd.func33 rfl (n := 2) (fun _ => rfl) (by kernel_rfl) (vcast (by kernel_rfl) h)

set_option maxRecDepth 1000000 in
theorem wordR_vc (hsp : SpecsOk Tryd.prog spWordR) (h : ∀ (g : ByteArray) (w : World), U8 w ∧ g.size ≤ (67108864 : Nat) ∧ (0 : Nat) < g.size → ∃ (g1 : ByteArray), #[Value.string g] = #[Value.string g1] ∧ (U8 w ∧ g1.size ≤ (67108864 : Nat)) ∧ ∀ (x : Nat) (w' : World), x = nextL g1 ∧ Ext w w' → ∃ (k : Nat), (↑x : Int) = (↑k : Int) ∧ (0 : Nat) ≤ k ∧ k ≤ g.size ∧ ∃ (g2 : ByteArray), #[Value.string (g.extract (0 : Nat) k)] = #[Value.string g2] ∧ (U8 w' ∧ g2.size ≤ (67108864 : Nat) ∧ (0 : Nat) < g2.size) ∧ ∀ (x1 : Nat) (w'1 : World), x1 = sortQ (sortC g2) ∧ Ext w' w'1 → ∃ (x2 : Bool), Value.bool ((↑x1 : Int) == (1 : Int) || ((↑x1 : Int) == (2 : Int) || (↑x1 : Int) == (3 : Int))) = Value.bool x2 ∧ x2 = decide ((2 : Nat) ≤ sortC (g.extract (bp g (0 : Nat)) (bp g ((0 : Nat) + (1 : Nat))))) ∧ Ext w w'1) :
    (sWordR).Ok Tryd.prog 73 :=
  ok_of_vc sWordR (annOf spWordR) spWordR (fun _ _ => rfl) (fun _ _ => rfl) hsp Tryd.func73 rfl (n := 1) (fun _ => rfl) (by kernel_rfl) (vcast (by kernel_rfl) h)

set_option maxRecDepth 1000000 in
theorem risW_vc (hsp : SpecsOk Tryd.prog spRAllW2) (h : ∀ (g : ByteArray × Int) (w : World), U8 w ∧ g.fst.size ≤ (67108864 : Nat) → ∃ (g1 : ByteArray), #[Value.string g.fst] = #[Value.string g1] ∧ (U8 w ∧ g1.size ≤ (67108864 : Nat)) ∧ ∀ (x : Option Addr × Nat × Nat) (w' : World), x.snd.fst = wn g1 ∧ Made w w' (44 : TypeId) (2 : Nat) x.fst x.snd.fst (List.flatMap encPc (wdL g1)) x.snd.snd → (∃ (x1 : Nat), Value.int IntKind.i64 (0 : Int) = Value.int IntKind.i64 (↑x1 : Int) ∧ x1 ≤ wn g.fst ∧ (∀ (j : Nat), j < x1 → (↑(wp g.fst j) : Int) ≠ g.snd) ∧ Ext w' w') ∧ ∀ (u : Nat → Value) (x1 : Nat) (w'1 : World), x1 ≤ wn g.fst ∧ (∀ (j : Nat), j < x1 → (↑(wp g.fst j) : Int) ≠ g.snd) ∧ Ext w' w'1 → bcase (decide ((↑x1 : Int) < (↑x.snd.fst : Int))) (∃ (k : Nat), (↑x1 : Int) = (↑k : Int) ∧ k < x.snd.fst ∧ ptrE x.fst fun (b o : Nat) => ∃ (n : Int), w'1.cell? { block := b, off := o + k * (2 : Nat) } = some (Value.int IntKind.i64 n) ∧ bcase (n == g.snd) (∃ (x2 : Bool), Value.bool true = Value.bool x2 ∧ x2 = isW g.fst g.snd ∧ Ext w w'1) (InR IntKind.i64 ((↑x1 : Int) + (1 : Int)) ∧ ∃ (y : Nat), Value.int IntKind.i64 ((↑x1 : Int) + (1 : Int)) = Value.int IntKind.i64 (↑y : Int) ∧ (y ≤ wn g.fst ∧ (∀ (j : Nat), j < y → (↑(wp g.fst j) : Int) ≠ g.snd) ∧ Ext w' w'1) ∧ wn g.fst - y < wn g.fst - x1)) (∃ (x2 : Bool), Value.bool (g.snd == (↑g.fst.size : Int)) = Value.bool x2 ∧ x2 = isW g.fst g.snd ∧ Ext w w'1)) :
    (sIsW).Ok Tryd.prog 36 :=
  ok_of_vc sIsW annRIsW spRAllW2 (fun _ _ => rfl) (fun _ _ => rfl) hsp Tryd.func36 rfl (n := 2) (fun _ => rfl) (by kernel_rfl) (vcast (by kernel_rfl) h)

set_option maxRecDepth 1000000 in
theorem ratW_vc (hsp : SpecsOk Tryd.prog spRAllW2) (h : ∀ (g : ByteArray × Int) (w : World), U8 w ∧ g.fst.size ≤ (67108864 : Nat) → ∃ (g1 : Int × Int × Int), #[Value.int IntKind.i64 g.snd, Value.int IntKind.i64 (0 : Int), Value.int IntKind.i64 (↑g.fst.size : Int)] = #[Value.int IntKind.i64 g1.fst, Value.int IntKind.i64 g1.snd.fst, Value.int IntKind.i64 g1.snd.snd] ∧ True ∧ ∀ (x : Int) (w' : World), (x = if g1.fst < g1.snd.fst then g1.snd.fst else if g1.fst > g1.snd.snd then g1.snd.snd else g1.fst) ∧ w' = w → ∃ (g2 : ByteArray), #[Value.string g.fst] = #[Value.string g2] ∧ (U8 w' ∧ g2.size ≤ (67108864 : Nat)) ∧ ∀ (x1 : Option Addr × Nat × Nat) (w'1 : World), x1.snd.fst = wn g2 ∧ Made w' w'1 (44 : TypeId) (2 : Nat) x1.fst x1.snd.fst (List.flatMap encPc (wdL g2)) x1.snd.snd → (∃ (x2 : Nat), Value.int IntKind.i64 (0 : Int) = Value.int IntKind.i64 (↑x2 : Int) ∧ x2 ≤ wn g.fst ∧ (∀ (j : Nat), j < x2 → wp g.fst (j + (1 : Nat)) ≤ clampN g.fst g.snd) ∧ Ext w'1 w'1) ∧ ∀ (u : Nat → Value) (x2 : Nat) (w'2 : World), x2 ≤ wn g.fst ∧ (∀ (j : Nat), j < x2 → wp g.fst (j + (1 : Nat)) ≤ clampN g.fst g.snd) ∧ Ext w'1 w'2 → bcase (decide ((↑x2 : Int) < (↑x1.snd.fst : Int))) (∀ (w1 : World), Drew w'2 w1 → ∃ (k : Nat), (↑x2 : Int) = (↑k : Int) ∧ k < x1.snd.fst ∧ ptrE x1.fst fun (b o : Nat) => ∃ (n : Int), w'2.cell? { block := b, off := o + k * (2 : Nat) } = some (Value.int IntKind.i64 n) ∧ ∃ (k1 : Nat), (↑x2 : Int) = (↑k1 : Int) ∧ k1 < x1.snd.fst ∧ ptrE x1.fst fun (b1 o1 : Nat) => ∃ (s : ByteArray), w'2.cell? { block := b1, off := o1 + k1 * (2 : Nat) + (1 : Nat) } = some (Value.string s) ∧ InR IntKind.i64 (n + (↑s.size : Int)) ∧ bcase (decide (x < n + (↑s.size : Int))) (∀ (w11 : World), Drew w1 w11 → ∃ (k2 : Nat), (↑x2 : Int) = (↑k2 : Int) ∧ k2 < x1.snd.fst ∧ ptrE x1.fst fun (b2 o2 : Nat) => ∃ (n1 : Int), w1.cell? { block := b2, off := o2 + k2 * (2 : Nat) } = some (Value.int IntKind.i64 n1) ∧ ∃ (k3 : Nat), (↑x2 : Int) = (↑k3 : Int) ∧ k3 < x1.snd.fst ∧ ptrE x1.fst fun (b3 o3 : Nat) => ∃ (n2 : Int), w1.cell? { block := b3, off := o3 + k3 * (2 : Nat) } = some (Value.int IntKind.i64 n2) ∧ ∃ (k4 : Nat), (↑x2 : Int) = (↑k4 : Int) ∧ k4 < x1.snd.fst ∧ ptrE x1.fst fun (b4 o4 : Nat) => ∃ (s1 : ByteArray), w1.cell? { block := b4, off := o4 + k4 * (2 : Nat) + (1 : Nat) } = some (Value.string s1) ∧ InR IntKind.i64 (n2 + (↑s1.size : Int)) ∧ ∃ (x3 : Nat × Nat), Value.tuple #[Value.int IntKind.i64 n1, Value.int IntKind.i64 (n2 + (↑s1.size : Int))] = Value.tuple #[Value.int IntKind.i64 (↑x3.fst : Int), Value.int IntKind.i64 (↑x3.snd : Int)] ∧ x3 = (wp g.fst (ixW g.fst (clampN g.fst g.snd)), wp g.fst (ixW g.fst (clampN g.fst g.snd) + (1 : Nat))) ∧ Ext w w11) (InR IntKind.i64 ((↑x2 : Int) + (1 : Int)) ∧ ∃ (y : Nat), Value.int IntKind.i64 ((↑x2 : Int) + (1 : Int)) = Value.int IntKind.i64 (↑y : Int) ∧ (y ≤ wn g.fst ∧ (∀ (j : Nat), j < y → wp g.fst (j + (1 : Nat)) ≤ clampN g.fst g.snd) ∧ Ext w'1 w1) ∧ wn g.fst - y < wn g.fst - x2)) (∃ (x3 : Nat × Nat),
 Value.tuple #[Value.int IntKind.i64 (↑g.fst.size : Int), Value.int IntKind.i64 (↑g.fst.size : Int)] = Value.tuple #[Value.int IntKind.i64 (↑x3.fst : Int), Value.int IntKind.i64 (↑x3.snd : Int)] ∧ x3 = (wp g.fst (ixW g.fst (clampN g.fst g.snd)), wp g.fst (ixW g.fst (clampN g.fst g.snd) + (1 : Nat))) ∧ Ext w w'2)) :
    (sAtW).Ok Tryd.prog 34 :=
  ok_of_vc sAtW annRAtW spRAllW2 (fun _ _ => rfl) (fun _ _ => rfl) hsp Tryd.func34 rfl (n := 2) (fun _ => rfl) (by kernel_rfl) (vcast (by kernel_rfl) h)

set_option maxRecDepth 1000000 in
theorem rnextW_vc (hsp : SpecsOk Tryd.prog spRAllW2) (h : ∀ (g : ByteArray × Int) (w : World), U8 w ∧ g.fst.size ≤ (67108864 : Nat) → ∃ (g1 : Int × Int × Int), #[Value.int IntKind.i64 g.snd, Value.int IntKind.i64 (0 : Int), Value.int IntKind.i64 (↑g.fst.size : Int)] = #[Value.int IntKind.i64 g1.fst, Value.int IntKind.i64 g1.snd.fst, Value.int IntKind.i64 g1.snd.snd] ∧ True ∧ ∀ (x : Int) (w' : World), (x = if g1.fst < g1.snd.fst then g1.snd.fst else if g1.fst > g1.snd.snd then g1.snd.snd else g1.fst) ∧ w' = w → ∃ (g2 : ByteArray), #[Value.string g.fst] = #[Value.string g2] ∧ (U8 w' ∧ g2.size ≤ (67108864 : Nat)) ∧ ∀ (x1 : Option Addr × Nat × Nat) (w'1 : World), x1.snd.fst = wn g2 ∧ Made w' w'1 (44 : TypeId) (2 : Nat) x1.fst x1.snd.fst (List.flatMap encPc (wdL g2)) x1.snd.snd → (∃ (x2 : Nat), Value.int IntKind.i64 (0 : Int) = Value.int IntKind.i64 (↑x2 : Int) ∧ x2 ≤ wn g.fst ∧ (∀ (j : Nat), j < x2 → ¬(wdB g.fst j = true ∧ clampN g.fst g.snd < wp g.fst j)) ∧ Ext w'1 w'1) ∧ ∀ (u : Nat → Value) (x2 : Nat) (w'2 : World), x2 ≤ wn g.fst ∧ (∀ (j : Nat), j < x2 → ¬(wdB g.fst j = true ∧ clampN g.fst g.snd < wp g.fst j)) ∧ Ext w'1 w'2 → bcase (decide ((↑x2 : Int) < (↑x1.snd.fst : Int))) (∃ (k : Nat), (↑x2 : Int) = (↑k : Int) ∧ k < x1.snd.fst ∧ ptrE x1.fst fun (b o : Nat) => ∃ (n : Int), w'2.cell? { block := b, off := o + k * (2 : Nat) } = some (Value.int IntKind.i64 n) ∧ bcase (decide (n > x)) (∃ (k1 : Nat), (↑x2 : Int) = (↑k1 : Int) ∧ k1 < x1.snd.fst ∧ ptrE x1.fst fun (b1 o1 : Nat) => ∃ (s : ByteArray), w'2.cell? { block := b1, off := o1 + k1 * (2 : Nat) + (1 : Nat) } = some (Value.string s) ∧ ∃ (g3 : ByteArray), #[Value.string s] = #[Value.string g3] ∧ (U8 w'2 ∧ g3.size ≤ (67108864 : Nat) ∧ (0 : Nat) < g3.size) ∧ ∀ (x3 : Bool) (w'3 : World), x3 = decide ((2 : Nat) ≤ sortC (g3.extract (bp g3 (0 : Nat)) (bp g3 ((0 : Nat) + (1 : Nat))))) ∧ Ext w'2 w'3 → bcase x3 (∃ (k2 : Nat), (↑x2 : Int) = (↑k2 : Int) ∧ k2 < x1.snd.fst ∧ ptrE x1.fst fun (b2 o2 : Nat) => ∃ (n1 : Int), w'3.cell? { block := b2, off := o2 + k2 * (2 : Nat) } = some (Value.int IntKind.i64 n1) ∧ ∃ (x4 : Nat), Value.int IntKind.i64 n1 = Value.int IntKind.i64 (↑x4 : Int) ∧ x4 = nextW g.fst g.snd ∧ Ext w w'3) (InR IntKind.i64 ((↑x2 : Int) + (1 : Int)) ∧ ∃ (y : Nat), Value.int IntKind.i64 ((↑x2 : Int) + (1 : Int)) = Value.int IntKind.i64 (↑y : Int) ∧ (y ≤ wn g.fst ∧ (∀ (j : Nat), j < y → ¬(wdB g.fst j = true ∧ clampN g.fst g.snd < wp g.fst j)) ∧ Ext w'1 w'3) ∧ wn g.fst - y < wn g.fst - x2)) (InR IntKind.i64 ((↑x2 : Int) + (1 : Int)) ∧ ∃ (y : Nat), Value.int IntKind.i64 ((↑x2 : Int) + (1 : Int)) = Value.int IntKind.i64 (↑y : Int) ∧ (y ≤ wn g.fst ∧ (∀ (j : Nat), j < y → ¬(wdB g.fst j = true ∧ clampN g.fst g.snd < wp g.fst j)) ∧ Ext w'1 w'2) ∧ wn g.fst - y < wn g.fst - x2)) (∃ (x3 : Nat), Value.int IntKind.i64 (↑g.fst.size : Int) = Value.int IntKind.i64 (↑x3 : Int) ∧ x3 = nextW g.fst g.snd ∧ Ext w w'2)) :
    ((sSIN nextW)).Ok Tryd.prog 38 :=
  ok_of_vc (sSIN nextW) annRNextW spRAllW2 (fun _ _ => rfl) (fun _ _ => rfl) hsp Tryd.func38 rfl (n := 2) (fun _ => rfl) (by kernel_rfl) (vcast (by kernel_rfl) h)

set_option maxRecDepth 1000000 in
theorem rprevW_vc (hsp : SpecsOk Tryd.prog spRAllW2) (h : ∀ (g : ByteArray × Int) (w : World), U8 w ∧ g.fst.size ≤ (67108864 : Nat) → ∃ (g1 : Int × Int × Int), #[Value.int IntKind.i64 g.snd, Value.int IntKind.i64 (0 : Int), Value.int IntKind.i64 (↑g.fst.size : Int)] = #[Value.int IntKind.i64 g1.fst, Value.int IntKind.i64 g1.snd.fst, Value.int IntKind.i64 g1.snd.snd] ∧ True ∧ ∀ (x : Int) (w' : World), (x = if g1.fst < g1.snd.fst then g1.snd.fst else if g1.fst > g1.snd.snd then g1.snd.snd else g1.fst) ∧ w' = w → ∃ (g2 : ByteArray), #[Value.string g.fst] = #[Value.string g2] ∧ (U8 w' ∧ g2.size ≤ (67108864 : Nat)) ∧ ∀ (x1 : Option Addr × Nat × Nat) (w'1 : World), x1.snd.fst = wn g2 ∧ Made w' w'1 (44 : TypeId) (2 : Nat) x1.fst x1.snd.fst (List.flatMap encPc (wdL g2)) x1.snd.snd → (∃ (x2 : Nat), Value.int IntKind.i64 (0 : Int) = Value.int IntKind.i64 (↑x2 : Int) ∧ Value.int IntKind.i64 (0 : Int) = Value.int IntKind.i64 (↑(pvU g.fst (clampN g.fst g.snd) x2) : Int) ∧ x2 ≤ wn g.fst ∧ Ext w'1 w'1) ∧ ∀ (u : Nat → Value) (x2 : Nat) (w'2 : World), x2 ≤ wn g.fst ∧ Ext w'1 w'2 → bcase (decide ((↑x2 : Int) < (↑x1.snd.fst : Int))) (∃ (k : Nat), (↑x2 : Int) = (↑k : Int) ∧ k < x1.snd.fst ∧ ptrE x1.fst fun (b o : Nat) => ∃ (n : Int), w'2.cell? { block := b, off := o + k * (2 : Nat) } = some (Value.int IntKind.i64 n) ∧ bcase (decide (n < x)) (∃ (k1 : Nat), (↑x2 : Int) = (↑k1 : Int) ∧ k1 < x1.snd.fst ∧ ptrE x1.fst fun (b1 o1 : Nat) => ∃ (s : ByteArray), w'2.cell? { block := b1, off := o1 + k1 * (2 : Nat) + (1 : Nat) } = some (Value.string s) ∧ ∃ (g3 : ByteArray), #[Value.string s] = #[Value.string g3] ∧ (U8 w'2 ∧ g3.size ≤ (67108864 : Nat) ∧ (0 : Nat) < g3.size) ∧ ∀ (x3 : Bool) (w'3 : World), x3 = decide ((2 : Nat) ≤ sortC (g3.extract (bp g3 (0 : Nat)) (bp g3 ((0 : Nat) + (1 : Nat))))) ∧ Ext w'2 w'3 → bcase x3 (∃ (k2 : Nat), (↑x2 : Int) = (↑k2 : Int) ∧ k2 < x1.snd.fst ∧ ptrE x1.fst fun (b2 o2 : Nat) => ∃ (n1 : Int), w'3.cell? { block := b2, off := o2 + k2 * (2 : Nat) } = some (Value.int IntKind.i64 n1) ∧ InR IntKind.i64 ((↑x2 : Int) + (1 : Int)) ∧ ∃ (y : Nat), Value.int IntKind.i64 ((↑x2 : Int) + (1 : Int)) = Value.int IntKind.i64 (↑y : Int) ∧ Value.int IntKind.i64 n1 = Value.int IntKind.i64 (↑(pvU g.fst (clampN g.fst g.snd) y) : Int) ∧ (y ≤ wn g.fst ∧ Ext w'1 w'3) ∧ wn g.fst - y < wn g.fst - x2) (InR IntKind.i64 ((↑x2 : Int) + (1 : Int)) ∧ ∃ (y : Nat), Value.int IntKind.i64 ((↑x2 : Int) + (1 : Int)) = Value.int IntKind.i64 (↑y : Int) ∧ Value.int IntKind.i64 (↑(pvU g.fst (clampN g.fst g.snd) x2) : Int) = Value.int IntKind.i64 (↑(pvU g.fst (clampN g.fst g.snd) y) : Int) ∧ (y ≤ wn g.fst ∧ Ext w'1 w'3) ∧ wn g.fst - y < wn g.fst - x2)) (InR IntKind.i64 ((↑x2 : Int) + (1 : Int)) ∧ ∃ (y : Nat), Value.int IntKind.i64 ((↑x2 : Int) + (1 : Int)) = Value.int IntKind.i64 (↑y : Int) ∧ Value.int IntKind.i64 (↑(pvU g.fst (clampN g.fst g.snd) x2) : Int) = Value.int IntKind.i64 (↑(pvU g.fst (clampN g.fst g.snd) y) : Int) ∧ (y ≤ wn g.fst ∧ Ext w'1 w'2) ∧ wn g.fst - y < wn g.fst - x2))
 (∃ (x3 : Nat), Value.int IntKind.i64 (↑(pvU g.fst (clampN g.fst g.snd) x2) : Int) = Value.int IntKind.i64 (↑x3 : Int) ∧ x3 = prevW g.fst g.snd ∧ Ext w w'2)) :
    ((sSIN prevW)).Ok Tryd.prog 40 :=
  ok_of_vc (sSIN prevW) annRPrevW spRAllW2 (fun _ _ => rfl) (fun _ _ => rfl) hsp Tryd.func40 rfl (n := 2) (fun _ => rfl) (by kernel_rfl) (vcast (by kernel_rfl) h)

set_option maxRecDepth 1000000 in
theorem begs_vc (hsp : SpecsOk Tryd.prog spBegs) (h : ∀ (g : GBg) (w : World), (U8 w ∧ g.s.size ≤ (67108864 : Nat) ∧ g.J (0 : Nat) w ∧ CallsOf Tryd.prog g.gf ∧ (∀ (q : Nat), g.S q → q < w.heap.size) ∧ (∀ (k : Nat) (W W' : World), g.J k W → Ext W W' → g.J k W') ∧ (∀ (k : Nat) (W : World), k < wn g.s → wdB g.s k = false → g.J k W → g.J (k + (1 : Nat)) W) ∧ ∀ (k : Nat) (W : World), k < wn g.s → wdB g.s k = true → g.J k W → Calls Tryd.prog g.gf (#[Value.int IntKind.i64 (↑(wp g.s k) : Int)] ++ g.caps) W fun (e : Ending) (W' : World) => e = Ending.returned (Value.tuple #[]) ∧ (g.J (k + (1 : Nat)) W' ∧ Fr g.S W W') ∧ KO W W') → ∃ (g1 : ByteArray), #[Value.string g.s] = #[Value.string g1] ∧ (U8 w ∧ g1.size ≤ (67108864 : Nat)) ∧ ∀ (x : GSg) (w' : World), x.n = wn g1 ∧ Made w w' (3 : TypeId) (1 : Nat) x.ea x.n (List.map (Value.int IntKind.i64) (endsW g1)) x.ec ∧ Made w w' (3 : TypeId) (1 : Nat) x.sa x.n (List.map (Value.int IntKind.i64) (sortsW g1)) x.sc → (∃ (x1 : Nat), Value.int IntKind.i64 (0 : Int) = Value.int IntKind.i64 (↑x1 : Int) ∧ Value.int IntKind.i64 (0 : Int) = Value.int IntKind.i64 (↑(wp g.s x1) : Int) ∧ x1 ≤ wn g.s ∧ g.J x1 w' ∧ Fr g.S w' w') ∧ ∀ (u : Nat → Value) (x1 : Nat) (w'1 : World), x1 ≤ wn g.s ∧ g.J x1 w'1 ∧ Fr g.S w' w'1 → bcase (decide ((↑x1 : Int) < (↑x.n : Int))) (∃ (k : Nat), (↑x1 : Int) = (↑k : Int) ∧ k < x.n ∧ ptrE x.ea fun (b o : Nat) => ∃ (n : Int), w'1.cell? { block := b, off := o + k } = some (Value.int IntKind.i64 n) ∧ ∃ (k1 : Nat), (↑x1 : Int) = (↑k1 : Int) ∧ k1 < x.n ∧ ptrE x.sa fun (b1 o1 : Nat) => ∃ (n1 : Int), w'1.cell? { block := b1, off := o1 + k1 } = some (Value.int IntKind.i64 n1) ∧ bcase (decide (n1 ≥ (2 : Int))) (∃ (R : World → Prop), DynU Tryd.prog g.gf (Array.map (evalL [((27 : Nat), Value.int IntKind.i64 (↑(wp g.s x1) : Int)), ((26 : Nat), Value.func (Fn.func g.gf) #[] g.caps), ((25 : Nat), Value.bool (decide (n1 ≥ (2 : Int)))), ((24 : Nat), Value.int IntKind.i64 n1), ((23 : Nat), Value.pointer (some { block := b1, off := o1 + k1 })), ((22 : Nat), Value.int IntKind.i64 (↑x1 : Int)), ((21 : Nat), Value.slice x.sa x.n x.sc), ((8 : Nat), Value.int IntKind.i64 n), ((7 : Nat), Value.int IntKind.i64 (↑x1 : Int)), ((20 : Nat), Value.int IntKind.i64 n), ((19 : Nat), Value.pointer (some { block := b, off := o + k })), ((18 : Nat), Value.int IntKind.i64 (↑x1 : Int)), ((17 : Nat), Value.bool (decide ((↑x1 : Int) < (↑x.n : Int)))), ((6 : Nat), Value.int IntKind.i64 (↑(wp g.s x1) : Int)), ((16 : Nat), Value.int IntKind.i64 (↑x1 : Int)), ((16 : Nat), u (16 : Nat)), ((30 : Nat), u (30 : Nat)), ((6 : Nat), u (6 : Nat)), ((29 : Nat), u (29 : Nat)), ((28 : Nat), u (28 : Nat)), ((27 : Nat), u (27 : Nat)), ((26 : Nat), u (26 : Nat)), ((25 : Nat), u (25 : Nat)), ((24 : Nat), u (24 : Nat)), ((23 : Nat), u (23 : Nat)), ((22 : Nat), u (22 : Nat)), ((21 : Nat), u (21 : Nat)), ((8 : Nat), u (8 : Nat)), ((7 : Nat), u (7 : Nat)),
 ((20 : Nat), u (20 : Nat)), ((19 : Nat), u (19 : Nat)), ((18 : Nat), u (18 : Nat)), ((17 : Nat), u (17 : Nat)), ((16 : Nat), Value.int IntKind.i64 (0 : Int)), ((15 : Nat), Value.int IntKind.i64 (↑x.n : Int)), ((14 : Nat), Value.slice x.ea x.n x.ec), ((6 : Nat), Value.int IntKind.i64 (0 : Int)), ((5 : Nat), Value.slice x.sa x.n x.sc), ((4 : Nat), Value.slice x.ea x.n x.ec), ((13 : Nat), Value.slice x.sa x.n x.sc), ((12 : Nat), Value.slice x.ea x.n x.ec), ((9 : Nat), Value.tuple #[Value.slice x.ea x.n x.ec, Value.slice x.sa x.n x.sc]), ((11 : Nat), Value.tuple #[Value.slice x.ea x.n x.ec, Value.slice x.sa x.n x.sc]), ((10 : Nat), Value.string g.s), ((0 : Nat) + (1 : Nat), Value.func (Fn.func g.gf) #[] g.caps), ((0 : Nat), Value.string g.s)]) #[Operand.tmp (27 : Nat)] ++ g.caps) w'1 R ∧ ∀ (w'2 : World), R w'2 → InR IntKind.i64 ((↑x1 : Int) + (1 : Int)) ∧ ∃ (y : Nat), Value.int IntKind.i64 ((↑x1 : Int) + (1 : Int)) = Value.int IntKind.i64 (↑y : Int) ∧ Value.int IntKind.i64 n = Value.int IntKind.i64 (↑(wp g.s y) : Int) ∧ (y ≤ wn g.s ∧ g.J y w'2 ∧ Fr g.S w' w'2) ∧ wn g.s - y < wn g.s - x1) (InR IntKind.i64 ((↑x1 : Int) + (1 : Int)) ∧ ∃ (y : Nat), Value.int IntKind.i64 ((↑x1 : Int) + (1 : Int)) = Value.int IntKind.i64 (↑y : Int) ∧ Value.int IntKind.i64 n = Value.int IntKind.i64 (↑(wp g.s y) : Int) ∧ (y ≤ wn g.s ∧ g.J y w'1 ∧ Fr g.S w' w'1) ∧ wn g.s - y < wn g.s - x1)) (∃ (x2 : Unit), Value.tuple #[] = Value.tuple #[] ∧ g.J (wn g.s) w'1 ∧ Fr g.S w w'1)) :
    (sBegs).Ok Tryd.prog 71 :=
  ok_of_vc sBegs annBegs spBegs (fun _ _ => rfl) (fun _ _ => rfl) hsp Tryd.func71 rfl (n := 2) (fun _ => rfl) (by kernel_rfl) (vcast (by kernel_rfl) h)

set_option maxRecDepth 1000000 in
theorem nx1_vc (hsp : SpecsOk Tryd.prog []) (h : ∀ (g : GNx) (w : World), w.heap[g.ba]? = some (Obj.cells #[Value.int IntKind.i64 g.at_] (3 : TypeId)) ∧ w.heap[g.bo]? = some (Obj.cells #[Value.int IntKind.i64 g.out] (3 : TypeId)) → ∃ (n : Int), w.cell? { block := g.ba, off := (0 : Nat) } = some (Value.int IntKind.i64 n) ∧ bcase (decide ((↑g.p : Int) > n)) (∃ (n1 : Int), w.cell? { block := g.bo, off := (0 : Nat) } = some (Value.int IntKind.i64 n1) ∧ bcase (decide ((↑g.p : Int) < n1)) (true = true ∧ (∃ (old : Value), w.cell? { block := g.bo, off := (0 : Nat) } = some old) ∧ w.frozen? { block := g.bo, off := (0 : Nat) } = false ∧ ∀ (w1 : World), Stored w { block := g.bo, off := (0 : Nat) } (Value.int IntKind.i64 (↑g.p : Int)) w1 → ∃ (x : Unit), Value.tuple #[] = Value.tuple #[] ∧ w1.heap[g.bo]? = some (Obj.cells #[Value.int IntKind.i64 (if g.at_ < (↑g.p : Int) ∧ (↑g.p : Int) < g.out then (↑g.p : Int) else g.out)] (3 : TypeId)) ∧ Fr (fun (q : Nat) => q = g.bo) w w1) (∃ (x : Unit), Value.tuple #[] = Value.tuple #[] ∧ w.heap[g.bo]? = some (Obj.cells #[Value.int IntKind.i64 (if g.at_ < (↑g.p : Int) ∧ (↑g.p : Int) < g.out then (↑g.p : Int) else g.out)] (3 : TypeId)) ∧ Fr (fun (q : Nat) => q = g.bo) w w)) (∃ (x : Unit), Value.tuple #[] = Value.tuple #[] ∧ w.heap[g.bo]? = some (Obj.cells #[Value.int IntKind.i64 (if g.at_ < (↑g.p : Int) ∧ (↑g.p : Int) < g.out then (↑g.p : Int) else g.out)] (3 : TypeId)) ∧ Fr (fun (q : Nat) => q = g.bo) w w)) :
    (sNx1).Ok Tryd.prog 72 :=
  ok_of_vc sNx1 (annOf []) [] (fun _ _ => rfl) (fun _ _ => rfl) hsp Tryd.func72 rfl (n := 3) (fun _ => rfl) (by kernel_rfl) (vcast (by kernel_rfl) h)

set_option maxRecDepth 1000000 in
theorem pv1_vc (hsp : SpecsOk Tryd.prog []) (h : ∀ (g : GNx) (w : World), w.heap[g.ba]? = some (Obj.cells #[Value.int IntKind.i64 g.at_] (3 : TypeId)) ∧ w.heap[g.bo]? = some (Obj.cells #[Value.int IntKind.i64 g.out] (3 : TypeId)) → ∃ (n : Int), w.cell? { block := g.ba, off := (0 : Nat) } = some (Value.int IntKind.i64 n) ∧ bcase (decide ((↑g.p : Int) < n)) (true = true ∧ (∃ (old : Value), w.cell? { block := g.bo, off := (0 : Nat) } = some old) ∧ w.frozen? { block := g.bo, off := (0 : Nat) } = false ∧ ∀ (w1 : World), Stored w { block := g.bo, off := (0 : Nat) } (Value.int IntKind.i64 (↑g.p : Int)) w1 → ∃ (x : Unit), Value.tuple #[] = Value.tuple #[] ∧ w1.heap[g.bo]? = some (Obj.cells #[Value.int IntKind.i64 (if (↑g.p : Int) < g.at_ then (↑g.p : Int) else g.out)] (3 : TypeId)) ∧ Fr (fun (q : Nat) => q = g.bo) w w1) (∃ (x : Unit), Value.tuple #[] = Value.tuple #[] ∧ w.heap[g.bo]? = some (Obj.cells #[Value.int IntKind.i64 (if (↑g.p : Int) < g.at_ then (↑g.p : Int) else g.out)] (3 : TypeId)) ∧ Fr (fun (q : Nat) => q = g.bo) w w)) :
    (sPv1).Ok Tryd.prog 74 :=
  ok_of_vc sPv1 (annOf []) [] (fun _ _ => rfl) (fun _ _ => rfl) hsp Tryd.func74 rfl (n := 3) (fun _ => rfl) (by kernel_rfl) (vcast (by kernel_rfl) h)

set_option maxRecDepth 1000000 in
theorem nextW_vc (hsp : SpecsOk Tryd.prog spNxW) (h : ∀ (g : ByteArray × Int) (w : World), U8 w ∧ g.fst.size ≤ (67108864 : Nat) → ∀ (b : Nat) (w1 : World), New w (Obj.cells #[Value.int IntKind.i64 g.snd] (3 : Nat)) b w1 → ∃ (n : Int), w1.cell? { block := b, off := (0 : Nat) } = some (Value.int IntKind.i64 n) ∧ true = true ∧ (∃ (old : Value), w1.cell? { block := b, off := (0 : Nat) } = some old) ∧ w1.frozen? { block := b, off := (0 : Nat) } = false ∧ ∀ (w11 : World), Stored w1 { block := b, off := (0 : Nat) } (Value.int IntKind.i64 (if (0 : Int) > n then (0 : Int) else n)) w11 → ∀ (b1 : Nat) (w12 : World), New w11 (Obj.cells #[Value.int IntKind.i64 (0 : Int)] (3 : Nat)) b1 w12 → true = true ∧ (∃ (old : Value), w12.cell? { block := b1, off := (0 : Nat) } = some old) ∧ w12.frozen? { block := b1, off := (0 : Nat) } = false ∧ ∀ (w13 : World), Stored w12 { block := b1, off := (0 : Nat) } (Value.int IntKind.i64 (↑g.fst.size : Int)) w13 → ∃ (g1 : GBg), #[Value.string g.fst, Value.func (Fn.func (72 : Nat)) #[] #[Value.pointer (some { block := b, off := (0 : Nat) }), Value.pointer (some { block := b1, off := (0 : Nat) })]] = #[Value.string g1.s, Value.func (Fn.func g1.gf) #[] g1.caps] ∧ (U8 w13 ∧ g1.s.size ≤ (67108864 : Nat) ∧ g1.J (0 : Nat) w13 ∧ CallsOf Tryd.prog g1.gf ∧ (∀ (q : Nat), g1.S q → q < w13.heap.size) ∧ (∀ (k : Nat) (W W' : World), g1.J k W → Ext W W' → g1.J k W') ∧ (∀ (k : Nat) (W : World), k < wn g1.s → wdB g1.s k = false → g1.J k W → g1.J (k + (1 : Nat)) W) ∧ ∀ (k : Nat) (W : World), k < wn g1.s → wdB g1.s k = true → g1.J k W → Calls Tryd.prog g1.gf (#[Value.int IntKind.i64 (↑(wp g1.s k) : Int)] ++ g1.caps) W fun (e : Ending) (W' : World) => e = Ending.returned (Value.tuple #[]) ∧ (g1.J (k + (1 : Nat)) W' ∧ Fr g1.S W W') ∧ KO W W') ∧ ∀ (x : Unit) (w' : World), g1.J (wn g1.s) w' ∧ Fr g1.S w13 w' → ∃ (n1 : Int), w'.cell? { block := b1, off := (0 : Nat) } = some (Value.int IntKind.i64 n1) ∧ ∃ (x1 : Nat), Value.int IntKind.i64 n1 = Value.int IntKind.i64 (↑x1 : Int) ∧ x1 = nextW g.fst g.snd ∧ Ext w w') :
    ((sSIN nextW)).Ok Tryd.prog 37 :=
  ok_of_vc (sSIN nextW) (annOf spNxW) spNxW (fun _ _ => rfl) (fun _ _ => rfl) hsp Tryd.func37 rfl (n := 2) (fun _ => rfl) (by kernel_rfl) (vcast (by kernel_rfl) h)

set_option maxRecDepth 1000000 in
theorem prevW_vc (hsp : SpecsOk Tryd.prog spNxW) (h : ∀ (g : ByteArray × Int) (w : World), U8 w ∧ g.fst.size ≤ (67108864 : Nat) → ∀ (b : Nat) (w1 : World), New w (Obj.cells #[Value.int IntKind.i64 g.snd] (3 : Nat)) b w1 → ∀ (b1 : Nat) (w11 : World), New w1 (Obj.cells #[Value.int IntKind.i64 (0 : Int)] (3 : Nat)) b1 w11 → true = true ∧ (∃ (old : Value), w11.cell? { block := b1, off := (0 : Nat) } = some old) ∧ w11.frozen? { block := b1, off := (0 : Nat) } = false ∧ ∀ (w12 : World), Stored w11 { block := b1, off := (0 : Nat) } (Value.int IntKind.i64 (0 : Int)) w12 → ∃ (g1 : GBg), #[Value.string g.fst, Value.func (Fn.func (74 : Nat)) #[] #[Value.pointer (some { block := b, off := (0 : Nat) }), Value.pointer (some { block := b1, off := (0 : Nat) })]] = #[Value.string g1.s, Value.func (Fn.func g1.gf) #[] g1.caps] ∧ (U8 w12 ∧ g1.s.size ≤ (67108864 : Nat) ∧ g1.J (0 : Nat) w12 ∧ CallsOf Tryd.prog g1.gf ∧ (∀ (q : Nat), g1.S q → q < w12.heap.size) ∧ (∀ (k : Nat) (W W' : World), g1.J k W → Ext W W' → g1.J k W') ∧ (∀ (k : Nat) (W : World), k < wn g1.s → wdB g1.s k = false → g1.J k W → g1.J (k + (1 : Nat)) W) ∧ ∀ (k : Nat) (W : World), k < wn g1.s → wdB g1.s k = true → g1.J k W → Calls Tryd.prog g1.gf (#[Value.int IntKind.i64 (↑(wp g1.s k) : Int)] ++ g1.caps) W fun (e : Ending) (W' : World) => e = Ending.returned (Value.tuple #[]) ∧ (g1.J (k + (1 : Nat)) W' ∧ Fr g1.S W W') ∧ KO W W') ∧ ∀ (x : Unit) (w' : World), g1.J (wn g1.s) w' ∧ Fr g1.S w12 w' → ∃ (n : Int), w'.cell? { block := b1, off := (0 : Nat) } = some (Value.int IntKind.i64 n) ∧ ∃ (x1 : Nat), Value.int IntKind.i64 n = Value.int IntKind.i64 (↑x1 : Int) ∧ x1 = prevW g.fst g.snd ∧ Ext w w') :
    ((sSIN prevW)).Ok Tryd.prog 39 :=
  ok_of_vc (sSIN prevW) (annOf spNxW) spNxW (fun _ _ => rfl) (fun _ _ => rfl) hsp Tryd.func39 rfl (n := 2) (fun _ => rfl) (by kernel_rfl) (vcast (by kernel_rfl) h)

set_option maxRecDepth 1000000 in
theorem pcsW_vc (hsp : SpecsOk Tryd.prog spAllW2) (h : ∀ (g : ByteArray) (w : World), U8 w ∧ g.size ≤ (67108864 : Nat) → ∀ (b : Nat) (w1 : World), New w (Obj.cells #[Value.slice none (0 : Nat) (0 : Nat)] (50 : Nat)) b w1 → ∃ (g1 : ByteArray), #[Value.string g] = #[Value.string g1] ∧ (U8 w1 ∧ g1.size ≤ (67108864 : Nat)) ∧ ∀ (x : GWd) (w' : World), x.s = g1 ∧ hWd x w' ∧ (∀ (q : Nat), cWd x q → w1.heap.size ≤ q) ∧ Ext w1 w' → ∃ (xs : List (Nat × ByteArray)), ∃ (C : Nat → Prop), ∃ (D0 : Nat → Prop), IterAt Tryd.prog (Value.func (Fn.func (69 : FuncId)) #[] #[Value.pointer (some { block := x.be, off := (0 : Nat) }), Value.pointer (some { block := x.bs, off := (0 : Nat) })]) (List.map encPc xs) C w' ∧ DomOk w' C D0 ∧ (∃ (a3 : Option Addr), ∃ (c : Nat), (D0 = fun (q : Nat) => q = ptrB (Value.pointer (some { block := b, off := (0 : Nat) })) ∨ blk a3 = some q) ∧ GrowS w' (ptrB (Value.pointer (some { block := b, off := (0 : Nat) }))) (50 : TypeId) (53 : TypeId) (2 : Nat) (0 : Nat) a3 c (List.flatMap encPc (List.take (0 : Nat) xs))) ∧ (Stab w'.heap.size fun (k : Nat) (D : Nat → Prop) (W : World) => ∃ (a : Option Addr), ∃ (c : Nat), (D = fun (q : Nat) => q = ptrB (Value.pointer (some { block := b, off := (0 : Nat) })) ∨ blk a = some q) ∧ GrowS W (ptrB (Value.pointer (some { block := b, off := (0 : Nat) }))) (50 : TypeId) (53 : TypeId) (2 : Nat) k a c (List.flatMap encPc (List.take k xs))) ∧ (∀ (x1 : Exit), Stab w'.heap.size fun (x : Nat) (D : Nat → Prop) (W : World) => (1 : Nat) = (0 : Nat)) ∧ (∀ (k : Nat) (x1 : Nat × ByteArray) (D : Nat → Prop) (W : World), xs[k]? = some x1 → (∃ (a4 : Option Addr), ∃ (c : Nat), (D = fun (q : Nat) => q = ptrB (Value.pointer (some { block := b, off := (0 : Nat) })) ∨ blk a4 = some q) ∧ GrowS W (ptrB (Value.pointer (some { block := b, off := (0 : Nat) }))) (50 : TypeId) (53 : TypeId) (2 : Nat) k a4 c (List.flatMap encPc (List.take k xs))) → Mid w' D0 D W → ∃ (a6 : Option Addr), ∃ (n : Nat), ∃ (c : Nat), W.cell? { block := b, off := (0 : Nat) } = some (Value.slice a6 n c) ∧ ∀ (b1 : Nat) (w11 : World), New W (Obj.cells #[Value.int IntKind.i64 (↑x1.fst : Int), Value.string x1.snd] (53 : Nat)) b1 w11 → ∃ (a' : Option Addr), ∃ (c' : Nat), ∃ (w'1 : World), AppRun Tryd.prog #[(50 : Nat), (50 : Nat)] (50 : Nat) (Value.slice a6 n c) (Value.slice (some { block := b1, off := (0 : Nat) }) (1 : Nat) (1 : Nat)) w11 a' (n + (1 : Nat)) c' w'1 ∧ KO w11 w'1 ∧ true = true ∧ (∃ (old : Value), w'1.cell? { block := b, off := (0 : Nat) } = some old) ∧ w'1.frozen? { block := b, off := (0 : Nat) } = false ∧ ∀ (w12 : World), Stored w'1 { block := b, off := (0 : Nat) } (Value.slice a' (n + (1 : Nat)) c') w12 → ∃ (D' : Nat → Prop), Step D W w12 D' ∧ ∃ (a9 : Option Addr), ∃ (c1 : Nat), (D' = fun (q : Nat) => q = ptrB (Value.pointer (some { block := b, off := (0 : Nat) })) ∨ blk a9 = some q) ∧ GrowS w12 (ptrB (Value.pointer (some { block := b, off := (0 : Nat) }))) (50 : TypeId) (53 : TypeId) (2 : Nat)
 (k + (1 : Nat)) a9 c1 (List.flatMap encPc (List.take (k + (1 : Nat)) xs))) ∧ (∀ (D : Nat → Prop) (W : World), (∃ (a3 : Option Addr), ∃ (c : Nat), (D = fun (q : Nat) => q = ptrB (Value.pointer (some { block := b, off := (0 : Nat) })) ∨ blk a3 = some q) ∧ GrowS W (ptrB (Value.pointer (some { block := b, off := (0 : Nat) }))) (50 : TypeId) (53 : TypeId) (2 : Nat) (lenX xs) a3 c (List.flatMap encPc (List.take (lenX xs) xs))) → Mid w' D0 D W → ∃ (a5 : Option Addr), ∃ (n : Nat), ∃ (c : Nat), W.cell? { block := b, off := (0 : Nat) } = some (Value.slice a5 n c) ∧ ∀ (w2 : World), Turn w.heap.size W w2 → ∃ (x1 : Option Addr × Nat × Nat), Value.slice a5 n c = Value.slice x1.fst x1.snd.fst x1.snd.snd ∧ x1.snd.fst = wn g ∧ Made w w2 (53 : TypeId) (2 : Nat) x1.fst x1.snd.fst (List.flatMap encPc (wdL g)) x1.snd.snd) ∧ True) :
    (sPcsW).Ok Tryd.prog 41 :=
  ok_of_vc sPcsW annPcsW spAllW2 (fun _ _ => rfl) (fun _ _ => rfl) hsp Tryd.func41 rfl (n := 1) (fun _ => rfl) (by kernel_rfl) (vcast (by kernel_rfl) h)

set_option maxRecDepth 1000000 in
theorem rowW_vc (hsp : SpecsOk Tryd.prog spRowW) (h : ∀ (g : GRow12) (w : World), U8 w ∧ g.s.size ≤ (67108864 : Nat) ∧ CellsAt w g.a (List.map Value.string g.want) ∧ g.want.length ≤ (1000000 : Nat) → ∃ (g1 : ByteArray), #[Value.string g.s] = #[Value.string g1] ∧ (U8 w ∧ g1.size ≤ (67108864 : Nat)) ∧ ∀ (x : Option Addr × Nat × Nat) (w' : World), x.snd.fst = wn g1 ∧ Made w w' (53 : TypeId) (2 : Nat) x.fst x.snd.fst (List.flatMap encPc (wdL g1)) x.snd.snd → bcase ((↑x.snd.fst : Int) != (↑g.want.length : Int)) (∃ (x1 : Bool), Value.bool false = Value.bool x1 ∧ x1 = rowW g.s g.want ∧ Ext w w') ((∃ (x1 : Nat), Value.int IntKind.i64 (0 : Int) = Value.int IntKind.i64 (↑x1 : Int) ∧ Value.int IntKind.i64 (0 : Int) = Value.int IntKind.i64 (↑(wp g.s x1) : Int) ∧ x1 ≤ wn g.s ∧ List.take x1 (List.map Prod.snd (wdL g.s)) = List.take x1 g.want ∧ Ext w' w') ∧ ∀ (u : Nat → Value) (x1 : Nat) (w'1 : World), x1 ≤ wn g.s ∧ List.take x1 (List.map Prod.snd (wdL g.s)) = List.take x1 g.want ∧ Ext w' w'1 → bcase (decide ((↑x1 : Int) < (↑x.snd.fst : Int))) (∀ (w1 : World), Drew w'1 w1 → ∃ (k : Nat), (↑x1 : Int) = (↑k : Int) ∧ k < x.snd.fst ∧ ptrE x.fst fun (b o : Nat) => ∃ (s : ByteArray), w'1.cell? { block := b, off := o + k * (2 : Nat) + (1 : Nat) } = some (Value.string s) ∧ ∃ (k1 : Nat), (↑x1 : Int) = (↑k1 : Int) ∧ k1 < g.want.length ∧ ptrE g.a fun (b1 o1 : Nat) => ∃ (s1 : ByteArray), w'1.cell? { block := b1, off := o1 + k1 } = some (Value.string s1) ∧ bcase (!s.toList == s1.toList) (∃ (x2 : Bool), Value.bool false = Value.bool x2 ∧ x2 = rowW g.s g.want ∧ Ext w w1) (∃ (k2 : Nat), (↑x1 : Int) = (↑k2 : Int) ∧ k2 < x.snd.fst ∧ ptrE x.fst fun (b2 o2 : Nat) => ∃ (n : Int), w'1.cell? { block := b2, off := o2 + k2 * (2 : Nat) } = some (Value.int IntKind.i64 n) ∧ bcase (n != (↑(wp g.s x1) : Int)) (∃ (x2 : Bool), Value.bool false = Value.bool x2 ∧ x2 = rowW g.s g.want ∧ Ext w w1) (∃ (k3 : Nat), (↑x1 : Int) = (↑k3 : Int) ∧ k3 < g.want.length ∧ ptrE g.a fun (b3 o3 : Nat) => ∃ (s2 : ByteArray), w1.cell? { block := b3, off := o3 + k3 } = some (Value.string s2) ∧ InR IntKind.i64 ((↑(wp g.s x1) : Int) + (↑s2.size : Int)) ∧ InR IntKind.i64 ((↑x1 : Int) + (1 : Int)) ∧ ∃ (y : Nat), Value.int IntKind.i64 ((↑x1 : Int) + (1 : Int)) = Value.int IntKind.i64 (↑y : Int) ∧ Value.int IntKind.i64 ((↑(wp g.s x1) : Int) + (↑s2.size : Int)) = Value.int IntKind.i64 (↑(wp g.s y) : Int) ∧ (y ≤ wn g.s ∧ List.take y (List.map Prod.snd (wdL g.s)) = List.take y g.want ∧ Ext w' w1) ∧ wn g.s - y < wn g.s - x1))) (∃ (x2 : Bool), Value.bool true = Value.bool x2 ∧ x2 = rowW g.s g.want ∧ Ext w w'1))) :
    (sRowW).Ok Tryd.prog 43 :=
  ok_of_vc sRowW annRowW spRowW (fun _ _ => rfl) (fun _ _ => rfl) hsp Tryd.func43 rfl (n := 2) (fun _ => rfl) (by kernel_rfl) (vcast (by kernel_rfl) h)

set_option maxRecDepth 1000000 in
theorem sameW_vc (hsp : SpecsOk Tryd.prog []) (h : ∀ (g : GPp12) (w : World), (CellsAt w g.a (List.flatMap encPc g.l) ∧ CellsAt w g.b (List.flatMap encPc g.m) ∧ g.l.length ≤ (67108864 : Nat) ∧ g.k ≤ (67108864 : Nat) ∧ ∀ (p : Nat × ByteArray), p ∈ g.m → p.fst ≤ (67108864 : Nat)) → bcase ((↑g.l.length : Int) != (↑g.m.length : Int)) (∃ (x : Bool), Value.bool false = Value.bool x ∧ x = decide (g.l = List.map (upP g.k) g.m) ∧ Ext w w) ((∃ (x : Nat), Value.int IntKind.i64 (0 : Int) = Value.int IntKind.i64 (↑x : Int) ∧ x ≤ g.l.length ∧ List.take x g.l = List.take x (List.map (upP g.k) g.m) ∧ Ext w w) ∧ ∀ (u : Nat → Value) (x : Nat) (w' : World), x ≤ g.l.length ∧ List.take x g.l = List.take x (List.map (upP g.k) g.m) ∧ Ext w w' → bcase (decide ((↑x : Int) < (↑g.l.length : Int))) (∀ (w1 : World), Drew w' w1 → ∃ (k : Nat), (↑x : Int) = (↑k : Int) ∧ k < g.l.length ∧ ptrE g.a fun (b o : Nat) => ∃ (s : ByteArray), w'.cell? { block := b, off := o + k * (2 : Nat) + (1 : Nat) } = some (Value.string s) ∧ ∃ (k1 : Nat), (↑x : Int) = (↑k1 : Int) ∧ k1 < g.m.length ∧ ptrE g.b fun (b1 o1 : Nat) => ∃ (s1 : ByteArray), w'.cell? { block := b1, off := o1 + k1 * (2 : Nat) + (1 : Nat) } = some (Value.string s1) ∧ bcase (!s.toList == s1.toList) (∃ (x1 : Bool), Value.bool false = Value.bool x1 ∧ x1 = decide (g.l = List.map (upP g.k) g.m) ∧ Ext w w1) (∃ (k2 : Nat), (↑x : Int) = (↑k2 : Int) ∧ k2 < g.l.length ∧ ptrE g.a fun (b2 o2 : Nat) => ∃ (n : Int), w'.cell? { block := b2, off := o2 + k2 * (2 : Nat) } = some (Value.int IntKind.i64 n) ∧ ∃ (k3 : Nat), (↑x : Int) = (↑k3 : Int) ∧ k3 < g.m.length ∧ ptrE g.b fun (b3 o3 : Nat) => ∃ (n1 : Int), w'.cell? { block := b3, off := o3 + k3 * (2 : Nat) } = some (Value.int IntKind.i64 n1) ∧ InR IntKind.i64 (n1 + (↑g.k : Int)) ∧ bcase (n != n1 + (↑g.k : Int)) (∃ (x1 : Bool), Value.bool false = Value.bool x1 ∧ x1 = decide (g.l = List.map (upP g.k) g.m) ∧ Ext w w1) (InR IntKind.i64 ((↑x : Int) + (1 : Int)) ∧ ∃ (y : Nat), Value.int IntKind.i64 ((↑x : Int) + (1 : Int)) = Value.int IntKind.i64 (↑y : Int) ∧ (y ≤ g.l.length ∧ List.take y g.l = List.take y (List.map (upP g.k) g.m) ∧ Ext w w1) ∧ g.l.length - y < g.l.length - x))) (∃ (x1 : Bool), Value.bool true = Value.bool x1 ∧ x1 = decide (g.l = List.map (upP g.k) g.m) ∧ Ext w w'))) :
    (sSameW).Ok Tryd.prog 44 :=
  ok_of_vc sSameW annSameW [] (fun _ _ => rfl) (fun _ _ => rfl) hsp Tryd.func44 rfl (n := 3) (fun _ => rfl) (by kernel_rfl) (vcast (by kernel_rfl) h)

set_option maxRecDepth 1000000 in
theorem aliveW_vc (hsp : SpecsOk Tryd.prog spAliveW) (h : ∀ (g : Unit) (w : World), U8 w → ∃ (g1 : ByteArray × Int), #[Value.string (ByteArray.mk #[(97 : UInt8), (32 : UInt8), (98 : UInt8), (99 : UInt8)]), Value.int IntKind.i64 (3 : Int)] = #[Value.string g1.fst, Value.int IntKind.i64 g1.snd] ∧ (U8 w ∧ g1.fst.size ≤ (67108864 : Nat)) ∧ ∀ (x : Nat × Nat) (w' : World), x = (wp g1.fst (ixW g1.fst (clampN g1.fst g1.snd)), wp g1.fst (ixW g1.fst (clampN g1.fst g1.snd) + (1 : Nat))) ∧ Ext w w' → ∀ (b : Nat) (w1 : World), New w' (Obj.cells #[Value.string (ByteArray.mk #[(100 : UInt8), (111 : UInt8), (110 : UInt8), (39 : UInt8), (116 : UInt8)]), Value.string (ByteArray.mk #[(32 : UInt8)]), Value.string (ByteArray.mk #[(115 : UInt8), (116 : UInt8), (111 : UInt8), (112 : UInt8)]), Value.string (ByteArray.mk #[(46 : UInt8)])] (9 : Nat)) b w1 → ∃ (g2 : GRow12), #[Value.string { data := #[(100 : UInt8), (111 : UInt8), (110 : UInt8), (39 : UInt8), (116 : UInt8), (32 : UInt8), (115 : UInt8), (116 : UInt8), (111 : UInt8), (112 : UInt8), (46 : UInt8)] }, Value.slice (some { block := b, off := (0 : Nat) }) (4 : Nat) (4 : Nat)] = #[Value.string g2.s, Value.slice g2.a g2.want.length g2.c] ∧ (U8 w1 ∧ g2.s.size ≤ (67108864 : Nat) ∧ CellsAt w1 g2.a (List.map Value.string g2.want) ∧ g2.want.length ≤ (1000000 : Nat)) ∧ ∀ (x1 : Bool) (w'1 : World), x1 = rowW g2.s g2.want ∧ Ext w1 w'1 → bcase x1 (∃ (g3 : ByteArray × Int), #[Value.string (ByteArray.mk #[(97 : UInt8), (32 : UInt8), (98 : UInt8)]), Value.int IntKind.i64 (0 : Int)] = #[Value.string g3.fst, Value.int IntKind.i64 g3.snd] ∧ (U8 w'1 ∧ g3.fst.size ≤ (67108864 : Nat)) ∧ ∀ (x2 : Nat) (w'2 : World), x2 = nextW g3.fst g3.snd ∧ Ext w'1 w'2 → bcase ((↑x2 : Int) == (2 : Int)) (∃ (g4 : ByteArray × Int), #[Value.string (ByteArray.mk #[(97 : UInt8), (32 : UInt8), (98 : UInt8)]), Value.int IntKind.i64 (3 : Int)] = #[Value.string g4.fst, Value.int IntKind.i64 g4.snd] ∧ (U8 w'2 ∧ g4.fst.size ≤ (67108864 : Nat)) ∧ ∀ (x3 : Nat) (w'3 : World), x3 = prevW g4.fst g4.snd ∧ Ext w'2 w'3 → bcase ((↑x3 : Int) == (2 : Int)) (∃ (g5 : ByteArray × Int), #[Value.string (ByteArray.mk #[(97 : UInt8), (32 : UInt8), (98 : UInt8)]), Value.int IntKind.i64 (1 : Int)] = #[Value.string g5.fst, Value.int IntKind.i64 g5.snd] ∧ (U8 w'3 ∧ g5.fst.size ≤ (67108864 : Nat)) ∧ ∀ (x4 : Bool) (w'4 : World), x4 = isW g5.fst g5.snd ∧ Ext w'3 w'4 → bcase x4 (∃ (g6 : ByteArray × Int), #[Value.string (ByteArray.mk #[(97 : UInt8), (98 : UInt8)]), Value.int IntKind.i64 (1 : Int)] = #[Value.string g6.fst, Value.int IntKind.i64 g6.snd] ∧ (U8 w'4 ∧ g6.fst.size ≤ (67108864 : Nat)) ∧ ∀ (x5 : Bool) (w'5 : World), x5 = isW g6.fst g6.snd ∧ Ext w'4 w'5 → bcase (!x5) (bcase ((↑x.fst : Int) == (2 : Int)) (∃ (x6 : Unit), Value.bool ((↑x.snd : Int) == (4 : Int)) = Value.bool true ∧ Ext w w'5) (∃ (x6 : Unit), Value.bool false = Value.bool true ∧ Ext w w'5)) (∃ (x6 : Unit), Value.bool false = Value.bool true ∧ Ext w w'5))
 (∃ (x5 : Unit), Value.bool false = Value.bool true ∧ Ext w w'4)) (∃ (x4 : Unit), Value.bool false = Value.bool true ∧ Ext w w'3)) (∃ (x3 : Unit), Value.bool false = Value.bool true ∧ Ext w w'2)) (∃ (x2 : Unit), Value.bool false = Value.bool true ∧ Ext w w'1)) :
    ((sYes U8)).Ok Tryd.prog 32 :=
  ok_of_vc (sYes U8) (annOf spAliveW) spAliveW (fun _ _ => rfl) (fun _ _ => rfl) hsp Tryd.func32 rfl (n := 0) (fun _ => rfl) (by kernel_rfl) (vcast (by kernel_rfl) h)

end Go.Proofs.YthpjkgoahneldaaDoor
end
