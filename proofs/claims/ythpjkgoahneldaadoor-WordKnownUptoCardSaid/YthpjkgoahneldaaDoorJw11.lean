/-
  Texts joined by program: Cm, WkH, WkWa, WkWb, WkWc, WkWd.
-/
import Derived.Test.YthpjkgoahneldaaDoorJw06
import Derived.Test.YthpjkgoahneldaaDoorJw10
import Derived.Test.YthpjkgoahneldaaDoorJw08
import Derived.Test.YthpjkgoahneldaaDoorJw07
set_option linter.unusedVariables false
set_option linter.unusedSimpArgs false

section
/-
  Clusters in plain words, second part: a text cut at a border; a bad byte stands alone; a cluster by itself.
-/
namespace Go.Proofs.YthpjkgoahneldaaDoor
open Go Go.RowKit Vc Ut Tb Cl Orb

theorem ee {s : ByteArray} {a b c d : Nat} (h : a + d ≤ b) : (s.extract a b).extract c d = s.extract (a + c) (a + d) := by
  rw [ByteArray.extract_extract, Nat.min_eq_left h]
theorem pcl_at (s : ByteArray) (k : Nat) : (pcL s)[k]? = if k < ncl s then some (pcP s k) else none := by
  unfold pcL
  rw [List.getElem?_map]
  split
  · rename_i h; rw [List.getElem?_range h]; rfl
  · rename_i h; rw [List.getElem?_eq_none (by simp; omega)]; rfl
theorem pcL_take {s : ByteArray} {n : Nat} (hn : n ≤ ncl s) : (pcL s).take n = pcL (s.extract 0 (bp s n)) := by
  apply List.ext_getElem?
  intro k
  rw [pcl_at, ncl_take hn, List.getElem?_take]
  split
  · rename_i h
    rw [pcl_at, if_pos (by omega)]
    unfold pcP
    rw [bp_take hn (by omega), bp_take hn (by omega), ee (by have := bp_mono s (show k + 1 ≤ n by omega); omega), Nat.zero_add, Nat.zero_add]
  · rfl
def upBy (k : Nat) (p : Nat × ByteArray) : Nat × ByteArray := (p.1 + k, p.2)
theorem pcL_drop {s : ByteArray} {n : Nat} (hn : n ≤ ncl s) : (pcL s).drop n = (pcL (s.extract (bp s n) s.size)).map (upBy (bp s n)) := by
  apply List.ext_getElem?
  intro k
  have h1 := ncl_drop hn
  rw [List.getElem?_drop, List.getElem?_map, pcl_at, pcl_at]
  by_cases h : n + k < ncl s
  · rw [if_pos h, if_pos (by omega)]
    have h2 := bp_drop hn k
    have h3 := bp_drop hn (k + 1)
    have h4 := bp_le s (n + (k + 1))
    unfold pcP upBy
    simp only [Option.map_some]
    rw [ee (by omega), h2, show bp s n + bp (s.extract (bp s n) s.size) k = bp s (n + k) from by omega, show bp s n + bp (s.extract (bp s n) s.size) (k + 1) = bp s (n + k + 1) from by rw [Nat.add_assoc]; omega]
  · rw [if_neg h, if_neg (by omega)]; rfl
theorem pcR_rev (s : ByteArray) : pcR s = (pcL s).reverse := by
  apply List.ext_getElem?
  intro k
  by_cases h : k < ncl s
  · rw [List.getElem?_reverse (by simp [pcL]; omega)]
    rw [pcl_at, if_pos (by simp [pcL]; omega)]
    unfold pcR
    rw [List.getElem?_map, List.getElem?_range h]
    simp [pcL]
  · rw [List.getElem?_eq_none (by simp [pcR]; omega), List.getElem?_eq_none (by simp [pcL]; omega)]
theorem pcV_flat (s : ByteArray) : (List.range (ncl s)).flatMap (pcV s) = (pcL s).flatMap encPc := by
  unfold pcL
  rw [List.flatMap_map]
  rfl

/-! ### Bad bytes -/

theorem goN_mem {s : ByteArray} {k : Nat} : ∀ {f n m : Nat}, n ≤ m → m < goN s k f n → goB s k m = true
  | 0, n, m, h1, h2 => by simp only [goN] at h2; omega
  | f + 1, n, m, h1, h2 => by
    simp only [goN] at h2
    split at h2
    · rename_i hg
      by_cases he : m = n
      · subst he; exact hg
      · exact goN_mem (by omega) h2
    · omega
/-- A bad byte is a cluster by itself. -/
theorem bad_alone {s : ByteArray} {k m : Nat} (h : m < firstN s k) (hb : isBad s (k + m) = true) : m = 0 ∧ firstN s k = 1 := by
  by_cases h0 : isBad s k = true
  · have : firstN s k = 1 := by unfold firstN; rw [if_pos h0]
    omega
  · have hm : m ≠ 0 := by rintro rfl; exact h0 hb
    exfalso
    unfold firstN at h
    rw [if_neg h0] at h
    split at h
    · rename_i hc
      have hm1 : m = 1 := by omega
      subst hm1
      simp only [crB, Bool.and_eq_true, beq_iff_eq] at hc
      have h10 := hc.2.2
      unfold sg at h10
      simp only [isBad, decide_eq_true_eq] at hb
      omega
    · split at h
      · omega
      · have := goN_mem (show 1 ≤ m by omega) h
        simp only [goB, Bool.and_eq_true] at this
        rw [hb] at this
        simp at this
theorem decodeN_high (n b0 b1 b2 b3 : Nat) (h : 245 ≤ b0) (hn : 1 ≤ n) : Lib.decodeN n b0 b1 b2 b3 = (65533, 1) := by
  unfold Lib.decodeN
  repeat' split
  all_goals first | rfl | omega
/-- A byte that belongs to no character. -/
theorem high_bad {s : ByteArray} {q : Nat} (h : q < s.size) (hb : 245 ≤ bt s q) : ∃ n, n < cnt s ∧ pos s n = q ∧ isBad s n = true := by
  obtain ⟨n, h1, h2⟩ := pos_lead h (by unfold cont; have := bt_lt s q; omega)
  refine ⟨n, h1, h2, ?_⟩
  unfold isBad dcN dcR
  rw [h2, dc_eq, decodeN_high _ _ _ _ _ hb (by omega)]
  rfl
theorem high_border {s : ByteArray} {q : Nat} (h : q < s.size) (hb : 245 ≤ bt s q) : ∃ i, i < ncl s ∧ bp s i = q ∧ bp s (i + 1) = q + 1 := by
  obtain ⟨k, h1, h2, h3⟩ := high_bad h hb
  obtain ⟨i, g1, g2, g3⟩ := orb_cover (first_fit s) h1
  have g1' : i < ncl s := g1
  have g2' : bk s i ≤ k := g2
  have g3' : k < bk s (i + 1) := g3
  rw [bk_succ g1'] at g3'
  obtain ⟨e1, e2⟩ := bad_alone (s := s) (k := bk s i) (m := k - bk s i) (by omega) (by rw [show bk s i + (k - bk s i) = k from by omega]; exact h3)
  have hk : bk s i = k := by omega
  refine ⟨i, g1', by unfold bp; rw [hk, h2], ?_⟩
  unfold bp
  rw [bk_succ g1', e2, hk, pos_succ (by rw [h2]; exact h), h2]
  simp only [isBad, decide_eq_true_eq] at h3
  rw [h2] at h3
  rw [h3.1]

/-! ### A cluster by itself -/

theorem pc_own {s : ByteArray} {i : Nat} (hi : i < ncl s) : ∃ t, (pcP s i).2 = t.extract 0 (bp t 1) ∧ 1 ≤ ncl t ∧ 0 < cnt t := by
  have h1 := ncl_drop (s := s) (k := i) (by omega)
  have h2 := bp_drop (s := s) (k := i) (by omega) 1
  have h3 := bp_le s (i + 1)
  refine ⟨s.extract (bp s i) s.size, ?_, by omega, ?_⟩
  · unfold pcP
    rw [ee (by omega), show bp s i + bp (s.extract (bp s i) s.size) 1 = bp s (i + 1) from by omega]
    rfl
  · have := (bk_lt (s := s.extract (bp s i) s.size) (i := 0)).1 (by omega)
    omega
theorem own_laws {t : ByteArray} (h1 : 1 ≤ ncl t) (h0 : 0 < cnt t) : ncl (t.extract 0 (bp t 1)) = 1 ∧ bp (t.extract 0 (bp t 1)) 1 = (t.extract 0 (bp t 1)).size ∧
    1 ≤ cnt (t.extract 0 (bp t 1)) ∧ cnt (t.extract 0 (bp t 1)) ≤ 32 ∧ (badL (t.extract 0 (bp t 1)) ≠ [] → (t.extract 0 (bp t 1)).size = 1) := by
  have hf := first_fit t 0 h0
  have hk : bk t 1 = firstN t 0 := by
    have := bk_succ (s := t) (i := 0) (by omega)
    rw [show bk t 0 = 0 from rfl] at this
    simpa using this
  refine ⟨ncl_take h1, ?_, ?_, ?_, ?_⟩
  · rw [bp_take h1 (by omega), size_ext (bp_le t 1)]; omega
  · rw [cnt_cut, hk]; omega
  · rw [cnt_cut, hk]; exact first_le t h0
  · intro hb
    have hc := cnt_cut (s := t) 1
    obtain ⟨p, hp⟩ := List.exists_mem_of_ne_nil _ hb
    unfold badL at hp
    obtain ⟨n, hn, _⟩ := List.mem_map.1 hp
    obtain ⟨hn1, hn2⟩ := List.mem_filter.1 hn
    rw [List.mem_range, hc] at hn1
    have hb2 : isBad t n = true := by
      have := bad_take (s := t) hn1 (bk_le t 1)
      rw [← this]; exact hn2
    have := bad_alone (s := t) (k := 0) (m := n) (by omega) (by simpa using hb2)
    have hn0 : n = 0 := this.1
    subst hn0
    rw [size_ext (bp_le t 1)]
    unfold bp
    rw [hk, this.2, pos_succ (n := 0) (cnt_lt.1 h0)]
    simp only [isBad, decide_eq_true_eq] at hb2
    rw [hb2.1]; rfl

/-! ### Places -/

theorem at_in {s : ByteArray} {i q : Nat} (hi : i < ncl s) (h1 : bp s i ≤ q) (h2 : q < bp s (i + 1)) : ixP s (clampN s (q : Int)) = i := by
  have hc : clampN s (q : Int) = q := by
    have := bp_le s (i + 1)
    unfold clampN
    rw [if_neg (by omega), if_neg (by omega)]; rfl
  rw [hc]
  unfold ixP
  rw [List.find?_range_eq_some.2 ⟨by simpa using h2, by simpa using hi, fun j hj => by have := bp_mono s (show j + 1 ≤ i by omega); simp; omega⟩]
  rfl
theorem at_end {s : ByteArray} {p : Int} (h : (s.size : Int) ≤ p) : ixP s (clampN s p) = ncl s := by
  have hc : clampN s p = s.size := by
    unfold clampN
    rw [if_neg (by omega)]
    split
    · rfl
    · omega
  rw [hc]
  unfold ixP
  rw [List.find?_eq_none.2 (fun j hj => by have := bp_le s (j + 1); simp; omega)]
  rfl

end Go.Proofs.YthpjkgoahneldaaDoor
end

section
/-
  Chapter 3: facts that the laws' walks share.
-/
namespace Go.Proofs.YthpjkgoahneldaaDoor
open Go Go.RowKit Vc Ut Tb Cl Orb

theorem Row.offS {W : World} {e t : TypeId} {n c q s : Nat} {a : Option Addr} {vs : List Value} {cs : Array Value} (h : Row W e s a n vs c) (hq : W.heap[q]? = some (.cells cs t)) (hne : t ≠ e) : blk a ≠ some q := by
  intro he
  rcases h.2 with ⟨rfl, _⟩ | ⟨g, cur, rfl, h1, _⟩
  · cases he
  · cases he
    rw [hq] at h1
    simp only [Option.some.injEq, Obj.cells.injEq] at h1
    exact hne h1.2.1
theorem GrowS.keep {W W' : World} {box s n : Nat} {t e : TypeId} {a : Option Addr} {c : Nat} {vs : List Value} (h : GrowS W box t e s n a c vs) (hk : ∀ q, q = box ∨ blk a = some q → W'.heap[q]? = W.heap[q]?) : GrowS W' box t e s n a c vs :=
  ⟨(hk box (.inl rfl)).trans h.hb, h.row.keep fun g hg => hk g (.inr hg)⟩
theorem GrowS.push {P : Program} {W w1 : World} {box b s n : Nat} {t tt ty e : TypeId} {bytes c : Nat} {a : Option Addr} {vs news : List Value} (hE : ElemOk P tt e s bytes) (hs0 : 0 < s) (h : GrowS W box t e s n a c vs) (hne : t ≠ e) (hn : New W (.cells news.toArray e) b w1) (hl : news.length = 1 * s)
    (hv : ∀ u ∈ news, u.oneCell' = true) (h63 : n + 1 ≤ maxLen) (hb : (n + 1) * bytes ≤ 140737488355328) :
    ∃ a' c' w2, AppRun P #[tt, tt] ty (.slice a n c) (.slice (some ⟨b, 0, none⟩) 1 1) w1 a' (n + 1) c' w2 ∧ KO w1 w2 ∧ (∃ old, w2.cell? ⟨box, 0, none⟩ = some old) ∧ w2.frozen? ⟨box, 0, none⟩ = false ∧
      ∀ {w3 : World}, Stored w2 ⟨box, 0, none⟩ (.slice a' (n + 1) c') w3 → GrowS w3 box t e s (n + 1) a' c' (vs ++ news) ∧ Fr (fun q => q = box ∨ blk a = some q) W w3 ∧ (∀ q, blk a' = some q → blk a = some q ∨ W.heap.size ≤ q) := by
  obtain ⟨a', c', w2, hr, hko, hrow, hg, hor, _⟩ := h.row.pushN (P := P) (ty := ty) hE hs0 (m := 1) (news := news) hn hl hv h63 (.inr hb)
  have hb1 := hn.ext.heap h.hb
  have hoff := Row.offS h.row h.hb hne
  have hb2 : w2.heap[box]? = some (.cells #[.slice a n c] t) := (hg.block box (heap_lt hb1) (fun e => hoff e.symm)).trans hb1
  refine ⟨a', c', w2, hr, hko, box_old hb2, box_free hb2, fun {w3} hs => ?_⟩
  have hoff' : ∀ q, blk a' = some q → blk a = some q ∨ W.heap.size ≤ q := by
    intro q hq
    rcases hor with rfl | ⟨rfl, _⟩
    · exact .inl hq
    · simp [blk] at hq; subst hq; exact .inr hn.ext.size
  have hne' : blk a' ≠ some box := fun he => by
    rcases hoff' box he with h1 | h1
    · exact hoff h1
    · have := heap_lt h.hb; omega
  refine ⟨⟨hs.box hb2, hrow.keep fun g hg' => hs.other (by show g ≠ box; rintro rfl; exact hne' hg')⟩, ?_, hoff'⟩
  refine ((Fr.of_ext (S := fun q => q = box ∨ blk a = some q) hn.ext).trans (Fr.grown hg) (fun x _ hx => .inr hx)).trans (Fr.stored hs) (fun x _ hx => .inl hx)

theorem enc_one (p : Nat × ByteArray) : ∀ u ∈ encPc p, u.oneCell' = true := by
  intro u hu
  simp only [encPc, List.mem_cons, List.not_mem_nil, or_false] at hu
  rcases hu with rfl | rfl <;> rfl
theorem enc_at {l : List (Nat × ByteArray)} {i j : Nat} {p : Nat × ByteArray} (h : l[i]? = some p) (hj : j < 2) : (l.flatMap encPc)[i * 2 + j]? = (encPc p)[j]? := flat_at (f := encPc) (s := 2) (fun _ => rfl) h hj
theorem take_flat {l : List (Nat × ByteArray)} {k : Nat} {p : Nat × ByteArray} (h : l[k]? = some p) : (l.take (k + 1)).flatMap encPc = (l.take k).flatMap encPc ++ encPc p := by
  rw [List.take_add_one, h, List.flatMap_append]; simp

theorem yes_ext {w w' : World} (h : Ext w w') : ∃ (_ : Unit), Value.bool true = Value.bool true ∧ Ext w w' := ⟨(), rfl, h⟩

theorem mod_nat {a : Int} {n : Nat} : a.tmod ((n : Int) + 1) < (n : Int) + 1 ∧ -((n : Int) + 1) < a.tmod ((n : Int) + 1) := by
  have h1 := Int.tmod_lt_of_pos a (b := (n : Int) + 1) (by omega)
  have h2 := Int.lt_tmod_of_pos a (b := (n : Int) + 1) (by omega)
  omega

theorem pc_cell {w : World} {s : ByteArray} {a : Option Addr} {k : Nat} {j : Nat} {v : Value} {K : Nat → Nat → Prop} (h : CellsAt w a ((pcL s).flatMap encPc)) (hk : k < ncl s) (hj : j < 2) (hv : (encPc (pcP s k))[j]? = some v)
    (hK : ∀ b o, w.cell? ⟨b, o + k * 2 + j, none⟩ = some v → K b o) : ptrE a K := h.fld (s := 2) (by rw [enc_at (pc_get hk) hj]; exact hv) hK
theorem upP_zero (l : List (Nat × ByteArray)) : l.map (upP 0) = l := by
  rw [List.map_congr_left (g := id) (fun p _ => by cases p; rfl), List.map_id]
theorem pc_le {s : ByteArray} (hs : s.size ≤ 67108864) : ∀ p ∈ pcL s, p.1 ≤ 67108864 := by
  intro p hp
  obtain ⟨i, _, rfl⟩ := List.mem_map.1 hp
  have := bp_le s i
  show bp s i ≤ _
  omega
theorem pc_sz {s : ByteArray} {i : Nat} : ((pcP s i).2.size : Int) = (bp s (i + 1) : Int) - bp s i := ext_sz (bp_le s _) (bp_mono s (by omega))

theorem flat_take {α : Type} {f : α → List Value} {s : Nat} (hf : ∀ x, (f x).length = s) : ∀ (l : List α) (n : Nat), (l.flatMap f).take (n * s) = (l.take n).flatMap f
  | [], n => by simp
  | x :: l, 0 => by simp
  | x :: l, n + 1 => by
    rw [List.flatMap_cons, List.take_succ_cons, List.flatMap_cons, List.take_append, hf, List.take_of_length_le (by rw [hf, Nat.add_mul]; omega), show (n + 1) * s - s = n * s from by rw [Nat.add_mul]; omega, flat_take hf l n]


end Go.Proofs.YthpjkgoahneldaaDoor
end

section
/-
  Chapter 12: a cluster's sort, what joins, when a segment goes on; the document's list.
-/
namespace Go.Proofs.YthpjkgoahneldaaDoor
open Go Go.RowKit Vc Ut Tb Cl Orb Wd

theorem sortP_ok : (sSN sortC).Ok Tryd.prog 104 := by
  refine sortP_vc ⟨next_ok, ckind_ok, cbrk_ok, trivial⟩ ?_
  rintro (s : ByteArray) w ⟨hU, hs⟩
  refine ⟨s, rfl, ⟨hU, hs⟩, ?_⟩
  rintro ⟨r, n⟩ w1 ⟨hr, hn, e1⟩
  dsimp only at hr hn ⊢
  subst hr hn
  refine bcase_mk (fun h => ⟨0, rfl, ?_, e1⟩) (fun h => ?_)
  · simp only [Bool.and_eq_true, beq_iff_eq, decide_eq_true_eq] at h
    unfold sortC; rw [if_pos (by omega)]
  have h0 : ¬ (nxR s = 65533 ∧ nxN s < 2) := by
    rintro ⟨ha, hb⟩
    rw [ha] at h
    simp only [Bool.and_eq_false_iff, decide_eq_false_iff_not, beq_self_eq_true] at h
    rcases h with h | h
    · cases h
    · omega
  refine ⟨_, rfl, trivial, ?_⟩
  rintro k w2 ⟨hk, e2⟩
  refine ⟨_, rfl, trivial, ?_⟩
  rintro b w3 ⟨hb, e3⟩
  subst hk hb
  have e := e1.trans (e2.trans e3)
  have hS : sortC s = if kindR (nxR s) = 3 ∧ brkR (nxR s) = 7 then 2 else if kindR (nxR s) = 3 ∨ kindR (nxR s) = 2 ∨ nxR s = 95 then 3 else if kindR (nxR s) = 4 then 4 else if nxR s = 9 ∨ (kindR (nxR s) = 5 ∧ brkR (nxR s) ≠ 2) then 1 else 0 := by
    unfold sortC; rw [if_neg h0]
  rw [hS]
  refine bcase_mk (fun h1 => ⟨2, rfl, by rw [if_pos (by simpa using h1)], e⟩) (fun h1 => ?_)
  rw [if_neg (by simpa using h1)]
  refine bcase_mk (fun h2 => ⟨3, rfl, by rw [if_pos (by simpa using h2)], e⟩) (fun h2 => ?_)
  rw [if_neg (by simpa using h2)]
  refine bcase_mk (fun h3 => ⟨4, rfl, by rw [if_pos (by simpa using h3)], e⟩) (fun h3 => ?_)
  rw [if_neg (by simpa using h3)]
  exact bcase_mk (fun h4 => ⟨1, rfl, by rw [if_pos (by simpa using h4)], e⟩) (fun h4 => ⟨0, rfl, by rw [if_neg (by simpa using h4)], e⟩)

theorem sortR_ok : sSortR.Ok Tryd.prog 66 := by
  refine sortR_vc ⟨signs_ok, rkind_ok, rbrk_ok, trivial⟩ ?_
  rintro (s : ByteArray) w ⟨hU, hs, hz⟩
  refine ⟨s, rfl, ⟨hU, hs⟩, ?_⟩
  rintro ⟨a, n, c⟩ w1 ⟨hn, hm⟩
  dsimp only at hn hm ⊢
  subst hn
  have h0 : 0 < cnt s := Nat.pos_of_ne_zero (fun e => by have := cnt_zero.1 e; omega)
  have e := hm.ext
  have rd : ∀ {j : Nat} {v : Value} {K : Nat → Nat → Prop}, j < 3 → (sgnV s 0)[j]? = some v → (∀ b o, w1.cell? ⟨b, o + 0 * 3 + j, none⟩ = some v → K b o) → ptrE a K := fun hj hv hK =>
    hm.row.cells.fld (s := 3) (by rw [flat_at (f := sgnV s) (s := 3) (fun _ => rfl) (List.getElem?_range h0) hj]; exact hv) hK
  refine ⟨0, rfl, h0, rd (j := 0) (by decide) rfl fun _ _ hb => ⟨_, hb, 0, rfl, h0, rd (j := 2) (by decide) rfl fun _ _ hb => ⟨_, hb, ?_⟩⟩⟩
  have hR : sg s 0 = nxR s := by unfold nxR; rw [if_neg (by omega)]; rfl
  have hB : isBad s 0 = decide (nxR s = 65533 ∧ nxN s < 2) := by
    have hp : 1 ≤ dcN s 0 := dcN_pos _ _
    unfold isBad nxR nxN
    rw [if_neg (by omega), if_neg (by omega)]
    show decide (dcN s 0 = 1 ∧ dcR s 0 = 65533) = _
    rw [decide_eq_decide]; omega
  rw [hR, hB]
  refine bcase_mk (fun h => ⟨0, rfl, ?_, e⟩) (fun h => ?_)
  · unfold sortC; rw [if_pos (of_decide_eq_true h)]; rfl
  have h0 := of_decide_eq_false h
  refine ⟨_, rfl, trivial, ?_⟩
  rintro k w2 ⟨hk, hw⟩
  refine ⟨_, rfl, trivial, ?_⟩
  rintro b w3 ⟨hb, hw3⟩
  subst hk hb hw3 hw
  have hS : sortC s = if kindR (nxR s) = 3 ∧ brkR (nxR s) = 7 then 2 else if kindR (nxR s) = 3 ∨ kindR (nxR s) = 2 ∨ nxR s = 95 then 3 else if kindR (nxR s) = 4 then 4 else if nxR s = 9 ∨ (kindR (nxR s) = 5 ∧ brkR (nxR s) ≠ 2) then 1 else 0 := by
    unfold sortC; rw [if_neg h0]
  rw [hS]
  refine bcase_mk (fun h1 => ⟨3, rfl, by rw [if_pos (by simpa using h1)]; rfl, e⟩) (fun h1 => ?_)
  rw [if_neg (by simpa using h1)]
  refine bcase_mk (fun h2 => ⟨1, rfl, by rw [if_pos (by simpa using h2)]; rfl, e⟩) (fun h2 => ?_)
  rw [if_neg (by simpa using h2)]
  refine bcase_mk (fun h3 => ⟨2, rfl, by rw [if_pos (by simpa using h3)]; rfl, e⟩) (fun h3 => ?_)
  rw [if_neg (by simpa using h3)]
  have hT : (bif kindR (nxR s) == 5 then brkR (nxR s) != 2 || nxR s == 9 else nxR s == 9) = decide (nxR s = 9 ∨ (kindR (nxR s) = 5 ∧ brkR (nxR s) ≠ 2)) := by
    by_cases h5 : kindR (nxR s) = 5
    · rw [Bool.eq_iff_iff, h5]; simp [or_comm, bne_iff_ne]
    · rw [Bool.eq_iff_iff, beq_false_of_ne h5]; simp [h5]
  rw [hT]
  exact bcase_mk (fun h4 => ⟨4, rfl, by rw [if_pos (of_decide_eq_true h4)]; rfl, e⟩) (fun h4 => ⟨0, rfl, by rw [if_neg (of_decide_eq_false h4)]; rfl, e⟩)

theorem betw_ok : sBet.Ok Tryd.prog 105 := by
  refine betw_vc trivial ?_
  rintro (s : ByteArray) w _
  simp only [str_eq]
  refine bcase_mk (fun h => ⟨3, rfl, ?_, trivial⟩) (fun h => bcase_mk (fun h2 => ⟨4, rfl, ?_, trivial⟩) (fun h2 => ⟨0, rfl, ?_, trivial⟩))
  · unfold betC; rw [if_pos (by simpa using h)]
  · unfold betC; rw [if_neg (by simpa using h), if_pos (by simpa using h2)]
  · unfold betC; rw [if_neg (by simpa using h), if_neg (by simpa using h2)]

theorem five {a : Nat} (h : a ≤ 4) : a = 0 ∨ a = 1 ∨ a = 2 ∨ a = 3 ∨ a = 4 := by omega
theorem q_one {a : Nat} (h : a ≤ 4) : (((sortQ a : Nat) : Int) == 1) = decide (a = 3) := by rcases five h with rfl | rfl | rfl | rfl | rfl <;> rfl
theorem q_two {a : Nat} (h : a ≤ 4) : (((sortQ a : Nat) : Int) == 2) = decide (a = 4) := by rcases five h with rfl | rfl | rfl | rfl | rfl <;> rfl
theorem q_word {a : Nat} (h : a ≤ 4) : (((sortQ a : Nat) : Int) == 1 || ((sortQ a : Nat) : Int) == 2) = decide (3 ≤ a) := by rcases five h with rfl | rfl | rfl | rfl | rfl <;> rfl
theorem q_go {a b : Nat} (h : a ≤ 4) (h2 : b ≤ 4) : (bif ((sortQ a : Nat) : Int) == 1 || ((sortQ a : Nat) : Int) == 2 then ((sortQ b : Nat) : Int) == 1 || ((sortQ b : Nat) : Int) == 2 || ((sortQ a : Nat) : Int) == 4 && ((sortQ b : Nat) : Int) == 4
    else ((sortQ a : Nat) : Int) == 4 && ((sortQ b : Nat) : Int) == 4) = decide (3 ≤ a ∧ 3 ≤ b ∨ a = 1 ∧ b = 1) := by
  rcases five h with rfl | rfl | rfl | rfl | rfl <;> rcases five h2 with rfl | rfl | rfl | rfl | rfl <;> rfl

theorem joins_ok : sJoins.Ok Tryd.prog 103 := by
  refine joins_vc trivial ?_
  rintro ⟨s, a, b⟩ w ⟨ha, hb⟩
  dsimp only at ha hb ⊢
  simp only [str_eq]
  rw [q_one ha, q_one hb, q_two ha, q_two hb]
  unfold betC Jn
  refine bcase_mk (fun h => ⟨_, rfl, ?_, trivial⟩) (fun h => bcase_mk (fun h2 => ⟨_, rfl, ?_, trivial⟩) (fun h2 => ⟨_, rfl, ?_, trivial⟩))
  · rw [if_pos (by simpa using h), Bool.eq_iff_iff]; simp
  · rw [if_neg (by simpa using h), if_pos (by simpa using h2), Bool.eq_iff_iff]; simp
  · rw [if_neg (by simpa using h), if_neg (by simpa using h2)]; simp

attribute [local irreducible] sortC betC
set_option maxHeartbeats 1000000 in
theorem goes12_ok : sGoes12.Ok Tryd.prog 67 := by
  refine goes12_vc ⟨joins_ok, trivial⟩ ?_
  rintro ⟨s, la, lc, sa, sc, i⟩ w ⟨hi, hs, hl, hk⟩
  dsimp only at hi hs hl hk ⊢
  have hncl := ncl_le s
  have hle : ∀ j, kw s j ≤ 4 := fun j => sort_le _
  have fin : ∀ {x : Bool} {w' : World}, Ext w w' → (x = true ↔ GoW (ncl s) (kw s) (bw s) i) → ∃ x' : Bool, Value.bool x = .bool x' ∧ x' = decide (GoW (ncl s) (kw s) (bw s) i) ∧ Ext w w' := fun e h => ⟨_, rfl, by rw [Bool.eq_iff_iff, decide_eq_true_eq]; exact h, e⟩
  have no : ∀ {w' : World}, Ext w w' → ¬ GoW (ncl s) (kw s) (bw s) i → ∃ x' : Bool, Value.bool false = .bool x' ∧ x' = decide (GoW (ncl s) (kw s) (bw s) i) ∧ Ext w w' := fun e h => fin e ⟨fun h' => (by cases h'), fun h' => absurd h' h⟩
  refine ⟨inr_i64 (by omega) (by omega), bcase_mk (fun h => no (Ext.refl _) (fun hg => by have := hg.1; have := of_decide_eq_true h; omega)) (fun h => ?_)⟩
  have h1 : i + 1 < ncl s := by have := of_decide_eq_false h; omega
  have rk : ∀ {w' : World} {j : Nat} {K : Nat → Nat → Prop}, Ext w w' → j < ncl s → (∀ b o, w'.cell? ⟨b, o + j, none⟩ = some (.int .i64 ((sortQ (kw s j) : Nat) : Int)) → K b o) → ptrE sa K := fun e hj hK =>
    (hk.ext e).ptr (by rw [List.getElem?_map]; unfold ksQ; rw [List.getElem?_map, List.getElem?_range hj]; rfl) hK
  have rl : ∀ {w' : World} {j : Nat} {K : Nat → Nat → Prop}, Ext w w' → j < ncl s → (∀ b o, w'.cell? ⟨b, o + j * 2 + 1, none⟩ = some (.string (pcP s j).2) → K b o) → ptrE la K := fun e hj hK => pc_cell (hl.ext e) hj (j := 1) (by decide) rfl hK
  refine ⟨i, rfl, hi, rk (Ext.refl _) hi fun _ _ hb => ⟨_, hb, inr_i64 (by omega) (by omega), i + 1, by simp, h1, rk (Ext.refl _) h1 fun _ _ hb => ⟨_, hb, ?_⟩⟩⟩
  rw [q_go (hle i) (hle (i + 1))]
  refine bcase_mk (fun h2 => fin (Ext.refl _) ⟨fun _ => ⟨h1, by have := of_decide_eq_true h2; omega⟩, fun _ => rfl⟩) (fun h2 => ?_)
  have hno := of_decide_eq_false h2
  intro w1 hd1
  rw [q_word (hle i), q_word (hle (i + 1))]
  have e1 : Ext w w1 := hd1.ext
  have tail : ¬ (3 ≤ kw s i ∧ i + 2 < ncl s ∧ Jn (bw s (i + 1)) (kw s i) (kw s (i + 2))) → ∀ w11, Drew w1 w11 → bcase (decide (3 ≤ kw s (i + 1)))
      (bcase (decide ((i : Int) > 0)) (∃ k2 : Nat, (i : Int) = k2 ∧ k2 < ncl s ∧ ptrE la fun b2 o2 => ∃ t : ByteArray, w1.cell? ⟨b2, o2 + k2 * 2 + 1, none⟩ = some (.string t) ∧ InR .i64 ((i : Int) - 1) ∧ ∃ k3 : Nat, (i : Int) - 1 = k3 ∧ k3 < ncl s ∧ ptrE sa fun b3 o3 => ∃ n2 : Int, w1.cell? ⟨b3, o3 + k3, none⟩ = some (.int .i64 n2) ∧
        ∃ g1 : ByteArray × Nat × Nat, #[Value.string t, .int .i64 n2, .int .i64 ((sortQ (kw s (i + 1)) : Nat) : Int)] = #[Value.string g1.1, .int .i64 ((sortQ g1.2.1 : Nat) : Int), .int .i64 ((sortQ g1.2.2 : Nat) : Int)] ∧ (g1.2.1 ≤ 4 ∧ g1.2.2 ≤ 4) ∧
        ∀ (x : Bool) (w' : World), x = decide (Jn (betC g1.1) g1.2.1 g1.2.2) ∧ w' = w11 → ∃ x1 : Bool, Value.bool x = .bool x1 ∧ x1 = decide (GoW (ncl s) (kw s) (bw s) i) ∧ Ext w w')
        (∃ x : Bool, Value.bool false = .bool x ∧ x = decide (GoW (ncl s) (kw s) (bw s) i) ∧ Ext w w11))
      (∃ x : Bool, Value.bool false = .bool x ∧ x = decide (GoW (ncl s) (kw s) (bw s) i) ∧ Ext w w11) := by
    intro hno3 w11 hd
    have e11 : Ext w w11 := e1.trans hd.ext
    have go : GoW (ncl s) (kw s) (bw s) i ↔ 3 ≤ kw s (i + 1) ∧ 0 < i ∧ Jn (bw s i) (kw s (i - 1)) (kw s (i + 1)) := by
      unfold GoW
      constructor
      · rintro ⟨_, h | h | h | h⟩
        · exact absurd (.inl h) hno
        · exact absurd (.inr h) hno
        · exact absurd h hno3
        · exact h
      · exact fun h => ⟨h1, .inr (.inr (.inr h))⟩
    refine bcase_mk (fun h4 => bcase_mk (fun h5 => ?_) (fun h5 => no e11 (fun hg => ?_))) (fun h4 => no e11 (fun hg => ?_))
    · have h4 := of_decide_eq_true h4
      have h5 := of_decide_eq_true h5
      refine ⟨i, rfl, hi, rl e1 hi fun _ _ hb => ⟨_, hb, inr_i64 (by omega) (by omega), i - 1, by omega, by omega, rk e1 (by omega) fun _ _ hb => ⟨_, hb, ((pcP s i).2, kw s (i - 1), kw s (i + 1)), by dsimp only, ⟨hle _, hle _⟩, ?_⟩⟩⟩
      rintro x w' ⟨hx, hw⟩
      have hx' : x = decide (Jn (bw s i) (kw s (i - 1)) (kw s (i + 1))) := hx
      have hi0 : 0 < i := by omega
      subst hw
      refine fin e11 ?_
      rw [go, hx', decide_eq_true_eq]
      exact ⟨fun h => ⟨h4, hi0, h⟩, fun h => h.2.2⟩
    · have := of_decide_eq_false h5; have := (go.1 hg).2.1; omega
    · have := of_decide_eq_false h4; have := (go.1 hg).1; omega
  refine bcase_mk (fun h3 => ⟨inr_i64 (by omega) (by omega), bcase_mk (fun h4 => ?_) (fun h4 => ?_)⟩) (fun h3 => ?_)
  · have h3 := of_decide_eq_true h3
    have h4 : i + 2 < ncl s := by have := of_decide_eq_true h4; omega
    refine ⟨inr_i64 (by omega) (by omega), i + 1, by simp, h1, rl (Ext.refl _) h1 fun _ _ hb => ⟨_, hb, inr_i64 (by omega) (by omega), i + 2, by simp, h4, rk (Ext.refl _) h4 fun _ _ hb => ⟨_, hb, ((pcP s (i + 1)).2, kw s i, kw s (i + 2)), by dsimp only, ⟨hle _, hle _⟩, ?_⟩⟩⟩
    rintro x w' ⟨hx, hw⟩
    have hx : x = decide (Jn (bw s (i + 1)) (kw s i) (kw s (i + 2))) := hx
    subst hw
    refine bcase_mk (fun h5 => ?_) (fun h5 => ?_)
    · rw [hx] at h5
      exact fin e1 ⟨fun _ => ⟨h1, .inr (.inr (.inl ⟨h3, h4, of_decide_eq_true h5⟩))⟩, fun _ => rfl⟩
    · rw [hx] at h5
      exact tail (fun hc => of_decide_eq_false h5 hc.2.2)
  · exact tail (fun hc => by have := of_decide_eq_false h4; have := hc.2.1; omega)
  · exact tail (fun hc => of_decide_eq_false h3 hc.1)

end Go.Proofs.YthpjkgoahneldaaDoor
end

section
/-
  Chapter 12: the document's segments; the program's iterator.
-/
namespace Go.Proofs.YthpjkgoahneldaaDoor
open Go Go.RowKit Vc Ut Tb Cl Orb Wd
attribute [local irreducible] sortC betC

theorem ksQ_at {s : ByteArray} {i : Nat} (h : i < ncl s) : (ksQ s)[i]? = some ((sortQ (kw s i) : Nat) : Int) := by
  unfold ksQ; rw [List.getElem?_map, List.getElem?_range h]; rfl
theorem ksP_at {s : ByteArray} {i : Nat} (h : i < ncl s) : (ksP s)[i]? = some ((kw s i : Nat) : Int) := by
  unfold ksP; rw [List.getElem?_map, List.getElem?_range h]; rfl
theorem endsW_at {s : ByteArray} {k : Nat} (h : k < wn s) : (endsW s)[k]? = some ((wp s (k + 1) : Nat) : Int) := by
  unfold endsW; rw [List.getElem?_map, List.getElem?_range h]; rfl
theorem sortsW_at {s : ByteArray} {k : Nat} (h : k < wn s) : (sortsW s)[k]? = some ((kw s (wb s k) : Nat) : Int) := by
  unfold sortsW; rw [List.getElem?_map, List.getElem?_range h]; rfl
theorem wd_get {s : ByteArray} {k : Nat} (h : k < wn s) : (wdL s)[k]? = some (wdP s k) := by rw [wd_at, if_pos h]
theorem wd_sum {s : ByteArray} {i : Nat} : ((pcP s i).1 : Int) + ((pcP s i).2.size : Int) = (bp s (i + 1) : Int) := by
  have := pc_sz (s := s) (i := i)
  have h : (pcP s i).1 = bp s i := rfl
  omega

set_option maxHeartbeats 1000000 in
theorem rallW_ok : sRAllW.Ok Tryd.prog 30 := by
  refine rallW_vc ⟨rallP_ok, sortR_ok, goes12_ok, trivial⟩ ?_
  rintro (s : ByteArray) w ⟨hU, hs⟩
  have hncl := ncl_le s
  have hwn := wn_le s
  refine ⟨s, rfl, ⟨hU, hs⟩, ?_⟩
  rintro ⟨la, ln, lc⟩ w1 ⟨hln, hml⟩
  dsimp only at hln hml ⊢
  subst hln
  rw [pcV_flat] at hml
  have e1 := hml.ext
  have hcl := hml.row.cells
  have psz : ∀ {j : Nat}, j < ncl s → (pcP s j).2.size ≤ 67108864 ∧ 0 < (pcP s j).2.size := fun {j} hj => by
    have := pc_sz (s := s) (i := j); have := bp_le s (j + 1); have := bp_strict (s := s) (show j < j + 1 by omega) hj; omega
  refine ⟨⟨(0, none, 0), rfl, rfl, Nat.zero_le _, Made.nil _ _ _⟩, ?_⟩
  rintro _ ⟨i, a, c⟩ w2 ⟨hi, hm⟩
  dsimp only at hi hm ⊢
  have e2 := e1.trans hm.ext
  have hcl2 := hcl.ext hm.ext
  refine bcase_mk (fun h => ?_) (fun h => ?_)
  · have hlt : i < ncl s := by have := of_decide_eq_true h; omega
    refine ⟨i, rfl, hlt, pc_cell hcl2 hlt (j := 1) (by decide) rfl fun _ _ hb => ⟨_, hb, _, rfl, ⟨hU.ext e2, psz hlt⟩, ?_⟩⟩
    rintro x w3 ⟨hx, e3⟩ b w4 hn
    have hx : x = sortQ (kw s i) := hx
    subst hx
    obtain ⟨a', c', w5, hrun, hko, hm5, _⟩ := (hm.later e3).pushN (P := Tryd.prog) (ty := 45) elem64 (by decide) (m := 1) (news := [.int .i64 ((sortQ (kw s i) : Nat) : Int)]) hn rfl (by simp [Value.oneCell']) (by unfold maxLen; omega) (.inr (by omega))
    refine ⟨a', c', w5, hrun, hko, inr_i64 (by omega) (by omega), (i + 1, a', c'), by simp, rfl, ⟨hlt, ?_⟩, by dsimp only; omega⟩
    dsimp only
    rw [take_snoc (f := Value.int .i64) (ksQ_at hlt)]
    exact hm5
  have hie : i = ncl s := by have := of_decide_eq_false h; omega
  subst hie
  rw [List.take_of_length_le (by simp [ksQ])] at hm
  have hk := hm.row.cells
  refine ⟨⟨⟨0, 0, none, 0⟩, rfl, rfl, rfl, ?_, Made.nil _ _ _⟩, ?_⟩
  · dsimp only
    rcases Nat.eq_zero_or_pos (ncl s) with h0 | h0
    · left; omega
    · right
      have h1 : 0 < wn s := by
        rcases Nat.eq_zero_or_pos (wn s) with h | h
        · have := wb_end s; rw [h] at this; have h2 : wb s 0 = 0 := rfl; omega
        · exact h
      exact ⟨h0, h1, Nat.le_refl _, wb_step h1⟩
  rintro _ ⟨i, k, a2, c2⟩ w3 ⟨hi, hm3⟩
  dsimp only at hi hm3 ⊢
  have e3 := e2.trans hm3.ext
  refine bcase_mk (fun h => ?_) (fun h => ?_)
  · have hlt : i < ncl s := by have := of_decide_eq_true h; omega
    obtain ⟨_, hkl, hb1, hb2⟩ : i < ncl s ∧ k < wn s ∧ wb s k ≤ i ∧ i < wb s (k + 1) := by
      rcases hi with ⟨h1, _⟩ | h1
      · omega
      · exact h1
    refine ⟨⟨s, la, lc, a, c, i⟩, rfl, ⟨hlt, hs, hcl2.ext hm3.ext, hk.ext hm3.ext⟩, ?_⟩
    rintro x w4 ⟨hx, e4⟩
    dsimp only at hx
    refine bcase_mk (fun hx0 => ?_) (fun hx0 => ?_)
    · have hng : ¬ GoW (ncl s) (kw s) (bw s) i := by
        rw [hx] at hx0; intro hg; rw [decide_eq_true hg] at hx0; cases hx0
      have hie : i + 1 = wb s (k + 1) := by
        rcases Nat.lt_or_ge (i + 1) (wb s (k + 1)) with h | h
        · rw [wb_succ hkl] at h; exact absurd (seg_mid hb1 h) hng
        · omega
      intro w5 hd
      have hcl4 := (hcl2.ext hm3.ext).ext e4
      have hps := psz hlt
      have hbl := bp_le s i
      have hsum := wd_sum (s := s) (i := i)
      rw [hie] at hsum
      refine ⟨i, rfl, hlt, pc_cell hcl4 hlt (j := 0) (by decide) rfl fun _ _ hb => ⟨_, hb, i, rfl, hlt, pc_cell hcl4 hlt (j := 1) (by decide) rfl fun _ _ hb => ⟨_, hb, ?_⟩⟩⟩
      have hp1 : (pcP s i).1 = bp s i := rfl
      refine ⟨inr_i64 (by omega) (by omega), wp s k, rfl, wp s (k + 1), hsum, wp_mono s (by omega), wp_le s _, fun b w6 hn => ?_⟩
      obtain ⟨a', c', w7, hrun, hko, hm7, _⟩ := (hm3.later (e4.trans hd.ext)).pushN (P := Tryd.prog) (ty := 42) elemPiece (by decide) (m := 1) (news := encPc (wdP s k)) hn rfl (enc_one _) (by unfold maxLen; omega) (.inr (by omega))
      refine ⟨a', c', w7, hrun, hko, inr_i64 (by omega) (by omega), ⟨i + 1, k + 1, a', c'⟩, by simp, ?_, rfl, ⟨?_, ?_⟩, by dsimp only; omega⟩
      · rw [hsum]; rfl
      · dsimp only
        rcases Nat.lt_or_ge (k + 1) (wn s) with h | h
        · right; exact ⟨by rw [hie]; exact wb_lt.1 h, h, by omega, by rw [hie]; exact wb_step h⟩
        · left
          have e : k + 1 = wn s := by omega
          rw [hie, e]; exact ⟨wb_end s, rfl⟩
      · dsimp only; rw [take_flat (wd_get hkl)]; exact hm7
    · have hg : GoW (ncl s) (kw s) (bw s) i := by
        rw [hx] at hx0
        have : decide (GoW (ncl s) (kw s) (bw s) i) = true := by simpa using hx0
        exact of_decide_eq_true this
      have hne : i + 1 ≠ wb s (k + 1) := by
        intro h
        rcases wb_bd (s := s) (k := k + 1) (by omega) with h1 | h1
        · omega
        · rw [← h, Nat.add_sub_cancel] at h1; exact h1 hg
      exact ⟨inr_i64 (by omega) (by omega), ⟨i + 1, k, a2, c2⟩, by simp, rfl, rfl, ⟨.inr ⟨hg.1, hkl, by dsimp only; omega, by dsimp only; omega⟩, hm3.later e4⟩, by dsimp only; omega⟩
  · have hie : i = ncl s ∧ k = wn s := by
      have := of_decide_eq_false h
      rcases hi with h1 | h1
      · exact h1
      · omega
    obtain ⟨rfl, rfl⟩ := hie
    rw [List.take_of_length_le (by rw [wd_len]; exact Nat.le_refl _)] at hm3
    exact ⟨(a2, wn s, c2), rfl, rfl, hm3.earlier e2⟩

theorem itWd_ok : itWd.Ok Tryd.prog 69 := by
  refine itWd_vc trivial ?_
  rintro ⟨s, be, bs, ea, ec⟩ i W ⟨hbe, hbs, hcl, hlt, hsm⟩ hi
  dsimp only at hbe hbs hcl hlt hsm hi ⊢
  have hlen : ((wdL s).map encPc).length = wn s := by rw [List.length_map, wd_len]
  have hncl := ncl_le s
  have hwn := wn_le s
  refine ⟨_, _, _, box_cell hbe, ⟨⟨(0, i.D0), rfl, rfl, Nat.zero_le _, hi.j0, Mid.start (Ext.refl _) hi.d0⟩, ?_⟩⟩
  rintro _ ⟨k, D⟩ w1 ⟨hk, hJ, hM⟩
  dsimp only at hk hJ hM ⊢
  have hbw : w1.heap[bs]? = some (.cells #[.string s] 9) := (hM.old (heap_lt hbs) (hi.cd bs (.inr (.inl rfl)))).trans hbs
  have hcl1 : CellsAt w1 ea ((endsW s).map (Value.int .i64)) := hcl.fr hM.fr (fun q hq => hi.cd q (.inr (.inr hq)))
  refine bcase_mk (fun h => ?_) (fun h => ?_)
  · have hl : k < wn s := by have := of_decide_eq_true h; omega
    refine ⟨k, rfl, hl, hcl1.ptr (i := k) (by rw [List.getElem?_map, endsW_at hl]; rfl) fun _ _ hb => ⟨_, hb, s, box_cell hbw, wp s k, rfl, wp s (k + 1), rfl, wp_mono s (by omega), wp_le s _, rfl, (k, D), ?_, ⟨by dsimp only; rw [hlen]; exact hl, hJ, hM⟩, ?_⟩⟩
    · rw [xs_of (wd_get hl)]; rfl
    rintro b1 w3 ⟨D', hst, h1, h2⟩
    dsimp only at hst h1 h2
    have hM3 := hM.step hst
    refine bcase_mk (fun hb1 => ?_) (fun hb1 => ?_)
    · exact ⟨D', hM3, .inr (h2 (by simpa using hb1))⟩
    · exact ⟨inr_i64 (by omega) (by omega), (k + 1, D'), rfl, by simp, ⟨hl, h1 (by simpa using hb1), hM3⟩, by dsimp only; omega⟩
  · have hk2 : k = wn s := by have := of_decide_eq_false h; omega
    subst hk2
    exact ⟨D, hM, .inl (by rw [hlen]; exact hJ)⟩

end Go.Proofs.YthpjkgoahneldaaDoor
end

section
/-
  Chapter 12: the program's segments.
-/
namespace Go.Proofs.YthpjkgoahneldaaDoor
open Go Go.RowKit Vc Ut Tb Cl Orb Wd
attribute [local irreducible] sortC betC

theorem app_one {W V : World} {ea sa : Option Addr} {ec sc n m b : Nat} {vs1 vs2 : List Value} {x : Int} (hme : Made W V 3 1 ea n vs1 ec) (hms : Made W V 3 1 sa m vs2 sc) (hne : ∀ q, blk ea = some q → blk sa ≠ some q) (hb : n ≤ 67108864) (hc : CellsAt V (some ⟨b, 0, none⟩) [.int .i64 x]) :
    ∃ a' c' w6, AppRun Tryd.prog #[45, 45] 45 (.slice ea n ec) (.slice (some ⟨b, 0, none⟩) 1 1) V a' (n + 1) c' w6 ∧ KO V w6 ∧ Fr (fun q => blk ea = some q) V w6 ∧ Made W w6 3 1 a' (n + 1) (vs1 ++ [.int .i64 x]) c' ∧ Made W w6 3 1 sa m vs2 sc ∧ (∀ q, blk a' = some q → blk sa ≠ some q) := by
  obtain ⟨a', c', w6, hr, hko, hrow, hg, hor, _⟩ := hme.row.pushS (P := Tryd.prog) (ty := 45) (sa := some ⟨b, 0, none⟩) (cx := 1) elem64 (by decide) (m := 1) (news := [.int .i64 x]) rfl hc (by simp [Value.oneCell']) (by unfold maxLen; omega) (.inr (by omega))
  refine ⟨a', c', w6, hr, hko, Fr.grown hg, hme.grown hrow hg hor, ⟨hms.row.grown hg (fun g h1 h2 => hne g h2 h1), hms.new, Below.grown hms.ext hg hms.ext.size (fun k hk => hme.new k hk)⟩, fun q hq hs => ?_⟩
  rcases hor with rfl | ⟨rfl, _⟩
  · exact hne q hq hs
  · simp [blk] at hq
    have := hms.row.lt hs
    omega
/-- Both lists are put on, in whatever order the new cells are made. -/
theorem two_push {W V : World} {ea sa : Option Addr} {ec sc n : Nat} {vs1 vs2 : List Value} {x y : Int} {E : Nat → Prop} {Y : Option Addr → Nat → Option Addr → Nat → World → Prop} (hme : Made W V 3 1 ea n vs1 ec) (hms : Made W V 3 1 sa n vs2 sc) (hne : ∀ q, blk ea = some q → blk sa ≠ some q) (hb : n ≤ 67108864)
    (hE : ∀ q, blk ea = some q → E q) (hY : ∀ a' c' a2 c2 w7, Made W w7 3 1 a' (n + 1) (vs1 ++ [.int .i64 x]) c' → Made W w7 3 1 a2 (n + 1) (vs2 ++ [.int .i64 y]) c2 → (∀ q, blk a' = some q → blk a2 ≠ some q) → Y a' c' a2 c2 w7) :
    (∀ b4 w13, New V (.cells #[.int .i64 x] 3) b4 w13 → Fr E V w13 ∧
      (∃ a' c' w6, AppRun Tryd.prog #[45, 45] 45 (.slice ea n ec) (.slice (some ⟨b4, 0, none⟩) 1 1) w13 a' (n + 1) c' w6 ∧ KO w13 w6 ∧ Fr E w13 w6 ∧ ∀ b5 w14, New w6 (.cells #[.int .i64 y] 3) b5 w14 → Fr E w6 w14 ∧
        ∃ a2 c2 w7, AppRun Tryd.prog #[45, 45] 45 (.slice sa n sc) (.slice (some ⟨b5, 0, none⟩) 1 1) w14 a2 (n + 1) c2 w7 ∧ KO w14 w7 ∧ Y a' c' a2 c2 w7) ∧
      ∀ b5 w14, New w13 (.cells #[.int .i64 y] 3) b5 w14 → Fr E w13 w14 ∧
        ∃ a' c' w6, AppRun Tryd.prog #[45, 45] 45 (.slice ea n ec) (.slice (some ⟨b4, 0, none⟩) 1 1) w14 a' (n + 1) c' w6 ∧ KO w14 w6 ∧ Fr E w14 w6 ∧
        ∃ a2 c2 w7, AppRun Tryd.prog #[45, 45] 45 (.slice sa n sc) (.slice (some ⟨b5, 0, none⟩) 1 1) w6 a2 (n + 1) c2 w7 ∧ KO w6 w7 ∧ Y a' c' a2 c2 w7) ∧
    ∀ b4 w13, New V (.cells #[.int .i64 y] 3) b4 w13 → Fr E V w13 ∧ ∀ b5 w14, New w13 (.cells #[.int .i64 x] 3) b5 w14 → Fr E w13 w14 ∧
        ∃ a' c' w6, AppRun Tryd.prog #[45, 45] 45 (.slice ea n ec) (.slice (some ⟨b5, 0, none⟩) 1 1) w14 a' (n + 1) c' w6 ∧ KO w14 w6 ∧ Fr E w14 w6 ∧
        ∃ a2 c2 w7, AppRun Tryd.prog #[45, 45] 45 (.slice sa n sc) (.slice (some ⟨b4, 0, none⟩) 1 1) w6 a2 (n + 1) c2 w7 ∧ KO w6 w7 ∧ Y a' c' a2 c2 w7 := by
  have two : ∀ {V1 : World} {b b' : Nat}, Ext V V1 → V.heap.size ≤ b' → CellsAt V1 (some ⟨b, 0, none⟩) [.int .i64 x] → CellsAt V1 (some ⟨b', 0, none⟩) [.int .i64 y] →
      ∃ a' c' w6, AppRun Tryd.prog #[45, 45] 45 (.slice ea n ec) (.slice (some ⟨b, 0, none⟩) 1 1) V1 a' (n + 1) c' w6 ∧ KO V1 w6 ∧ Fr E V1 w6 ∧
        ∃ a2 c2 w7, AppRun Tryd.prog #[45, 45] 45 (.slice sa n sc) (.slice (some ⟨b', 0, none⟩) 1 1) w6 a2 (n + 1) c2 w7 ∧ KO w6 w7 ∧ Y a' c' a2 c2 w7 := by
    intro V1 b b' hx hb' hc hc'
    obtain ⟨a', c', w6, hr, hko, hfr, hm1, hm2, hne'⟩ := app_one (hme.later hx) (hms.later hx) hne hb hc
    have hc6 : CellsAt w6 (some ⟨b', 0, none⟩) [.int .i64 y] := hc'.fr hfr (fun g hg he => by simp [blk] at hg; subst hg; have := hme.row.lt he; omega)
    obtain ⟨a2, c2, w7, hr2, hko2, _, hm3, hm4, hne2⟩ := app_one hm2 hm1 (fun q h1 h2 => hne' q h2 h1) hb hc6
    exact ⟨a', c', w6, hr, hko, hfr.mono (fun q _ h => hE q h), a2, c2, w7, hr2, hko2, hY _ _ _ _ _ hm4 hm3 (fun q h1 h2 => hne2 q h2 h1)⟩
  refine ⟨fun b4 w13 hn4 => ⟨Fr.of_ext hn4.ext, ?_, fun b5 w14 hn5 => ⟨Fr.of_ext hn5.ext, ?_⟩⟩, fun b4 w13 hn4 => ⟨Fr.of_ext hn4.ext, fun b5 w14 hn5 => ⟨Fr.of_ext hn5.ext, ?_⟩⟩⟩
  · obtain ⟨a', c', w6, hr, hko, hfr, hm1, hm2, hne'⟩ := app_one (hme.later hn4.ext) (hms.later hn4.ext) hne hb (CellsAt.new (vs := [.int .i64 x]) hn4)
    refine ⟨a', c', w6, hr, hko, hfr.mono (fun q _ h => hE q h), fun b5 w14 hn5 => ⟨Fr.of_ext hn5.ext, ?_⟩⟩
    obtain ⟨a2, c2, w7, hr2, hko2, _, hm3, hm4, hne2⟩ := app_one (hm2.later hn5.ext) (hm1.later hn5.ext) (fun q h1 h2 => hne' q h2 h1) hb (CellsAt.new (vs := [.int .i64 y]) hn5)
    exact ⟨a2, c2, w7, hr2, hko2, hY _ _ _ _ _ hm4 hm3 (fun q h1 h2 => hne2 q h2 h1)⟩
  · exact two (hn4.ext.trans hn5.ext) (by have := hn4.size; have := hn5.size; omega) ((CellsAt.new (vs := [.int .i64 x]) hn4).ext hn5.ext) (CellsAt.new (vs := [.int .i64 y]) hn5)
  · exact two (hn4.ext.trans hn5.ext) (by have := hn4.size; omega) (CellsAt.new (vs := [.int .i64 x]) hn5) ((CellsAt.new (vs := [.int .i64 y]) hn4).ext hn5.ext)

theorem elemStrW : ElemOk Tryd.prog 37 9 1 16 := elemOk_mk (.string ⟨#[]⟩) (by kernel_rfl) (by kernel_rfl) rfl
theorem getB {w : World} {e : TypeId} {n c i : Nat} {ad : Option Addr} {vs : List Value} {v : Value} {K : Nat → Nat → Prop} (h : Row w e 1 ad n vs c) (hi : vs[i]? = some v) (hk : ∀ b o, blk ad = some b → w.cell? ⟨b, o + i, none⟩ = some v → K b o) : ptrE ad K := by
  rcases h.2 with ⟨rfl, rfl, _⟩ | ⟨g, cur, rfl, _⟩
  · have h0 : vs = [] := List.eq_nil_of_length_eq_zero (by have := h.1; omega)
    rw [h0] at hi
    simp at hi
  · have h2 : ptrE (some ⟨g, 0, none⟩) (fun b o => w.cell? ⟨b, o + i, none⟩ = some v) := h.get hi (fun _ _ h => h)
    exact hk g 0 rfl h2

set_option maxHeartbeats 4000000 in
set_option maxRecDepth 10000 in
theorem segs_ok : sSegs.Ok Tryd.prog 68 := by
  refine segs_vc ⟨call_ok, sortP_ok, betw_ok, trivial⟩ ?_
  rintro (s : ByteArray) w ⟨hU, hs⟩
  have hncl := ncl_le s
  have hwn := wn_le s
  have hut := hU.lt
  have hpl := pc_len s
  intro b w1 hn1 b1 w2 hn2
  have z1 := hn1.size
  have z2 := hn2.size
  refine ⟨s, rfl, trivial, ?_⟩
  rintro x w3 ⟨hx, hxs, e23⟩
  have z3 := e23.size
  have e3 := (hn1.ext.trans hn2.ext).trans e23
  have hU3 := hU.ext e3
  have hb3 := (hn2.ext.trans e23).heap hn1.heap
  have hb13 := e23.heap hn2.heap
  have hxl := heap_lt hxs
  dsimp only [ptrB]
  have tS : (37 : TypeId) ≠ 9 := by decide
  have tI : (45 : TypeId) ≠ 3 := by decide
  have tX : (9 : TypeId) ≠ 3 := by decide
  have tY : (37 : TypeId) ≠ 3 := by decide
  have tZ : (45 : TypeId) ≠ 9 := by decide
  have mkT : ∀ {W : World} {k : Nat} {a a2 : Option Addr} {c c2 : Nat}, Grow W b 37 9 a c (((pcL s).take k).map strV2) → Grow W b1 45 3 a2 c2 (((ksP s).take k).map (Value.int .i64)) → Two W b b1 s k a c a2 c2 := fun ht hk =>
    ⟨ht, hk, fun q hq => ht.row.off2 hk.row (fun e => tX e.symm) hq, hk.row.off ht.hb tY, ht.row.off hk.hb tZ⟩
  refine ⟨pcL s, cC x, (fun q => q = b ∨ q = b1 ∨ blk none = some q ∨ blk none = some q), pc_iter hxs hU3 hs, ⟨?_, ?_⟩, ⟨none, 0, none, 0, rfl, mkT ⟨hb3, Row.nil _ _ _⟩ ⟨hb13, Row.nil _ _ _⟩⟩, ?_, ?_, ?_, ?_, trivial⟩
  · rintro q (rfl | rfl | h | h)
    · exact heap_lt hb3
    · exact heap_lt hb13
    · cases h
    · cases h
  · intro q hq
    refine ⟨cC_lt (heap_lt hxs) hU3 q hq, ?_⟩
    rintro (h | h | h | h)
    · rcases hq with h' | h' | h' <;> omega
    · rcases hq with h' | h' | h' <;> omega
    · cases h
    · cases h
  · rintro k D W W' ⟨a, c, a2, c2, rfl, ht⟩ hsz hq
    refine ⟨a, c, a2, c2, rfl, mkT (ht.t.keep fun q h => ht.t.kept h (hq q · (.inr ?_))) (ht.k.keep fun q h => ht.k.kept h (hq q · (.inr ?_)))⟩
    · exact h.elim .inl fun h => .inr (.inr (.inl h))
    · exact h.elim (fun h => .inr (.inl h)) fun h => .inr (.inr (.inr h))
  · rintro _ k D W W' h hsz hq
    exact h
  · rintro k p D W hp ⟨a, c, a2, c2, rfl, ht⟩ hM
    have hkl : k < (pcL s).length := (List.getElem?_eq_some_iff.1 hp).1
    have hpk : p = pcP s k := by rw [pc_get (by omega)] at hp; exact (Option.some.inj hp).symm
    subst hpk
    have hln : (((pcL s).take k).map strV2).length ≤ ncl s := by simp; omega
    have hln2 : (((ksP s).take k).map (Value.int .i64)).length ≤ ncl s := by simp [ksP]; omega
    have hps := pc_sz (s := s) (i := k)
    have hbl := bp_le s (k + 1)
    have hDge : ∀ q, (q = b ∨ q = b1 ∨ blk a = some q ∨ blk a2 = some q) → w.heap.size ≤ q := fun q hq => by
      rcases (hM.dom q hq).2 with (h | h | h | h) | h
      · omega
      · omega
      · cases h
      · cases h
      · have := e3.size; omega
    have hUW : U8 W := hU3.fr hM.fr (by rintro (h | h | h | h) <;> first | omega | cases h) (by rintro (h | h | h | h) <;> first | omega | cases h)
    refine ⟨a, _, c, box_cell ht.t.hb, fun b2 w4 hn4 => ?_⟩
    obtain ⟨a', c', w5, hr, hko, ho, hfz, hpost⟩ := ht.t.push (P := Tryd.prog) (tt := 37) (ty := 37) elemStrW tS hn4 rfl (by unfold maxLen; omega) (by omega)
    refine ⟨a', c', w5, hr, hko, rfl, ho, hfz, fun w6 hs6 => ?_⟩
    obtain ⟨ht6, hfr6, hnew6⟩ := hpost hs6
    have nbb : b ≠ b1 := by omega
    have hk6 : Grow w6 b1 45 3 a2 c2 (((ksP s).take k).map (Value.int .i64)) := ht.k.fr hfr6 (by
      rintro q (rfl | h) (h1 | h1)
      · exact nbb h1.symm
      · exact ht.nk h1
      · subst h1; exact ht.nt h
      · exact ht.ne q h1 h)
    have hU6 : U8 w6 := hUW.fr hfr6 (fun h => by have := hDge _ (h.elim .inl fun h => .inr (.inr (.inl h))); omega) (fun h => by have := hDge _ (h.elim .inl fun h => .inr (.inr (.inl h))); omega)
    intro w7 hd7
    refine ⟨a2, _, c2, box_cell hk6.hb, (pcP s k).2, rfl, ⟨hU6.ext hd7.ext, by omega⟩, ?_⟩
    rintro x2 w8 ⟨hx2, e8⟩
    refine ⟨e8, fun b3 w9 hn9 => ⟨hn9.ext, ?_⟩⟩
    have e68 := Ext.trans hd7.ext e8
    have hk8 := hk6.ext e68
    obtain ⟨a2', c2', w10, hr2, hko2, ho2, hfz2, hpost2⟩ := hk8.push (P := Tryd.prog) (tt := 45) (ty := 45) elem64 tI hn9 rfl (by unfold maxLen; omega) (by omega)
    refine ⟨a2', c2', w10, hr2, hko2, rfl, ho2, hfz2, fun w11 hs11 => ?_⟩
    obtain ⟨hk11, hfr11, hnew11⟩ := hpost2 hs11
    have ht8 := ht6.ext e68
    have ht11 : Grow w11 b 37 9 a' c' (((pcL s).take k).map strV2 ++ [.string (pcP s k).2]) := ht8.fr hfr11 (by
      rintro q (rfl | h) (h1 | h1)
      · exact nbb h1
      · exact hk8.row.off ht8.hb tY h1
      · subst h1; exact ht8.row.off hk8.hb tZ h
      · exact ht8.row.off2 hk8.row (fun e => tX e.symm) h h1)
    have f1 : Fr (fun q => q = b ∨ q = b1 ∨ blk a = some q ∨ blk a2 = some q) W w6 := hfr6.mono fun q _ h => h.elim .inl fun h => .inr (.inr (.inl h))
    have f3 : Fr (fun q => q = b ∨ q = b1 ∨ blk a = some q ∨ blk a2 = some q) w8 w11 := hfr11.mono fun q _ h => h.elim (fun h => .inr (.inl h)) fun h => .inr (.inr (.inr h))
    have z68 := e68.size
    have z6 := hfr6.size
    refine ⟨_, ⟨(f1.trans (Fr.of_ext e68) (fun _ _ h => h)).trans f3 (fun _ _ h => h), ?_⟩, a', c', a2', c2', rfl, mkT ?_ ?_⟩
    · rintro q (rfl | rfl | h | h)
      · exact ⟨heap_lt ht11.hb, .inl (.inl rfl)⟩
      · exact ⟨heap_lt hk11.hb, .inl (.inr (.inl rfl))⟩
      · exact ⟨ht11.row.lt h, (hnew6 q h).elim (fun h => .inl (.inr (.inr (.inl h)))) .inr⟩
      · exact ⟨hk11.row.lt h, (hnew11 q h).elim (fun h => .inl (.inr (.inr (.inr h)))) fun h => .inr (by omega)⟩
    · rw [take_snoc (f := strV2) hp]; exact ht11
    · rw [take_snoc (f := Value.int .i64) (ksP_at (by omega))]
      have hx2 : x2 = kw s k := hx2
      subst hx2; exact hk11
  · rintro D W ⟨a, c, a2, c2, rfl, ht⟩ hM
    rw [lenX_eq, hpl] at ht
    have hkl : (ksP s).length = ncl s := by simp [ksP]
    have hT := ht.t
    have hK := ht.k
    rw [List.take_of_length_le (by rw [hkl]; exact Nat.le_refl _)] at hK
    rw [List.take_of_length_le (by rw [hpl]; exact Nat.le_refl _)] at hT
    have hb := hT.hb
    have hrT := hT.row
    have hk := hK.hb
    have hrK := hK.row
    rw [List.length_map, hpl] at hb hrT
    rw [List.length_map, hkl] at hk hrK
    have eW : Ext w W := hM.ext e3 (fun q hq => by
      rcases hq with h | h | h | h
      · omega
      · omega
      · cases h
      · cases h)
    have hzW := eW.size
    have rdT : ∀ {V : World} {i : Nat} {K : Nat → Nat → Prop}, Ext W V → i < ncl s → (∀ b o, V.cell? ⟨b, o + i, none⟩ = some (.string (pcP s i).2) → K b o) → ptrE a K := fun e hi hK => (hrT.ext e).get (by rw [List.getElem?_map, pc_get hi]; rfl) hK
    have rdK : ∀ {V : World} {i : Nat} {K : Nat → Nat → Prop}, Ext W V → i < ncl s → (∀ b o, V.cell? ⟨b, o + i, none⟩ = some (.int .i64 (kw s i : Nat)) → K b o) → ptrE a2 K := fun e hi hK => (hrK.ext e).get (by rw [List.getElem?_map, ksP_at hi]; rfl) hK
    have psz : ∀ i, (pcP s i).2.size + bp s i = bp s (i + 1) := fun i => by
      have := pc_sz (s := s) (i := i); have := bp_mono s (show i ≤ i + 1 by omega); omega
    have elen : (endsW s).length = wn s := by simp [endsW]
    have slen : (sortsW s).length = wn s := by simp [sortsW]
    refine ⟨⟨⟨0, none, 0, none, 0⟩, rfl, rfl, rfl, rfl, Nat.zero_le _, Made.nil _ _ _, Made.nil _ _ _, fun q hq => by cases hq⟩, ?_⟩
    rintro _ ⟨k, ea, ec, sa, sc⟩ V ⟨hkn, hme, hms, hne⟩
    dsimp only at hkn hme hms hne ⊢
    have eV := hme.ext
    simp only [Int.toNat_natCast]
    refine ⟨a, _, c, box_cell (eV.heap hb), bcase_mk (fun h => ?_) (fun h => ?_)⟩
    · have hlt : wb s k < ncl s := by have := of_decide_eq_true h; omega
      have hl : k < wn s := wb_lt.2 hlt
      have hp0 := psz (wb s k)
      have hpl0 := bp_le s (wb s k + 1)
      have hwp : wp s k = bp s (wb s k) := rfl
      have notS : ∀ {V' : World} {q : Nat}, (∃ o, W.heap[q]? = some o) → ¬ (slB (.slice ea k ec) q ∨ slB (.slice sa k sc) q) := fun {V' q} hq h => by
        have hq := (Array.getElem?_eq_some_iff.1 hq.choose_spec).1
        rcases h with h | h
        · have := hme.new q h; omega
        · have := hms.new q h; omega
      have hY : ∀ (i : Nat), wb s (k + 1) = i → ∀ a' c' a3 c3 w7, Made W w7 3 1 a' (k + 1) (((endsW s).take k).map (Value.int .i64) ++ [.int .i64 (bp s i : Nat)]) c' → Made W w7 3 1 a3 (k + 1) (((sortsW s).take k).map (Value.int .i64) ++ [.int .i64 (kw s (wb s k) : Nat)]) c3 → (∀ q, blk a' = some q → blk a3 ≠ some q) →
          ∃ y : GSg, Value.int .i64 (i : Nat) = Value.int .i64 (wb s y.n : Nat) ∧ Value.int .i64 (bp s i : Nat) = Value.int .i64 (wp s y.n : Nat) ∧ Value.slice a' (k + 1) c' = Value.slice y.ea y.n y.ec ∧ Value.slice a3 (k + 1) c3 = Value.slice y.sa y.n y.sc ∧
            (y.n ≤ wn s ∧ Made W w7 3 1 y.ea y.n (((endsW s).take y.n).map (Value.int .i64)) y.ec ∧ Made W w7 3 1 y.sa y.n (((sortsW s).take y.n).map (Value.int .i64)) y.sc ∧ ∀ q, blk y.ea = some q → blk y.sa ≠ some q) ∧ wn s - y.n < wn s - k := by
        rintro i rfl a' c' a3 c3 w7 m1 m2 hn
        refine ⟨⟨k + 1, a', c', a3, c3⟩, rfl, rfl, rfl, rfl, ⟨hl, ?_, ?_, hn⟩, by dsimp only; omega⟩
        · dsimp only; rw [take_snoc (f := Value.int .i64) (endsW_at hl)]; exact m1
        · dsimp only; rw [take_snoc (f := Value.int .i64) (sortsW_at hl)]; exact m2
      refine ⟨a, _, c, box_cell (eV.heap hb), wb s k, rfl, hlt, rdT eV hlt fun _ _ hc => ⟨_, hc, inr_i64 (by omega) (by omega), inr_i64 (by omega) (by omega), ⟨wb s k + 1, by simp, by congr 1; omega, trivial, trivial, inv_start hlt (wb_bd hkn), Ext.refl _⟩, ?_⟩⟩
      rintro _ i V2 ⟨hinv, e12⟩
      have hi0 := hinv.1
      have hi1 := hinv.2.1
      have eV2 := eV.trans e12
      refine ⟨a, _, c, box_cell (eV2.heap hb), bcase_mk (fun h2 => ?_) (fun h2 => ?_)⟩
      · have hil : i < ncl s := by have := of_decide_eq_true h2; omega
        have hpi := psz i
        have hpil := bp_le s (i + 1)
        refine ⟨fun w12 hd => ⟨a2, _, c2, box_cell (eV2.heap hk), inr_i64 (by omega) (by omega), i - 1, by omega, by omega, rdK eV2 (by omega) fun _ _ h1 => ⟨_, h1, a2, _, c2, box_cell (eV2.heap hk), i, rfl, hil, rdK eV2 hil fun _ _ h2 => ⟨_, h2, (), rfl, rfl, hd.ext⟩⟩⟩, ?_⟩
        rintro _ _ V3 e23
        have eV3 := eV2.trans e23
        refine ⟨⟨a2, _, c2, box_cell (eV3.heap hk), wb s k, rfl, hlt, rdK eV3 hlt fun _ _ h1 => ⟨_, h1, bcase_mk (fun h3 => ⟨(), ?_, Ext.refl _⟩) (fun h3 => ⟨(), ?_, Ext.refl _⟩)⟩⟩, ?_⟩
        · have h3 : kw s (wb s k) = 1 := by have : (kw s (wb s k) : Int) = 1 := by simpa using h3
                                            omega
          congr 1
          rw [show (((kw s i : Nat) : Int) == 1) = decide (kw s i = 1) from beq_nat _ 1, decide_eq_decide]
          omega
        · have h3 : kw s (wb s k) ≠ 1 := by have : ¬ (kw s (wb s k) : Int) = 1 := by simpa using h3
                                            omega
          rw [decide_eq_false (fun hp => h3 hp.1)]
        rintro _ _ V4 e34
        have eV4 := eV3.trans e34
        refine ⟨?_, ?_⟩
        · refine bcase_mk (fun h3 => ?_) (fun h3 => ⟨inr_i64 (by omega) (by omega), bcase_mk (fun h4 => ?_) (fun h4 => ?_)⟩)
          rotate_left 2
          · have h3 := of_decide_eq_false h3
            have h4 := of_decide_eq_false h4
            refine ⟨(), ?_, Ext.refl _⟩
            congr 1
            rw [decide_eq_decide]
            unfold JoinW
            constructor
            · exact .inl
            · rintro (hj | ⟨hj, _⟩)
              · exact hj
              · omega
          all_goals
            have hor : 3 ≤ kw s (i - 1) ∨ wb s k + 1 < i := by
              first
                | (have h3 := of_decide_eq_true h3; exact .inl (by omega))
                | (have h4 := of_decide_eq_true h4; exact .inr (by omega))
            refine ⟨?_, ?_⟩
            · refine bcase_mk (fun g1 => bcase_mk (fun g2 => ⟨inr_i64 (by omega) (by omega), a, _, c, box_cell (eV4.heap hb), bcase_mk (fun g3 => ⟨a, _, c, box_cell (eV4.heap hb), i, rfl, hil, rdT eV4 hil fun _ _ hc => ⟨_, hc, _, rfl, trivial, ?_⟩⟩) (fun g3 => ⟨(), ?_, Ext.refl _⟩)⟩) (fun g2 => ⟨(), ?_, Ext.refl _⟩)) (fun g1 => ⟨(), ?_, Ext.refl _⟩)
              · have g1 := of_decide_eq_true g1
                have g2 := of_decide_eq_true g2
                have g3 := of_decide_eq_true g3
                rintro x3 V' ⟨hx3, hV'⟩
                replace hV' := hV'.symm
                subst hV'
                have hx3 : x3 = bw s i := hx3
                subst hx3
                refine bcase_mk (fun g4 => ⟨a2, _, c2, box_cell (eV4.heap hk), inr_i64 (by omega) (by omega), i + 1, by omega, by omega, rdK eV4 (by omega) fun _ _ hc => ⟨_, hc, (), ?_, Ext.refl _⟩⟩) (fun g4 => ⟨(), ?_, Ext.refl _⟩)
                · have g4 : bw s i = kw s (i - 1) := by rw [beq_nat] at g4; exact of_decide_eq_true g4
                  congr 1
                  rw [beq_nat, decide_eq_decide]
                  omega
                · have g4 : ¬ bw s i = kw s (i - 1) := by rw [beq_nat] at g4; exact of_decide_eq_false g4
                  rw [decide_eq_false (fun hp => g4 hp.2.2.2.1)]
              · have g3 := of_decide_eq_false g3
                rw [decide_eq_false (fun hp => by have := hp.2.2.1; omega)]
              · have g2 := of_decide_eq_false g2
                rw [decide_eq_false (fun hp => by have := hp.2.1; omega)]
              · have g1 := of_decide_eq_false g1
                rw [decide_eq_false (fun hp => by have := hp.1; omega)]
            rintro _ _ V5 e45
            have eV5 := eV4.trans e45
            refine bcase_mk (fun j1 => ⟨(), ?_, e45⟩) (fun j1 => ⟨a2, _, c2, box_cell (eV5.heap hk), wb s k, rfl, hlt, rdK eV5 hlt fun _ _ hc => ⟨_, hc, bcase_mk (fun j2 => bcase_mk (fun j3 => ⟨(), ?_, e45⟩) (fun j3 => ⟨(), ?_, e45⟩)) (fun j2 => ⟨(), ?_, e45⟩)⟩⟩)
            · have j1 := of_decide_eq_true j1
              rw [decide_eq_true (show JoinW (ncl s) (kw s) (bw s) (wb s k) i from .inl j1)]
            · have j2 := of_decide_eq_true j2
              have j3 := of_decide_eq_true j3
              rw [decide_eq_true (show JoinW (ncl s) (kw s) (bw s) (wb s k) i from .inr ⟨hor, by omega, .inl (by omega)⟩)]
            · have j1 := of_decide_eq_false j1
              have j2 := of_decide_eq_true j2
              have j3 := of_decide_eq_false j3
              congr 1
              rw [decide_eq_decide]
              unfold JoinW
              constructor
              · intro hh
                exact .inr ⟨hor, by omega, .inr hh⟩
              · rintro (hh | ⟨_, _, hh | hh⟩)
                · exact absurd hh j1
                · omega
                · exact hh
            · have j1 := of_decide_eq_false j1
              have j2 := of_decide_eq_false j2
              rw [decide_eq_false (show ¬ JoinW (ncl s) (kw s) (bw s) (wb s k) i from by
                rintro (hh | ⟨_, hh, _⟩)
                · exact j1 hh
                · omega)]
        rintro _ _ V5 e45
        have eV5 := eV4.trans e45
        have e25 := (e23.trans e34).trans e45
        have e15 := e12.trans e25
        refine bcase_mk (fun hj => ?_) (fun hj => ?_)
        · have hj : ¬ JoinW (ncl s) (kw s) (bw s) (wb s k) i := by simpa using hj
          have hseg := inv_seg (kw_bw s) (bw_34 s) hinv (.inr ⟨hil, hj⟩)
          have hw1 : wb s (k + 1) = i := by rw [wb_succ hl]; unfold sgW; omega
          intro w12 hd
          exact ⟨notS (V' := W) ⟨_, hk⟩, a2, _, c2, box_cell (eV5.heap hk), wb s k, rfl, hlt, getB (hrK.ext eV5) (v := .int .i64 (kw s (wb s k) : Nat)) (by rw [List.getElem?_map, ksP_at hlt]; rfl) fun b3 o3 hbk hc => ⟨notS (V' := W) ⟨_, Array.getElem?_eq_getElem (hrK.lt hbk)⟩, _, hc,
            two_push ((hme.later e15).later hd.ext) ((hms.later e15).later hd.ext) hne (by omega) (fun q hq => .inl hq) (hY i hw1)⟩⟩
        · have hj : JoinW (ncl s) (kw s) (bw s) (wb s k) i := by simpa using hj
          exact ⟨a, _, c, box_cell (eV5.heap hb), i, rfl, hil, rdT eV5 hil fun _ _ hc => ⟨_, hc, inr_i64 (by omega) (by omega), inr_i64 (by omega) (by omega), i + 1, by simp, by congr 1; omega, trivial, trivial, ⟨inv_next (kw_bw s) (bw_34 s) hinv hil hj, e15⟩, by omega⟩⟩
      · have hie : i = ncl s := by have := of_decide_eq_false h2; omega
        have hseg := inv_seg (kw_bw s) (bw_34 s) hinv (.inl hie)
        have hw1 : wb s (k + 1) = i := by rw [wb_succ hl]; unfold sgW; omega
        intro w12 hd
        exact ⟨notS (V' := W) ⟨_, hk⟩, a2, _, c2, box_cell (eV2.heap hk), wb s k, rfl, hlt, getB (hrK.ext eV2) (v := .int .i64 (kw s (wb s k) : Nat)) (by rw [List.getElem?_map, ksP_at hlt]; rfl) fun b3 o3 hbk hc => ⟨notS (V' := W) ⟨_, Array.getElem?_eq_getElem (hrK.lt hbk)⟩, _, hc,
          two_push ((hme.later e12).later hd.ext) ((hms.later e12).later hd.ext) hne (by omega) (fun q hq => .inl hq) (hY i hw1)⟩⟩
    · have hke : k = wn s := by
        have := of_decide_eq_false h
        rcases Nat.lt_or_ge k (wn s) with h1 | h1
        · have := wb_lt.1 h1; omega
        · omega
      subst hke
      rw [List.take_of_length_le (by rw [elen]; exact Nat.le_refl _)] at hme
      rw [List.take_of_length_le (by rw [slen]; exact Nat.le_refl _)] at hms
      intro w2 hT2
      exact ⟨⟨wn s, ea, ec, sa, sc⟩, rfl, rfl, (hme.earlier eW).turn hT2 (Nat.le_refl _), (hms.earlier eW).turn hT2 (Nat.le_refl _)⟩

end Go.Proofs.YthpjkgoahneldaaDoor
end

section
/-
  Chapter 12: the iterator's text, borders, the segment at a place, the next and the last beginning of a word.
-/
namespace Go.Proofs.YthpjkgoahneldaaDoor
open Go Go.RowKit Vc Ut Tb Cl Orb Wd
attribute [local irreducible] sortC betC

theorem allW_ok : sAllW.Ok Tryd.prog 31 := by
  refine allW_vc ⟨segs_ok, trivial⟩ ?_
  rintro (s : ByteArray) w ⟨hU, hs⟩ b w1 hn1
  have z1 := hn1.size
  refine ⟨s, box_cell hn1.heap, s, rfl, ⟨hU.ext hn1.ext, hs⟩, ?_⟩
  rintro ⟨n, ea, ec, sa, sc⟩ w2 ⟨hn, hme, _⟩
  dsimp only at hn hme ⊢
  subst hn
  intro b1 w3 hn3
  have z2 := hme.ext.size
  have z3 := hn3.size
  have e12 := hn1.ext.trans hme.ext
  refine ⟨rfl, box_old hn3.heap, box_free hn3.heap, fun w4 hs4 => ⟨⟨s, b1, b, ea, ec⟩, rfl, rfl, ⟨?_, ?_, ?_, ?_, hs⟩, ?_, ?_⟩⟩
  · exact hs4.box hn3.heap
  · exact (hs4.other (k := b) (by show b ≠ b1; omega)).trans (hn3.ext.heap (hme.ext.heap hn1.heap))
  · refine (hme.row.cells.ext hn3.ext).fr (Fr.stored hs4) (fun q hq h => ?_)
    have := hme.row.lt hq
    have h : q = b1 := h
    omega
  · intro q hq
    have := hme.row.lt hq
    rw [hs4.size]; omega
  · rintro q (rfl | rfl | hq)
    · omega
    · omega
    · have := hme.new q hq; omega
  · exact (e12.trans hn3.ext).stored hs4 (by show _ ≤ b1; omega)

theorem cWd_lt {g : GWd} {w : World} (h : hWd g w) : ∀ q, cWd g q → q < w.heap.size := by
  rintro q (rfl | rfl | hq)
  · exact heap_lt h.1
  · exact heap_lt h.2.1
  · exact h.2.2.2.1 q hq
theorem wd_iter {g : GWd} {w : World} (h : hWd g w) : IterAt Tryd.prog (.func (.func 69) #[] #[.pointer (some ⟨g.be, 0, none⟩), .pointer (some ⟨g.bs, 0, none⟩)]) ((wdL g.s).map encPc) (cWd g) w := by
  refine itWd_ok g w h (cWd_lt h) (fun W hW hq => ?_)
  obtain ⟨h1, h2, h3, h4, h5⟩ := h
  exact ⟨(hq _ (.inl rfl)).trans h1, (hq _ (.inr (.inl rfl))).trans h2, h3.keep (fun q hq' => hq q (.inr (.inr hq'))), fun q hq' => Nat.lt_of_lt_of_le (h4 q hq') hW, h5⟩

theorem isW_iff {s : ByteArray} {p : Int} : isW s p = true ↔ ∃ i, i ≤ wn s ∧ (wp s i : Int) = p := by
  unfold isW
  rw [List.any_eq_true]
  constructor
  · rintro ⟨i, hi, h⟩
    have := List.mem_range.1 hi
    exact ⟨i, by omega, of_decide_eq_true h⟩
  · rintro ⟨i, hi, h⟩
    exact ⟨i, List.mem_range.2 (by omega), decide_eq_true h⟩
theorem wp_out {s : ByteArray} {i : Nat} (h : wn s ≤ i) : wp s i = s.size := by
  unfold wp wb; rw [orb_out seg_fit h]; exact bp_end s
theorem wd_sz {s : ByteArray} {k : Nat} : ((wdP s k).2.size : Int) = (wp s (k + 1) : Int) - wp s k := ext_sz (wp_le s _) (wp_mono s (by omega))
theorem ixW_of {s : ByteArray} {p i : Nat} (hi : i ≤ wn s) (h1 : ∀ j, j < i → wp s (j + 1) ≤ p) (h2 : i = wn s ∨ p < wp s (i + 1)) : ixW s p = i := by
  unfold ixW
  rcases Nat.lt_or_eq_of_le hi with hlt | he
  · have : (List.range (wn s)).find? (fun i => decide (p < wp s (i + 1))) = some i := by
      rw [List.find?_range_eq_some]
      refine ⟨decide_eq_true (h2.resolve_left (by omega)), List.mem_range.2 hlt, fun j hj => ?_⟩
      have := h1 j hj
      simp; omega
    rw [this]; rfl
  · have : (List.range (wn s)).find? (fun i => decide (p < wp s (i + 1))) = none := by
      rw [List.find?_range_eq_none]
      intro j hj
      have := h1 j (by omega)
      simp; omega
    rw [this, he]; rfl

theorem isW_ok : sIsW.Ok Tryd.prog 35 := by
  refine isW_vc ⟨allW_ok, trivial⟩ ?_
  rintro ⟨s, p⟩ w ⟨hU, hsm⟩ b w1 hn1 b1 w2 hn2
  dsimp only at hU hsm ⊢
  have hs1 := hn1.size; have hs2 := hn2.size
  have e02 := hn1.ext.trans hn2.ext
  refine ⟨s, rfl, ⟨hU.ext e02, hsm⟩, ?_⟩
  rintro x w3 ⟨rfl, hh, hnew, e23⟩
  have e03 := e02.trans e23
  have hp3 := (hn2.ext.trans e23).heap hn1.heap
  have hb3 := e23.heap hn2.heap
  have hwl := wd_len x.s
  dsimp only [ptrB]
  have nd : ∀ q, q ≠ b1 → ¬ ones [b1] q := fun q hq h => hq (ones_one.1 h)
  refine ⟨wdL x.s, cWd x, ones [b1], wd_iter hh, ⟨?_, ?_⟩, ⟨rfl, fun j hj => by omega, _, hb3⟩, ?_, ?_, ?_, ?_, ?_⟩
  · intro q hq; rw [ones_one] at hq; subst hq; exact heap_lt hb3
  · intro q hq
    refine ⟨cWd_lt hh q hq, nd q ?_⟩
    have := hnew q hq; omega
  · rintro k D W W' ⟨rfl, hj, v, ha⟩ hsz hq
    exact ⟨rfl, hj, v, hq b1 _ (.inr (ones_one.2 rfl)) ha (.inl rfl)⟩
  · rintro _ k D W W' ⟨rfl, ha⟩ hsz hq
    exact ⟨rfl, hq b1 _ (.inr (ones_one.2 rfl)) ha (.inl rfl)⟩
  · rintro k pp D W hp ⟨rfl, hj, v, ha⟩ hM
    have hkl : k < wn x.s := by have := (List.getElem?_eq_some_iff.1 hp).1; rwa [hwl] at this
    rw [wd_get hkl] at hp
    cases hp
    have hpW := (hM.old (heap_lt hp3) (nd b (by omega))).trans hp3
    refine ⟨p, box_cell hpW, ?_⟩
    refine bcase_mk (fun h => ?_) (fun h => ?_)
    · have h : ((wdP x.s k).1 : Int) = p := by simpa using h
      refine ⟨rfl, box_old ha, box_free ha, fun w6 hs6 => ⟨_, Step.stored hs6 (ones_one.2 rfl) hM.lt, rfl, ?_⟩⟩
      rw [isW_iff.2 ⟨k, by omega, h⟩]
      exact hs6.box ha
    · have h : ((wdP x.s k).1 : Int) ≠ p := by simpa using h
      refine ⟨_, Step.refl hM.lt, rfl, fun j hj' => ?_, v, ha⟩
      by_cases hjk : j = k
      · subst hjk; exact h
      · exact hj j (by omega)
  · rintro D W ⟨rfl, hj, v, ha⟩ hM
    rw [lenX_eq, hwl] at hj
    have hpW := (hM.old (heap_lt hp3) (nd b (by omega))).trans hp3
    have eW : Ext w W := hM.ext e03 (fun q hq => by rw [ones_one] at hq; omega)
    refine ⟨p, box_cell hpW, rfl, box_old ha, box_free ha, fun w6 hs6 => ⟨_, box_cell (hs6.box ha), fun w7 ht => ⟨_, rfl, ?_, Ext.turn (eW.stored hs6 (by show _ ≤ b1; omega)) ht⟩⟩⟩
    have hv : (p == (x.s.size : Int)) = true ↔ isW x.s p = true := by
      rw [beq_iff_eq, isW_iff]
      constructor
      · intro e; exact ⟨wn x.s, Nat.le_refl _, by rw [wp_end]; exact e.symm⟩
      · rintro ⟨i, hi, e⟩
        by_cases hik : i < wn x.s
        · exact absurd e (hj i hik)
        · have : i = wn x.s := by omega
          subst this; rw [wp_end] at e; exact e.symm
    exact Bool.eq_iff_iff.2 hv
  · rintro D W ⟨rfl, ha⟩ hM
    have eW : Ext w W := hM.ext e03 (fun q hq => by rw [ones_one] at hq; omega)
    exact ⟨_, box_cell ha, fun w7 ht => ⟨_, rfl, rfl, Ext.turn eW ht⟩⟩

theorem atW_ok : sAtW.Ok Tryd.prog 33 := by
  refine atW_vc ⟨allW_ok, trivial⟩ ?_
  rintro ⟨s, p⟩ w ⟨hU, hsm⟩ b w1 hn1 b1 w2 hn2 b2 w3 hn3
  dsimp only at hU hsm ⊢
  have hut := hU.lt
  have hs1 := hn1.size; have hs2 := hn2.size; have hs3 := hn3.size
  have e13 := hn2.ext.trans hn3.ext
  have e03 := hn1.ext.trans e13
  have hpb := e13.heap hn1.heap
  refine ⟨p, box_cell hpb, rfl, box_old hpb, box_free hpb, fun w4 hs4 => ?_⟩
  have hp4 := hs4.box hpb
  rw [clamp_min] at hp4
  have e04 : Ext w w4 := e03.stored hs4 (by show _ ≤ b; omega)
  have h14 := (hs4.other (k := b1) (by show b1 ≠ b; omega)).trans (hn3.ext.heap hn2.heap)
  have h24 := (hs4.other (k := b2) (by show b2 ≠ b; omega)).trans hn3.heap
  have hsz4 := hs4.size
  refine ⟨s, rfl, ⟨hU.ext e04, hsm⟩, ?_⟩
  rintro x w5 ⟨rfl, hh, hnew, e45⟩
  have e05 := e04.trans e45
  have hp5 := e45.heap hp4
  have h15 := e45.heap h14
  have h25 := e45.heap h24
  have hwl := wd_len x.s
  dsimp only [ptrB]
  have nd : ∀ q, q ≠ b1 → q ≠ b2 → ¬ ones [b1, b2] q := fun q hq hq2 h => (ones_two.1 h).elim hq hq2
  refine ⟨wdL x.s, cWd x, ones [b1, b2], wd_iter hh, ⟨?_, ?_⟩, ⟨rfl, fun j hj => by omega, _, _, h15, h25⟩, ?_, ?_, ?_, ?_, ?_⟩
  · intro q hq; rcases ones_two.1 hq with rfl | rfl
    · exact heap_lt h15
    · exact heap_lt h25
  · intro q hq
    have := hnew q hq
    exact ⟨cWd_lt hh q hq, nd q (by omega) (by omega)⟩
  · rintro k D W W' ⟨rfl, hj, v, u, ha, hb⟩ hsz hq
    exact ⟨rfl, hj, v, u, hq b1 _ (.inr (ones_two.2 (.inl rfl))) ha (.inl rfl), hq b2 _ (.inr (ones_two.2 (.inr rfl))) hb (.inl rfl)⟩
  · rintro _ k D W W' ⟨rfl, ha, hb⟩ hsz hq
    exact ⟨rfl, hq b1 _ (.inr (ones_two.2 (.inl rfl))) ha (.inl rfl), hq b2 _ (.inr (ones_two.2 (.inr rfl))) hb (.inl rfl)⟩
  · rintro k pp D W hp ⟨rfl, hj, v, u, ha, hb⟩ hM
    have hkl : k < wn x.s := by have := (List.getElem?_eq_some_iff.1 hp).1; rwa [hwl] at this
    rw [wd_get hkl] at hp
    cases hp
    have hpW := (hM.old (heap_lt hp5) (nd b (by omega) (by omega))).trans hp5
    have hle := wp_le x.s (k + 1)
    have hsz : ((wdP x.s k).1 : Int) + ((wdP x.s k).2.size : Int) = (wp x.s (k + 1) : Int) := by
      have := wd_sz (s := x.s) (k := k); show (wp x.s k : Int) + _ = _; omega
    rw [hsz]
    refine ⟨_, box_cell hpW, inr_i64 (by omega) (by omega), ?_⟩
    refine bcase_mk (fun h => ?_) (fun h => ?_)
    · have h : clampN x.s p < wp x.s (k + 1) := by have := of_decide_eq_true h; omega
      refine ⟨inr_i64 (by omega) (by omega), rfl, box_old ha, box_free ha, fun w6 hs6 => ?_⟩
      have hb6 := (hs6.other (k := b2) (by show b2 ≠ b1; omega)).trans hb
      refine ⟨rfl, box_old hb6, box_free hb6, fun w7 hs7 => ?_⟩
      have s6 := Step.stored hs6 (ones_two.2 (.inl rfl)) hM.lt
      refine ⟨_, s6.trans (Step.stored hs7 (ones_two.2 (.inr rfl)) (fun q hq => (s6.dom q hq).1)), rfl, ?_, ?_⟩
      · have := (hs7.other (k := b1) (by show b1 ≠ b2; omega)).trans (hs6.box ha)
        rw [ixW_of (by omega) hj (.inr h)]; exact this
      · have := hs7.box hb6
        rw [ixW_of (by omega) hj (.inr h)]; exact this
    · have h : wp x.s (k + 1) ≤ clampN x.s p := by have := of_decide_eq_false h; omega
      refine ⟨_, Step.refl hM.lt, rfl, fun j hj' => ?_, v, u, ha, hb⟩
      by_cases hjk : j = k
      · subst hjk; exact h
      · exact hj j (by omega)
  · rintro D W ⟨rfl, hj, v, u, ha, hb⟩ hM
    rw [lenX_eq, hwl] at hj
    have eW : Ext w W := hM.ext e05 (fun q hq => by rcases ones_two.1 hq with h | h <;> omega)
    refine ⟨rfl, box_old ha, box_free ha, fun w6 hs6 => ?_⟩
    have hb6 := (hs6.other (k := b2) (by show b2 ≠ b1; omega)).trans hb
    refine ⟨rfl, box_old hb6, box_free hb6, fun w7 hs7 => ?_⟩
    have ha7 := (hs7.other (k := b1) (by show b1 ≠ b2; omega)).trans (hs6.box ha)
    have hb7 := hs7.box hb6
    refine ⟨_, box_cell ha7, _, box_cell hb7, fun w8 ht => ⟨(x.s.size, x.s.size), rfl, ?_, Ext.turn ((eW.stored hs6 (by show _ ≤ b1; omega)).stored hs7 (by show _ ≤ b2; omega)) ht⟩⟩
    rw [ixW_of (Nat.le_refl _) hj (.inl rfl), wp_end, wp_out (by omega)]
  · rintro D W ⟨rfl, ha, hb⟩ hM
    have eW : Ext w W := hM.ext e05 (fun q hq => by rcases ones_two.1 hq with h | h <;> omega)
    exact ⟨_, box_cell ha, _, box_cell hb, fun w8 ht => ⟨(_, _), rfl, rfl, Ext.turn eW ht⟩⟩

/-! ### The document's -/
theorem q_alone {a : Nat} (h : a ≤ 4) : (((sortQ a : Nat) : Int) == 1 || (((sortQ a : Nat) : Int) == 2 || ((sortQ a : Nat) : Int) == 3)) = decide (2 ≤ a) := by rcases five h with rfl | rfl | rfl | rfl | rfl <;> rfl
theorem wordR_ok : sWordR.Ok Tryd.prog 73 := by
  refine wordR_vc ⟨rnextC_ok, sortR_ok, trivial⟩ ?_
  rintro (s : ByteArray) w ⟨hU, hs, h0⟩
  refine ⟨s, rfl, ⟨hU, hs⟩, ?_⟩
  rintro x w1 ⟨rfl, e1⟩
  have hn : 0 < ncl s := by rcases Nat.eq_zero_or_pos (ncl s) with h | h; exact absurd (ncl_zero.1 h) (by omega); exact h
  have h1 : 0 < bp s 1 := by have := bp_strict (s := s) (show 0 < 1 by omega) hn; omega
  have h2 := bp_le s 1
  have hx : s.extract 0 (nextL s) = (pcP s 0).2 := rfl
  refine ⟨_, rfl, Nat.zero_le _, h2, _, rfl, ⟨hU.ext e1, ?_, ?_⟩, ?_⟩
  · show (s.extract 0 (bp s 1)).size ≤ _; rw [size_ext h2]; omega
  · show 0 < (s.extract 0 (bp s 1)).size; rw [size_ext h2]; omega
  rintro x2 w2 ⟨rfl, e2⟩
  rw [hx, q_alone (sort_le _)]
  exact ⟨_, rfl, rfl, e1.trans e2⟩

theorem wd_atF {s : ByteArray} {i j : Nat} {v : Value} (h : i < wn s) (hj : j < 2) (hv : (encPc (wdP s i))[j]? = some v) : ((wdL s).flatMap encPc)[i * 2 + j]? = some v := by
  rw [enc_at (wd_get h) hj]; exact hv
theorem risW_ok : sIsW.Ok Tryd.prog 36 := by
  refine risW_vc ⟨rallW_ok, into_ok, wordR_ok, trivial⟩ ?_
  rintro ⟨s, p⟩ w ⟨hU, hsm⟩
  dsimp only at hU hsm ⊢
  have hncl := ncl_le s
  have hwn := wn_le s
  refine ⟨s, rfl, ⟨hU, hsm⟩, ?_⟩
  rintro ⟨a, n, c⟩ w1 ⟨hn, hm⟩
  dsimp only at hn hm ⊢
  subst hn
  have hc := hm.row.cells
  refine ⟨⟨0, rfl, Nat.zero_le _, fun j hj => by omega, Ext.refl _⟩, ?_⟩
  rintro _ i w2 ⟨hi, hno, e2⟩
  have E2 := hm.ext.trans e2
  refine bcase_mk (fun h => ?_) (fun h => ⟨_, rfl, ?_, E2⟩)
  · have hlt : i < wn s := by have := of_decide_eq_true h; omega
    refine ⟨i, rfl, by omega, (hc.ext e2).fld (s := 2) (j := 0) (v := .int .i64 (wp s i)) (wd_atF hlt (by decide) rfl) fun b o hb => ⟨_, hb, ?_⟩⟩
    refine bcase_mk (fun h1 => ⟨true, rfl, ?_, E2⟩) (fun h1 => ?_)
    · exact (isW_iff.2 ⟨i, hi, by simpa using h1⟩).symm
    · have h1 : (wp s i : Int) ≠ p := by simpa using h1
      refine ⟨inr_i64 (by omega) (by omega), i + 1, by simp, ⟨by omega, fun j hj => ?_, e2⟩, by omega⟩
      by_cases hji : j = i
      · subst hji; exact h1
      · exact hno j (by omega)
  · have hie : i = wn s := by have := of_decide_eq_false h; omega
    subst hie
    rw [Bool.eq_iff_iff, isW_iff, beq_iff_eq]
    constructor
    · intro e; exact ⟨wn s, Nat.le_refl _, by rw [wp_end]; exact e.symm⟩
    · rintro ⟨i, hi, e⟩
      by_cases hik : i < wn s
      · exact absurd e (hno i hik)
      · have : i = wn s := by omega
        subst this; rw [wp_end] at e; exact e.symm

set_option maxRecDepth 10000 in
theorem ratW_ok : sAtW.Ok Tryd.prog 34 := by
  refine ratW_vc ⟨rallW_ok, into_ok, wordR_ok, trivial⟩ ?_
  rintro ⟨s, p⟩ w ⟨hU, hsm⟩
  dsimp only at hU hsm ⊢
  have hncl := ncl_le s
  have hwn := wn_le s
  refine ⟨(p, 0, s.size), rfl, trivial, ?_⟩
  rintro x _ ⟨hx, rfl⟩
  dsimp only at hx
  rw [clamp_eq] at hx
  subst hx
  refine ⟨s, rfl, ⟨hU, hsm⟩, ?_⟩
  rintro ⟨a, n, c⟩ w1 ⟨hn, hm⟩
  dsimp only at hn hm ⊢
  subst hn
  have hc := hm.row.cells
  refine ⟨⟨0, rfl, Nat.zero_le _, fun j hj => by omega, Ext.refl _⟩, ?_⟩
  rintro _ i w2 ⟨hi, hno, e2⟩
  have E2 := hm.ext.trans e2
  refine bcase_mk (fun h => ?_) (fun h => ?_)
  · have hlt : i < wn s := by have := of_decide_eq_true h; omega
    have hb1 := wp_le s (i + 1)
    have hb2 := wp_mono s (show i ≤ i + 1 by omega)
    have hsz := wd_sz (s := s) (k := i)
    have r0 : ∀ {w' : World} {K : Nat → Nat → Prop}, Ext w1 w' → (∀ b o, w'.cell? ⟨b, o + i * 2, none⟩ = some (.int .i64 (wp s i)) → K b o) → ptrE a K := fun e hK => (hc.ext e).fld (s := 2) (j := 0) (wd_atF hlt (by decide) rfl) hK
    have r1 : ∀ {w' : World} {K : Nat → Nat → Prop}, Ext w1 w' → (∀ b o, w'.cell? ⟨b, o + i * 2 + 1, none⟩ = some (.string (wdP s i).2) → K b o) → ptrE a K := fun e hK => (hc.ext e).fld (s := 2) (j := 1) (wd_atF hlt (by decide) rfl) hK
    intro w3 hd
    refine ⟨i, rfl, hlt, r0 e2 fun b o hb => ⟨_, hb, i, rfl, hlt, r1 e2 fun b o hb => ⟨_, hb, inr_i64 (by omega) (by omega), ?_⟩⟩⟩
    refine bcase_mk (fun h1 => ?_) (fun h1 => ?_)
    · have h1 : clampN s p < wp s (i + 1) := by have := of_decide_eq_true h1; omega
      intro w4 hd4
      have e3 := e2.trans hd.ext
      refine ⟨i, rfl, hlt, r0 e3 fun b o hb => ⟨_, hb, i, rfl, hlt, r0 e3 fun b o hb => ⟨_, hb, i, rfl, hlt, r1 e3 fun b o hb => ⟨_, hb, inr_i64 (by omega) (by omega), (wp s i, wp s (i + 1)), ?_, ?_, (E2.trans hd.ext).trans hd4.ext⟩⟩⟩⟩
      · dsimp only; rw [show (wp s i : Int) + ((wdP s i).2.size : Int) = (wp s (i + 1) : Int) from by omega]
      · rw [ixW_of hi hno (.inr h1)]
    · have h1 : wp s (i + 1) ≤ clampN s p := by have := of_decide_eq_false h1; omega
      refine ⟨inr_i64 (by omega) (by omega), i + 1, by simp, ⟨hlt, fun j hj => ?_, e2.trans hd.ext⟩, by omega⟩
      by_cases hji : j = i
      · subst hji; exact h1
      · exact hno j (by omega)
  · have hie : i = wn s := by have := of_decide_eq_false h; omega
    subst hie
    refine ⟨(s.size, s.size), rfl, ?_, E2⟩
    rw [ixW_of hi hno (.inl rfl), wp_end, wp_out (by omega)]

theorem nxU_none {s : ByteArray} {q : Nat} : ∀ {k : Nat}, (∀ j, j < k → ¬ (wdB s j = true ∧ q < wp s j)) → nxU s q k = s.size
  | 0, _ => rfl
  | k + 1, h => by
    simp only [nxU]
    rw [if_neg (fun hh => h k (by omega) ⟨hh.1, hh.2.1⟩)]
    exact nxU_none fun j hj => h j (by omega)
theorem nxU_first {s : ByteArray} {q i : Nat} (hi : i < wn s) (h : ∀ j, j < i → ¬ (wdB s j = true ∧ q < wp s j)) (h1 : wdB s i = true) (h2 : q < wp s i) : ∀ {k : Nat}, i < k → k ≤ wn s → nxU s q k = wp s i
  | 0, hk, _ => by omega
  | k + 1, hk, hkn => by
    simp only [nxU]
    by_cases hik : i = k
    · subst hik
      have h3 := wp_step hi
      have h4 := wp_le s (i + 1)
      rw [if_pos ⟨h1, h2, by rw [nxU_none h]; omega⟩]
    · rw [nxU_first hi h h1 h2 (by omega) (by omega)]
      have := wp_mono s (show i ≤ k by omega)
      rw [if_neg (by omega)]
theorem nxU_le {s : ByteArray} {q : Nat} : ∀ k, nxU s q k ≤ s.size
  | 0 => Nat.le_refl _
  | k + 1 => by
    simp only [nxU]
    split
    · exact wp_le s k
    · exact nxU_le k
theorem pvU_le {s : ByteArray} {q : Nat} : ∀ k, pvU s q k ≤ s.size
  | 0 => Nat.zero_le _
  | k + 1 => by
    simp only [pvU]
    split
    · exact wp_le s k
    · exact pvU_le k
/-- A segment's first cluster tells its sort. -/
theorem wd_sort {s : ByteArray} {k : Nat} (h : k < wn s) : sortC (pcP (wdP s k).2 0).2 = kw s (wb s k) := by rw [(wd_first h).2.1]; rfl
theorem wd_pos {s : ByteArray} {k : Nat} (h : k < wn s) : 0 < (wdP s k).2.size ∧ (wdP s k).2.size ≤ s.size := by
  have h1 := wd_sz (s := s) (k := k)
  have h2 := wp_step h
  have h3 := wp_le s (k + 1)
  omega

set_option maxRecDepth 10000 in
theorem rnextW_ok : (sSIN nextW).Ok Tryd.prog 38 := by
  refine rnextW_vc ⟨rallW_ok, into_ok, wordR_ok, trivial⟩ ?_
  rintro ⟨s, p⟩ w ⟨hU, hsm⟩
  dsimp only at hU hsm ⊢
  have hncl := ncl_le s
  have hwn := wn_le s
  refine ⟨(p, 0, s.size), rfl, trivial, ?_⟩
  rintro x _ ⟨hx, rfl⟩
  dsimp only at hx
  rw [clamp_eq] at hx
  subst hx
  refine ⟨s, rfl, ⟨hU, hsm⟩, ?_⟩
  rintro ⟨a, n, c⟩ w1 ⟨hn, hm⟩
  dsimp only at hn hm ⊢
  subst hn
  have hc := hm.row.cells
  refine ⟨⟨0, rfl, Nat.zero_le _, fun j hj => by omega, Ext.refl _⟩, ?_⟩
  rintro _ i w2 ⟨hi, hno, e2⟩
  have E2 := hm.ext.trans e2
  refine bcase_mk (fun h => ?_) (fun h => ?_)
  · have hlt : i < wn s := by have := of_decide_eq_true h; omega
    have r0 : ∀ {w' : World} {K : Nat → Nat → Prop}, Ext w1 w' → (∀ b o, w'.cell? ⟨b, o + i * 2, none⟩ = some (.int .i64 (wp s i)) → K b o) → ptrE a K := fun e hK => (hc.ext e).fld (s := 2) (j := 0) (wd_atF hlt (by decide) rfl) hK
    have r1 : ∀ {w' : World} {K : Nat → Nat → Prop}, Ext w1 w' → (∀ b o, w'.cell? ⟨b, o + i * 2 + 1, none⟩ = some (.string (wdP s i).2) → K b o) → ptrE a K := fun e hK => (hc.ext e).fld (s := 2) (j := 1) (wd_atF hlt (by decide) rfl) hK
    have on : ∀ {w' : World}, Ext w1 w' → ¬ (wdB s i = true ∧ clampN s p < wp s i) → InR .i64 ((i : Int) + 1) ∧ ∃ y : Nat, Value.int .i64 ((i : Int) + 1) = Value.int .i64 (y : Int) ∧ (y ≤ wn s ∧ (∀ j, j < y → ¬ (wdB s j = true ∧ clampN s p < wp s j)) ∧ Ext w1 w') ∧ wn s - y < wn s - i := fun e hn => by
      refine ⟨inr_i64 (by omega) (by omega), i + 1, by simp, ⟨hlt, fun j hj => ?_, e⟩, by omega⟩
      by_cases hji : j = i
      · subst hji; exact hn
      · exact hno j (by omega)
    refine ⟨i, rfl, hlt, r0 e2 fun b o hb => ⟨_, hb, bcase_mk (fun h1 => ?_) (fun h1 => ?_)⟩⟩
    · have h1 : clampN s p < wp s i := by have := of_decide_eq_true h1; omega
      have hp := wd_pos hlt
      refine ⟨i, rfl, hlt, r1 e2 fun b o hb => ⟨_, hb, _, rfl, ⟨hU.ext E2, by omega, hp.1⟩, ?_⟩⟩
      rintro x w3 ⟨hx, e3⟩
      replace hx : x = wdB s i := hx.trans (by unfold wdB; rw [← wd_sort hlt]; rfl)
      subst hx
      refine bcase_mk (fun h2 => ?_) (fun h2 => on (e2.trans e3) (by rw [h2]; simp))
      refine ⟨i, rfl, hlt, r0 (e2.trans e3) fun b o hb => ⟨_, hb, wp s i, rfl, ?_, E2.trans e3⟩⟩
      exact (nxU_first hlt hno h2 h1 hlt (Nat.le_refl _)).symm
    · have h1 : ¬ clampN s p < wp s i := by have := of_decide_eq_false h1; omega
      exact on e2 (fun hh => h1 hh.2)
  · have hie : i = wn s := by have := of_decide_eq_false h; omega
    subst hie
    exact ⟨s.size, rfl, (nxU_none hno).symm, E2⟩

set_option maxRecDepth 10000 in
theorem rprevW_ok : (sSIN prevW).Ok Tryd.prog 40 := by
  refine rprevW_vc ⟨rallW_ok, into_ok, wordR_ok, trivial⟩ ?_
  rintro ⟨s, p⟩ w ⟨hU, hsm⟩
  dsimp only at hU hsm ⊢
  have hncl := ncl_le s
  have hwn := wn_le s
  refine ⟨(p, 0, s.size), rfl, trivial, ?_⟩
  rintro x _ ⟨hx, rfl⟩
  dsimp only at hx
  rw [clamp_eq] at hx
  subst hx
  refine ⟨s, rfl, ⟨hU, hsm⟩, ?_⟩
  rintro ⟨a, n, c⟩ w1 ⟨hn, hm⟩
  dsimp only at hn hm ⊢
  subst hn
  have hc := hm.row.cells
  refine ⟨⟨0, rfl, rfl, Nat.zero_le _, Ext.refl _⟩, ?_⟩
  rintro _ i w2 ⟨hi, e2⟩
  have E2 := hm.ext.trans e2
  refine bcase_mk (fun h => ?_) (fun h => ?_)
  · have hlt : i < wn s := by have := of_decide_eq_true h; omega
    have r0 : ∀ {w' : World} {K : Nat → Nat → Prop}, Ext w1 w' → (∀ b o, w'.cell? ⟨b, o + i * 2, none⟩ = some (.int .i64 (wp s i)) → K b o) → ptrE a K := fun e hK => (hc.ext e).fld (s := 2) (j := 0) (wd_atF hlt (by decide) rfl) hK
    have r1 : ∀ {w' : World} {K : Nat → Nat → Prop}, Ext w1 w' → (∀ b o, w'.cell? ⟨b, o + i * 2 + 1, none⟩ = some (.string (wdP s i).2) → K b o) → ptrE a K := fun e hK => (hc.ext e).fld (s := 2) (j := 1) (wd_atF hlt (by decide) rfl) hK
    have on : ∀ {w' : World} {v : Nat}, Ext w1 w' → v = pvU s (clampN s p) (i + 1) → InR .i64 ((i : Int) + 1) ∧ ∃ y : Nat, Value.int .i64 ((i : Int) + 1) = Value.int .i64 (y : Int) ∧ Value.int .i64 (v : Int) = Value.int .i64 (pvU s (clampN s p) y : Int) ∧ (y ≤ wn s ∧ Ext w1 w') ∧ wn s - y < wn s - i := fun e hv =>
      ⟨inr_i64 (by omega) (by omega), i + 1, by simp, by rw [hv], ⟨hlt, e⟩, by omega⟩
    refine ⟨i, rfl, hlt, r0 e2 fun b o hb => ⟨_, hb, bcase_mk (fun h1 => ?_) (fun h1 => ?_)⟩⟩
    · have h1 : wp s i < clampN s p := by have := of_decide_eq_true h1; omega
      have hp := wd_pos hlt
      refine ⟨i, rfl, hlt, r1 e2 fun b o hb => ⟨_, hb, _, rfl, ⟨hU.ext E2, by omega, hp.1⟩, ?_⟩⟩
      rintro x w3 ⟨hx, e3⟩
      replace hx : x = wdB s i := hx.trans (by unfold wdB; rw [← wd_sort hlt]; rfl)
      subst hx
      refine bcase_mk (fun h2 => ?_) (fun h2 => on (e2.trans e3) (by simp only [pvU]; rw [if_neg (by rw [h2]; simp)]))
      exact ⟨i, rfl, hlt, r0 (e2.trans e3) fun b o hb => ⟨_, hb, on (e2.trans e3) (by simp only [pvU]; rw [if_pos ⟨h2, h1⟩])⟩⟩
    · have h1 : ¬ wp s i < clampN s p := by have := of_decide_eq_false h1; omega
      exact on e2 (by simp only [pvU]; rw [if_neg (fun hh => h1 hh.2)])
  · have hie : i = wn s := by have := of_decide_eq_false h; omega
    subst hie
    exact ⟨_, rfl, rfl, E2⟩

end Go.Proofs.YthpjkgoahneldaaDoor
end
