/-
  Texts joined by program: WkSt, Gg, WkO, WkSb, WkSc, VgI.
-/
import Derived.Test.YthpjkgoahneldaaDoorSg12
import Derived.Test.YthpjkgoahneldaaDoorSg10
import Derived.Test.YthpjkgoahneldaaDoorSg06
import Derived.Test.YthpjkgoahneldaaDoorSg11
import Derived.Test.YthpjkgoahneldaaDoorSg07
import Derived.Test.YthpjkgoahneldaaDoorProg
import Derived.KernelRfl
set_option linter.unusedVariables false
set_option linter.unusedSimpArgs false

section
/-
  Chapter 1: the document's text of numbers.
-/
namespace Go.Proofs.YthpjkgoahneldaaDoor
open Go Go.RowKit Vc Ut

set_option maxRecDepth 1000000 in
theorem put_ok : sPut.Ok Tryd.prog 138 := by
  refine put_vc trivial ?_
  rintro ⟨W, ad, c, vs, r⟩ w ⟨hm, hsm⟩
  dsimp only at hm hsm ⊢
  have hle := encC_le r
  refine ⟨bcase_mk (fun h => ⟨(), ?_, rfl⟩) (fun h => ⟨(), ?_, rfl⟩), ?_⟩
  · simp only [Bool.or_eq_true, Bool.and_eq_true, decide_eq_true_eq] at h
    unfold encC; rw [if_neg (by omega)]; rfl
  · simp only [Bool.or_eq_false_iff, Bool.and_eq_false_iff, decide_eq_false_iff_not] at h
    unfold encC; rw [if_pos (by omega)]; congr 1; omega
  rintro _ _ w' hw'; replace hw' := hw'.symm; subst hw'
  have fin : ∀ (m : Nat) (b : Nat) (w1 : World) (news : List Int), encL r = news → news.length = m → m ≤ 4 → New w (.cells (news.map (Value.int .u8)).toArray 5) b w1 →
      ∃ a' c' w2, AppRun Tryd.prog #[64, 64] 64 (.slice ad vs.length c) (.slice (some ⟨b, 0, none⟩) m m) w1 a' (vs.length + m) c' w2 ∧ KO w1 w2 ∧
      ∃ x : Option Addr × Nat × Nat, Value.slice a' (vs.length + m) c' = Value.slice x.1 x.2.1 x.2.2 ∧ x.2.1 = (vs ++ encL r).length ∧ Made W w2 5 1 x.1 x.2.1 ((vs ++ encL r).map (Value.int .u8)) x.2.2 := by
    intro m b w1 news he hl hm4 hnw
    obtain ⟨a', c', w2, hrun, hko, hm2, _⟩ := hm.pushN (P := Tryd.prog) (ty := 64) elem8 (by decide) (m := m) (news := news.map (Value.int .u8)) hnw (by rw [List.length_map, hl, Nat.mul_one]) (one_ints _ _) (by unfold maxLen; omega) (.inr (by omega))
    refine ⟨a', c', w2, hrun, hko, (a', _, c'), rfl, by rw [he, List.length_append, hl], ?_⟩
    rw [he, List.map_append]; exact hm2
  refine bcase_mk (fun h => ?_) (fun h => ?_)
  · have h1 : encC r < 128 := by simp only [decide_eq_true_eq] at h; omega
    refine ⟨inr_u8 (by omega) (by omega), fun b w1 hnw => fin 1 b w1 [(encC r : Int)] ?_ rfl (by omega) hnw⟩
    unfold encL encN; rw [if_pos h1]; rfl
  have h1 : ¬ encC r < 128 := by simp only [decide_eq_false_iff_not] at h; omega
  refine bcase_mk (fun h => ?_) (fun h => ?_)
  · have h2 : encC r < 2048 := by simp only [decide_eq_true_eq] at h; omega
    refine ⟨by omega, by omega, inr_i32 (by omega) (by omega), inr_i32 (by omega) (by omega), inr_u8 (by omega) (by omega), by omega, by omega, inr_i32 (by omega) (by omega), inr_u8 (by omega) (by omega), fun b w1 hnw => fin 2 b w1 [192 + (encC r : Int) / 64, 128 + (encC r : Int) % 64] ?_ rfl (by omega) hnw⟩
    unfold encL encN; rw [if_neg h1, if_pos h2]; simp
  have h2 : ¬ encC r < 2048 := by simp only [decide_eq_false_iff_not] at h; omega
  refine bcase_mk (fun h => ?_) (fun h => ?_)
  · have h3 : encC r < 65536 := by simp only [decide_eq_true_eq] at h; omega
    refine ⟨by omega, by omega, inr_i32 (by omega) (by omega), inr_i32 (by omega) (by omega), inr_u8 (by omega) (by omega), by omega, by omega, inr_i32 (by omega) (by omega), by omega, by omega, inr_i32 (by omega) (by omega), inr_u8 (by omega) (by omega), by omega, by omega, inr_i32 (by omega) (by omega), inr_u8 (by omega) (by omega),
      fun b w1 hnw => fin 3 b w1 [224 + (encC r : Int) / 4096, 128 + (encC r : Int) / 64 % 64, 128 + (encC r : Int) % 64] ?_ rfl (by omega) hnw⟩
    unfold encL encN; rw [if_neg h1, if_neg h2, if_pos h3]; simp
  · have h3 : ¬ encC r < 65536 := by simp only [decide_eq_false_iff_not] at h; omega
    refine ⟨by omega, by omega, inr_i32 (by omega) (by omega), inr_i32 (by omega) (by omega), inr_u8 (by omega) (by omega), by omega, by omega, inr_i32 (by omega) (by omega), by omega, by omega, inr_i32 (by omega) (by omega), inr_u8 (by omega) (by omega), by omega, by omega, inr_i32 (by omega) (by omega), by omega, by omega, inr_i32 (by omega) (by omega), inr_u8 (by omega) (by omega), by omega, by omega, inr_i32 (by omega) (by omega), inr_u8 (by omega) (by omega),
      fun b w1 hnw => fin 4 b w1 [240 + (encC r : Int) / 262144, 128 + (encC r : Int) / 4096 % 64, 128 + (encC r : Int) / 64 % 64, 128 + (encC r : Int) % 64] ?_ rfl (by omega) hnw⟩
    unfold encL encN; rw [if_neg h1, if_neg h2, if_neg h3]; simp

theorem rtext_ok : (sLS runesBytes).Ok Tryd.prog 120 := by
  refine rtext_vc ⟨put_ok, trivial⟩ ?_
  rintro ⟨ad, c0, xs⟩ w ⟨⟨hc, hl⟩, hsm⟩
  dsimp only at hc hl hsm ⊢
  refine ⟨⟨(0, none, 0), rfl, rfl, Nat.zero_le _, Made.nil _ _ _⟩, ?_⟩
  rintro _ ⟨i, a, c⟩ w1 ⟨hi, hm⟩
  dsimp only at hi hm ⊢
  have hfl := flat_encL_len (xs.take i)
  have htl : (xs.take i).length ≤ xs.length := by rw [List.length_take]; omega
  refine bcase_mk (fun h => ?_) (fun h => ?_)
  · have hi1 : i < xs.length := by simpa using h
    refine ⟨i, rfl, hi1, (hc.ext hm.ext).int hi1 fun b o hb => ⟨_, hb, ⟨w, a, c, (xs.take i).flatMap encL, xs.getD i 0⟩, rfl, ⟨hm, by dsimp only; omega⟩, ?_⟩⟩
    rintro ⟨pa, pn, pc⟩ w2 ⟨hpn, hp⟩
    dsimp only at hpn hp ⊢
    have e : (xs.take (i + 1)).flatMap encL = (xs.take i).flatMap encL ++ encL (xs.getD i 0) := by rw [take_succ0 hi1, List.flatMap_append]; simp
    refine ⟨inr_i64 (by omega) (by omega), (i + 1, pa, pc), by simp, by dsimp only; rw [e, hpn], ⟨hi1, ?_⟩, by dsimp only; omega⟩
    dsimp only; rw [e, ← hpn]; exact hp
  · have hi1 : i = xs.length := by simp only [decide_eq_false_iff_not] at h; omega
    subst hi1
    rw [List.take_length] at hm ⊢
    refine ⟨runesBytes xs, bytesIn_of (runesBytes_size xs).symm ?_, _, rfl, rfl, hm.ext⟩
    rw [bytes_list]; exact hm.row.cells

end Go.Proofs.YthpjkgoahneldaaDoor
end

section
/-
  A variable that holds a list of one's own, within rounds.
-/
namespace Go.Proofs.YthpjkgoahneldaaDoor.Vc
open Go Go.RowKit

/-- A variable of the function's own, filled at once. -/
theorem new_box {w w1 : World} {u : Value} {t : TypeId} {b : Nat} (h : New w (.cells #[u] t) b w1) :
    (∃ old, w1.cell? ⟨b, 0, none⟩ = some old) ∧ w1.frozen? ⟨b, 0, none⟩ = false ∧ ∀ {v : Value} {w2 : World}, Stored w1 ⟨b, 0, none⟩ v w2 → Ext w w2 ∧ w2.heap[b]? = some (.cells #[v] t) ∧ b = w.heap.size ∧ w2.heap.size = b + 1 := by
  refine ⟨box_old h.heap, box_free h.heap, fun {v w2} hs => ?_⟩
  have := h.size
  refine ⟨h.ext.stored hs (by show _ ≤ b; omega), hs.box h.heap, this.1, by rw [hs.size]; omega⟩

theorem _root_.Go.Proofs.YthpjkgoahneldaaDoor.Grow.keep {W W' : World} {box : Nat} {t e : TypeId} {a : Option Addr} {c : Nat} {vs : List Value} (h : Grow W box t e a c vs) (hk : ∀ q, q = box ∨ blk a = some q → W'.heap[q]? = W.heap[q]?) : Grow W' box t e a c vs :=
  ⟨(hk box (.inl rfl)).trans h.hb, h.row.keep fun g hg => hk g (.inr hg)⟩
/-- The blocks of such a variable hold no records. -/
theorem _root_.Go.Proofs.YthpjkgoahneldaaDoor.Grow.kept {W W' : World} {box q : Nat} {t e : TypeId} {a : Option Addr} {c n : Nat} {vs : List Value} (h : Grow W box t e a c vs) (hq : q = box ∨ blk a = some q) (hk : ∀ o, W.heap[q]? = some o → (isRec o = false ∨ q < n) → W'.heap[q]? = some o) : W'.heap[q]? = W.heap[q]? := by
  rcases hq with rfl | hq
  · rw [h.hb]; exact hk _ h.hb (.inl rfl)
  · rcases h.row.2 with ⟨rfl, _⟩ | ⟨g, cur, rfl, h1, _⟩
    · cases hq
    · cases hq
      rw [h1]; exact hk _ h1 (.inl rfl)
theorem _root_.Go.Proofs.YthpjkgoahneldaaDoor.Grow.fr {S : Nat → Prop} {W W' : World} {box : Nat} {t e : TypeId} {a : Option Addr} {c : Nat} {vs : List Value} (h : Grow W box t e a c vs) (hf : Fr S W W') (hS : ∀ q, q = box ∨ blk a = some q → ¬ S q) : Grow W' box t e a c vs :=
  h.keep fun q hq => hf.block q (hq.elim (fun e => by rw [e]; exact heap_lt h.hb) (fun e => h.row.lt e)) (hS q hq)
theorem _root_.Go.Proofs.YthpjkgoahneldaaDoor.Grow.ext {W W' : World} {box : Nat} {t e : TypeId} {a : Option Addr} {c : Nat} {vs : List Value} (h : Grow W box t e a c vs) (hx : Ext W W') : Grow W' box t e a c vs :=
  h.fr (Fr.of_ext (S := fun _ => False) hx) (fun _ _ h => h)
/-- What is of another type lies elsewhere. -/
theorem Row.off {W : World} {e t : TypeId} {n c q : Nat} {a : Option Addr} {vs : List Value} {cs : Array Value} (h : Row W e 1 a n vs c) (hq : W.heap[q]? = some (.cells cs t)) (hne : t ≠ e) : blk a ≠ some q := by
  intro he
  rcases h.2 with ⟨rfl, _⟩ | ⟨g, cur, rfl, h1, _⟩
  · cases he
  · cases he
    rw [hq] at h1
    simp only [Option.some.injEq, Obj.cells.injEq] at h1
    exact hne h1.2.1
theorem Row.off2 {W : World} {e t : TypeId} {n c n' c' : Nat} {a a' : Option Addr} {vs vs' : List Value} (h : Row W e 1 a n vs c) (h' : Row W t 1 a' n' vs' c') (hne : t ≠ e) {q : Nat} (h1 : blk a = some q) : blk a' ≠ some q := by
  intro he
  rcases h'.2 with ⟨rfl, _⟩ | ⟨g, cur, rfl, h2, _⟩
  · cases he
  · cases he
    exact h.off h2 hne h1

/-- v = append(v, x) -/
theorem _root_.Go.Proofs.YthpjkgoahneldaaDoor.Grow.push {P : Program} {W w1 : World} {box b : Nat} {t tt ty e : TypeId} {bytes c : Nat} {a : Option Addr} {vs : List Value} {v : Value} (hE : ElemOk P tt e 1 bytes) (h : Grow W box t e a c vs) (hne : t ≠ e) (hn : New W (.cells #[v] e) b w1)
    (hv : v.oneCell' = true) (h63 : vs.length + 1 ≤ maxLen) (hb : (vs.length + 1) * bytes ≤ 140737488355328) :
    ∃ a' c' w2, AppRun P #[tt, tt] ty (.slice a vs.length c) (.slice (some ⟨b, 0, none⟩) 1 1) w1 a' (vs.length + 1) c' w2 ∧ KO w1 w2 ∧ (∃ old, w2.cell? ⟨box, 0, none⟩ = some old) ∧ w2.frozen? ⟨box, 0, none⟩ = false ∧
      ∀ {w3 : World}, Stored w2 ⟨box, 0, none⟩ (.slice a' (vs.length + 1) c') w3 → Grow w3 box t e a' c' (vs ++ [v]) ∧ Fr (fun q => q = box ∨ blk a = some q) W w3 ∧ (∀ q, blk a' = some q → blk a = some q ∨ W.heap.size ≤ q) := by
  obtain ⟨a', c', w2, hr, hko, hrow, hg, hor, _⟩ := h.row.pushN (P := P) (ty := ty) hE (by decide) (m := 1) (news := [v]) hn rfl (by simp [hv]) h63 (.inr hb)
  have hb1 := hn.ext.heap h.hb
  have hoff := h.row.off h.hb hne
  have hb2 : w2.heap[box]? = some (.cells #[.slice a vs.length c] t) := (hg.block box (heap_lt hb1) (fun e => hoff e.symm)).trans hb1
  refine ⟨a', c', w2, hr, hko, box_old hb2, box_free hb2, fun {w3} hs => ?_⟩
  have hoff' : ∀ q, blk a' = some q → blk a = some q ∨ W.heap.size ≤ q := by
    intro q hq
    rcases hor with rfl | ⟨rfl, _⟩
    · exact .inl hq
    · simp [blk] at hq; subst hq; exact .inr hn.ext.size
  have hne' : blk a' ≠ some box := fun he => by
    rcases hoff' box he with h1 | h1
    · exact hoff h1
    · have := heap_lt h.hb; omega
  refine ⟨⟨?_, ?_⟩, ?_, hoff'⟩
  · have := hs.box hb2; simpa using this
  · have hl : (vs ++ [v]).length = vs.length + 1 := by simp
    rw [hl]
    exact hrow.keep fun g hg' => hs.other (by show g ≠ box; rintro rfl; exact hne' hg')
  · refine ((Fr.of_ext (S := fun q => q = box ∨ blk a = some q) hn.ext).trans (Fr.grown hg) (fun x _ hx => .inr hx)).trans (Fr.stored hs) (fun x _ hx => .inl hx)

theorem take_snoc {α β : Type} {f : α → β} {xs : List α} {k : Nat} {p : α} (h : xs[k]? = some p) : (xs.take (k + 1)).map f = (xs.take k).map f ++ [f p] := by
  rw [List.take_add_one, h]; simp

end Go.Proofs.YthpjkgoahneldaaDoor.Vc
end

section
/-
  Chapter 3: the document's lists.
-/
namespace Go.Proofs.YthpjkgoahneldaaDoor
open Go Go.RowKit Vc Ut Tb Cl Orb

theorem elemSign : ElemOk Tryd.prog 90 103 3 24 := elemOk_mk (.agg #[.int .i32 0, .int .i64 0, .bool false]) (by kernel_rfl) (by kernel_rfl) rfl
theorem elemPiece : ElemOk Tryd.prog 42 44 2 24 := elemOk_mk (.agg #[.int .i64 0, .string ⟨#[]⟩]) (by kernel_rfl) (by kernel_rfl) rfl

theorem sg_at {s : ByteArray} {k i : Nat} (h : k + i < cnt s) : ((List.range (cnt s)).drop k)[i]? = some (k + i) := by
  rw [List.getElem?_drop, List.getElem?_range h]
theorem sgn_at {s : ByteArray} {k i j : Nat} (h : k + i < cnt s) (hj : j < 3) : (((List.range (cnt s)).drop k).flatMap (sgnV s))[i * 3 + j]? = (sgnV s (k + i))[j]? := flat_at (f := sgnV s) (s := 3) (fun _ => rfl) (sg_at h) hj
theorem sgn_one (s : ByteArray) (n : Nat) : ∀ u ∈ sgnV s n, u.oneCell' = true := by
  intro u hu
  simp only [sgnV, List.mem_cons, List.not_mem_nil, or_false] at hu
  rcases hu with rfl | rfl | rfl <;> rfl
theorem pcV_one (s : ByteArray) (n : Nat) : ∀ u ∈ pcV s n, u.oneCell' = true := by
  intro u hu
  simp only [pcV, List.mem_cons, List.not_mem_nil, or_false] at hu
  rcases hu with rfl | rfl <;> rfl
theorem pc_at {s : ByteArray} {i j : Nat} (h : i < ncl s) (hj : j < 2) : ((List.range (ncl s)).flatMap (pcV s))[i * 2 + j]? = (pcV s i)[j]? := flat_at (f := pcV s) (s := 2) (fun _ => rfl) (List.getElem?_range h) hj
theorem flat_drop {α : Type} {f : α → List Value} {s : Nat} (hf : ∀ x, (f x).length = s) : ∀ (l : List α) (n : Nat), (l.flatMap f).drop (n * s) = (l.drop n).flatMap f
  | l, 0 => by simp
  | [], n + 1 => by simp
  | x :: l, n + 1 => by
    rw [List.flatMap_cons, List.drop_succ_cons, ← flat_drop hf l n, show (n + 1) * s = (f x).length + n * s from by rw [hf x, Nat.succ_mul]; omega, ← List.drop_drop, List.drop_left]

set_option maxRecDepth 10000 in
theorem signs_ok : sSigns.Ok Tryd.prog 80 := by
  refine signs_vc ⟨rnext_ok, trivial⟩ ?_
  rintro (s : ByteArray) w ⟨hU, hsm⟩
  have hcs := cnt_le s
  refine ⟨⟨(0, none, 0), rfl, rfl, Nat.zero_le _, Made.nil _ _ _⟩, ?_⟩
  rintro _ ⟨n, a, c⟩ w1 ⟨hn, hm⟩
  dsimp only at hn hm ⊢
  refine bcase_mk (fun h => ?_) (fun h => ?_)
  · have hp : pos s n < s.size := by simpa using h
    have hlt := cnt_lt.2 hp
    obtain ⟨e1, e2⟩ := nx_drop hp
    refine ⟨pos s n, rfl, by omega, Nat.le_refl _, _, rfl, ⟨hU.ext hm.ext, ext_size hsm⟩, ?_⟩
    rintro ⟨r, k⟩ w2 ⟨hr, hk, hw2⟩
    dsimp only at hr hk ⊢
    rw [e1] at hr; rw [e2] at hk
    subst hr hk
    have key : ∀ (b : Nat) (w3 : World) (v : Bool), v = isBad s n → New w2 (.cells #[.int .i32 (dcR s (pos s n)), .int .i64 (pos s n), .bool v] 103) b w3 →
        ∃ a' c' w4, AppRun Tryd.prog #[90, 90] 90 (.slice a n c) (.slice (some ⟨b, 0, none⟩) 1 1) w3 a' (n + 1) c' w4 ∧ KO w3 w4 ∧ InR IntKind.i64 ((pos s n : Int) + (dcN s (pos s n) : Int)) ∧
        ∃ y : Nat × Option Addr × Nat, Value.int IntKind.i64 ((pos s n : Int) + (dcN s (pos s n) : Int)) = Value.int IntKind.i64 (pos s y.1 : Int) ∧ Value.slice a' (n + 1) c' = Value.slice y.2.1 y.1 y.2.2 ∧
        (y.1 ≤ cnt s ∧ Made w w4 103 3 y.2.1 y.1 ((List.range y.1).flatMap (sgnV s)) y.2.2) ∧ cnt s - y.1 < cnt s - n := by
      intro b w3 v hv hnw
      obtain ⟨a', c', w4, hrun, hko, hm4, _⟩ := (hm.later hw2).pushN (P := Tryd.prog) (ty := 90) elemSign (by decide) (m := 1) (news := sgnV s n) (by unfold sgnV sg; rw [← hv]; exact hnw) rfl (sgn_one s n) (by unfold maxLen; omega) (.inr (by omega))
      have hle := dcN_le hp
      refine ⟨a', c', w4, hrun, hko, inr_i64 (by omega) (by omega), (n + 1, a', c'), ?_, rfl, ⟨by dsimp only; omega, ?_⟩, by dsimp only; omega⟩
      · dsimp only; rw [pos_succ hp]; simp
      · dsimp only; rw [List.range_succ, List.flatMap_append]; simpa using hm4
    refine bcase_mk (fun h => ?_) (fun h => ?_)
    · intro b w3 hnw
      refine key b w3 _ ?_ hnw
      have h5 : dcR s (pos s n) = 65533 := by simpa using h
      unfold isBad
      rw [Bool.eq_iff_iff, beq_iff_eq, decide_eq_true_eq]
      omega
    · intro b w3 hnw
      refine key b w3 _ ?_ hnw
      have h5 : dcR s (pos s n) ≠ 65533 := by simpa using h
      unfold isBad
      simp [h5]
  · have hn2 := cnt_end (s := s) (by simpa using h) hn
    subst hn2
    exact ⟨(a, cnt s, c), rfl, rfl, hm⟩

set_option maxRecDepth 10000 in
theorem first_ok : sFirst.Ok Tryd.prog 85 := by
  refine first_vc ⟨ralone_ok, takes_ok, trivial⟩ ?_
  rintro ⟨s, k, a, c⟩ w ⟨hk, hsm, hc⟩
  dsimp only at hk hsm hc ⊢
  have hcs := cnt_le s
  have rd : ∀ {w' : World} {i j : Nat} {v : Value} {K : Nat → Nat → Prop}, Ext w w' → k + i < cnt s → j < 3 → (sgnV s (k + i))[j]? = some v → (∀ b o, w'.cell? ⟨b, o + i * 3 + j, none⟩ = some v → K b o) → ptrE a K := fun e hi hj hv hK =>
    (hc.ext e).fld (by rw [sgn_at hi hj]; exact hv) hK
  have E0 := Ext.refl w
  refine ⟨0, rfl, by omega, rd E0 (i := 0) (j := 2) hk (by decide) rfl fun b o hb => ⟨_, hb, ?_⟩⟩
  change bcase (isBad s k) _ _
  refine bcase_mk (fun hbad => ⟨1, rfl, by unfold firstN; rw [if_pos hbad], E0⟩) (fun hbad => ?_)
  have hcr : ∀ n1 : Int, n1 = sg s (k + 1) → 1 < cnt s - k → (sg s k == 13) = true → (n1 == 10) = crB s k := by
    rintro n1 rfl h1 h2
    unfold crB
    rw [h2, decide_eq_true (show k + 1 < cnt s by omega)]; rfl
  refine ⟨?_, ?_⟩
  · refine ⟨0, rfl, by omega, rd E0 (i := 0) (j := 0) hk (by decide) rfl fun b o hb => ⟨_, hb, ?_⟩⟩
    change bcase (sg s k == 13) _ _
    refine bcase_mk (fun h1 => ?_) (fun h1 => ⟨(), ?_, E0⟩)
    · refine bcase_mk (fun h2 => ?_) (fun h2 => ⟨(), ?_, E0⟩)
      · have h2 : 1 < cnt s - k := by have := of_decide_eq_true h2; omega
        refine ⟨1, rfl, h2, rd E0 (i := 1) (j := 0) (by omega) (by decide) rfl fun b o hb => ⟨_, hb, (), ?_, E0⟩⟩
        rw [hcr _ rfl h2 h1]
      · have h2 : ¬ 1 < cnt s - k := by have := of_decide_eq_false h2; omega
        congr 1
        unfold crB
        rw [decide_eq_false (show ¬ k + 1 < cnt s by omega)]; simp
    · congr 1
      have h1 : (sg s k == 13) = false := h1
      unfold crB; rw [h1]; rfl
  rintro _ _ w1 e1
  refine bcase_mk (fun hC => ⟨2, rfl, by unfold firstN; rw [if_neg (by rw [hbad]; decide), if_pos hC], e1⟩) (fun hC => ?_)
  refine ⟨0, rfl, by omega, rd e1 (i := 0) (j := 0) hk (by decide) rfl fun b o hb => ⟨_, hb, sg s k, rfl, trivial, ?_⟩⟩
  rintro _ w2 ⟨rfl, e2⟩
  have E2 := e1.trans e2
  refine bcase_mk (fun hA => ⟨1, rfl, by unfold firstN; rw [if_neg (by rw [hbad]; decide), if_neg (by rw [hC]; decide), if_pos hA], E2⟩) (fun hA => ?_)
  have hF : firstN s k = goN s k 32 1 := by unfold firstN; rw [if_neg (by rw [hbad]; decide), if_neg (by rw [hC]; decide), if_neg (by rw [hA]; decide)]
  refine ⟨⟨1, rfl, Nat.le_refl _, by omega, by decide, by rw [hF], Ext.refl _⟩, ?_⟩
  rintro _ n w3 ⟨n1, n2, n3, n4, e3⟩ w4 hd
  have E3 := E2.trans e3
  have E4 := E3.trans hd.ext
  have stop : goB s k n = false → n = firstN s k := fun h => by rw [← n4, goN_stop h]
  refine bcase_mk (fun h1 => ?_) (fun h1 => ⟨n, rfl, stop ?_, E4⟩)
  · have h1 : k + n < cnt s := by have := of_decide_eq_true h1; omega
    refine bcase_mk (fun h2 => ?_) (fun h2 => ⟨n, rfl, stop ?_, E4⟩)
    · have h2 : n < 32 := by have := of_decide_eq_true h2; omega
      have hg : ∀ {b : Bool}, isBad s (k + n) = b → goB s k n = (!b && takesB (sg s k) (sg s (k + n - 1)) (sg s (k + n)) n) := fun hb => by
        unfold goB; rw [decide_eq_true h1, decide_eq_true h2, hb]; simp
      refine ⟨n, rfl, by omega, rd E3 (j := 2) h1 (by decide) rfl fun b o hb => ⟨_, hb, ?_⟩⟩
      refine bcase_mk (fun h3 => ?_) (fun h3 => ⟨n, rfl, stop ?_, E4⟩)
      · have h3 : isBad s (k + n) = false := by simpa using h3
        refine ⟨0, rfl, by omega, rd E3 (i := 0) (j := 0) hk (by decide) rfl fun b o hb => ⟨_, hb, inr_i64 (by omega) (by omega), n - 1, by omega, by omega, rd E3 (i := n - 1) (j := 0) (by omega) (by decide) rfl fun b o hb => ⟨_, hb, n, rfl, by omega, rd E3 (i := n) (j := 0) h1 (by decide) rfl fun b o hb => ⟨_, hb, ?_⟩⟩⟩⟩
        refine ⟨⟨sg s k, sg s (k + (n - 1)), sg s (k + n), n⟩, rfl, trivial, ?_⟩
        rintro _ w5 ⟨rfl, e5⟩
        dsimp only
        rw [show k + (n - 1) = k + n - 1 from by omega]
        have hg := hg h3
        refine bcase_mk (fun h4 => ?_) (fun h4 => ⟨n, rfl, stop (by rw [hg, h4]; rfl), E4.trans e5⟩)
        have hG : goB s k n = true := by rw [hg, h4]; rfl
        refine ⟨inr_i64 (by omega) (by omega), n + 1, by simp, ⟨by omega, by omega, by omega, ?_, (e3.trans hd.ext).trans e5⟩, by omega⟩
        rw [← (goN_step hG).2, n4]
      · have h3 : isBad s (k + n) = true := by simpa using h3
        rw [hg h3]; rfl
    · have h2 : ¬ n < 32 := by have := of_decide_eq_false h2; omega
      unfold goB; rw [decide_eq_false h2]; simp
  · have h1 : ¬ k + n < cnt s := by have := of_decide_eq_false h1; omega
    unfold goB; rw [decide_eq_false h1]; rfl

set_option maxRecDepth 10000 in
theorem rallP_ok : sRAllP.Ok Tryd.prog 56 := by
  refine rallP_vc ⟨signs_ok, first_ok, trivial⟩ ?_
  rintro (s : ByteArray) w ⟨hU, hsm⟩
  have hcs := cnt_le s
  have hncl := ncl_le s
  refine ⟨s, rfl, ⟨hU, hsm⟩, ?_⟩
  rintro ⟨a, n, c⟩ w1 ⟨hn, hm0⟩
  dsimp only at hn hm0 ⊢
  subst hn
  have hle := hm0.row.le
  have hb0 : bk s 0 = 0 := rfl
  refine ⟨⟨⟨0, a, c, none, 0⟩, by rw [hb0, Nat.sub_zero], rfl, Nat.zero_le _, by dsimp only; rw [hb0]; omega, by dsimp only; rw [hb0, List.drop_zero]; exact hm0.row.cells, Made.nil _ _ _⟩, ?_⟩
  rintro _ ⟨i, la, lc, oa, oc⟩ w2 ⟨hi, hlc, hcl, hm⟩
  dsimp only at hi hlc hcl hm ⊢
  refine bcase_mk (fun h => ?_) (fun h => ?_)
  · have hbk : bk s i < cnt s := by have := of_decide_eq_true h; omega
    have hlt := bk_lt.2 hbk
    have hsu := bk_succ hlt
    have hle1 := bk_le s (i + 1)
    have hc2 := hcl.ext hm.ext
    have hfit := first_fit s _ hbk
    refine ⟨⟨s, bk s i, la, lc⟩, rfl, ⟨hbk, hsm, hc2⟩, ?_⟩
    rintro _ w3 ⟨rfl, e3⟩
    dsimp only
    have hc3 := hc2.ext e3
    have rd : ∀ {j : Nat} {K : Nat → Nat → Prop}, bk s i + j < cnt s → (∀ b o, w3.cell? ⟨b, o + j * 3 + 1, none⟩ = some (.int .i64 (pos s (bk s i + j))) → K b o) → ptrE la K := fun hj hK =>
      hc3.fld (s := 3) (j := 1) (by rw [sgn_at hj (by decide)]; rfl) hK
    have e01 : ∀ {w4 : World}, Ext w3 w4 → Ext w1 w4 := fun e => (hm.ext.trans e3).trans e
    -- the piece is put behind
    have fin : ∀ {w4 w5 : World} {b q : Nat}, Drew w3 w4 → q = bp s (i + 1) → New w4 (.cells #[.int .i64 (pos s (bk s i) : Int), .string (s.extract (pos s (bk s i)) q)] 44) b w5 → Below w4.heap.size w4 w5 ∧ ∃ a' c' w6, AppRun Tryd.prog #[42, 42] 42 (.slice oa i oc) (.slice (some ⟨b, 0, none⟩) 1 1) w5 a' (i + 1) c' w6 ∧ KO w5 w6 ∧
        ∃ ln : Nat, ((firstN s (bk s i) : Nat) : Int) = (ln : Int) ∧ ln ≤ cnt s - bk s i ∧ ∀ ad' : Option Addr, SlAt la ad' lc ln 3 → ∃ y : GAl, Value.slice ad' (cnt s - bk s i - ln) (lc - ln) = .slice y.la (cnt s - bk s y.i) y.lc ∧ Value.slice a' (i + 1) c' = .slice y.oa y.i y.oc ∧
          (y.i ≤ ncl s ∧ cnt s - bk s y.i ≤ y.lc ∧ CellsAt w1 y.la (((List.range (cnt s)).drop (bk s y.i)).flatMap (sgnV s)) ∧ Made w1 w6 44 2 y.oa y.i ((List.range y.i).flatMap (pcV s)) y.oc) ∧ ncl s - y.i < ncl s - i := by
      rintro w4 w5 b q hd rfl hnw
      obtain ⟨a', c', w6, hrun, hko, hm6, _⟩ := (hm.later (e3.trans hd.ext)).pushN (P := Tryd.prog) (ty := 42) elemPiece (by decide) (m := 1) (news := pcV s i) hnw rfl (pcV_one s i) (by unfold maxLen; omega) (.inr (by omega))
      refine ⟨hnw.ext, a', c', w6, hrun, hko, firstN s (bk s i), rfl, by omega, fun ad' hsl => ?_⟩
      refine ⟨⟨i + 1, ad', lc - firstN s (bk s i), a', c'⟩, ?_, rfl, ⟨hlt, by dsimp only; omega, ?_, ?_⟩, by dsimp only; omega⟩
      · dsimp only; rw [hsu]; congr 1; omega
      · dsimp only
        have := hcl.drop hsl (by omega) (by rw [flat_len' (s := 3) (fun _ => rfl), List.length_drop, List.length_range]; exact Nat.mul_le_mul_right _ hlc)
        rw [flat_drop (f := sgnV s) (s := 3) (fun _ => rfl), List.drop_drop, ← hsu] at this
        exact this
      · dsimp only; rw [List.range_succ, List.flatMap_append]; simpa using hm6
    refine bcase_mk (fun h1 => ?_) (fun h1 => ?_)
    · have h1 : bk s i + firstN s (bk s i) < cnt s := by have := of_decide_eq_true h1; omega
      refine ⟨_, rfl, by omega, rd h1 fun b o hb => ⟨_, hb, fun w4 hd => ⟨0, rfl, by omega, rd (j := 0) (by omega) fun b1 o1 hb1 => ⟨_, hb1, 0, rfl, by omega, rd (j := 0) (by omega) fun b2 o2 hb2 => ⟨_, hb2, pos s (bk s i), rfl, pos s (bk s i + firstN s (bk s i)), rfl, ?_, pos_le s _, fun b3 w5 hnw => ?_⟩⟩⟩⟩⟩
      · exact pos_mono s (by omega)
      · exact fin hd (by unfold bp; rw [hsu]) hnw
    · have h1 : bk s i + firstN s (bk s i) = cnt s := by have := of_decide_eq_false h1; omega
      intro w4 hd
      refine ⟨0, rfl, by omega, rd (j := 0) (by omega) fun b1 o1 hb1 => ⟨_, hb1, 0, rfl, by omega, rd (j := 0) (by omega) fun b2 o2 hb2 => ⟨_, hb2, pos s (bk s i), rfl, s.size, rfl, pos_le s _, Nat.le_refl _, fun b3 w5 hnw => ?_⟩⟩⟩
      exact fin hd (by unfold bp; rw [hsu, h1, pos_cnt]) hnw
  · have hbk : ¬ bk s i < cnt s := by have := of_decide_eq_false h; omega
    have hie : i = ncl s := by
      by_cases hc : i < ncl s
      · exact absurd (bk_lt.1 hc) hbk
      · omega
    subst hie
    exact ⟨(oa, ncl s, oc), rfl, rfl, hm.earlier hm0.ext⟩

set_option maxRecDepth 10000 in
theorem rnextC_ok : (sSN nextL).Ok Tryd.prog 78 := by
  refine rnextC_vc ⟨signs_ok, first_ok, trivial⟩ ?_
  rintro (s : ByteArray) w ⟨hU, hsm⟩
  refine ⟨s, rfl, ⟨hU, hsm⟩, ?_⟩
  rintro ⟨a, n, c⟩ w1 ⟨hn, hm⟩
  dsimp only at hn hm ⊢
  subst hn
  refine bcase_mk (fun h => ⟨0, rfl, ?_, hm.ext⟩) (fun h => ?_)
  · have h : cnt s = 0 := by simp only [beq_iff_eq] at h; omega
    rw [next_zero (cnt_zero.1 h)]
  have h0 : 0 < cnt s := by simp only [beq_eq_false_iff_ne, ne_eq] at h; omega
  have hz : 0 < s.size := Nat.pos_of_ne_zero (fun e => by have := cnt_zero.2 e; omega)
  refine ⟨⟨s, 0, a, c⟩, by dsimp only; rw [Nat.sub_zero], ⟨h0, hsm, by dsimp only; rw [List.drop_zero]; exact hm.row.cells⟩, ?_⟩
  rintro _ w2 ⟨rfl, e2⟩
  dsimp only
  have hfit := first_fit s 0 h0
  refine bcase_mk (fun h1 => ⟨s.size, rfl, ?_, hm.ext.trans e2⟩) (fun h1 => ?_)
  · have h1 : firstN s 0 = cnt s := by simp only [beq_iff_eq] at h1; omega
    rw [next_first hz, h1, pos_cnt]
  · have h1 : firstN s 0 < cnt s := by simp only [beq_eq_false_iff_ne, ne_eq] at h1; omega
    refine ⟨firstN s 0, rfl, h1, (hm.row.cells.ext e2).fld (s := 3) (j := 1) (v := .int .i64 (pos s (firstN s 0))) ?_ fun b o hb => ⟨_, hb, _, rfl, (next_first hz).symm, hm.ext.trans e2⟩⟩
    rw [flat_at (f := sgnV s) (s := 3) (fun _ => rfl) (List.getElem?_range h1) (by decide)]; rfl

theorem ext_sz {s : ByteArray} {a b : Nat} (h : b ≤ s.size) (h2 : a ≤ b) : ((s.extract a b).size : Int) = (b : Int) - a := by rw [size_ext h]; omega

theorem bord_len (s : ByteArray) : (bordI s).length = ncl s + 1 := by simp [bordI]
theorem bord_at {s : ByteArray} {i : Nat} (h : i ≤ ncl s) : (bordI s)[i]? = some (bp s i : Int) := by
  unfold bordI
  rw [List.getElem?_map, List.getElem?_range (by omega)]; rfl

theorem isB_iff {s : ByteArray} {p : Int} : isB s p = true ↔ ∃ i, i ≤ ncl s ∧ (bp s i : Int) = p := by
  unfold isB
  rw [List.any_eq_true]
  constructor
  · rintro ⟨i, hi, h⟩; exact ⟨i, by have := List.mem_range.1 hi; omega, of_decide_eq_true h⟩
  · rintro ⟨i, hi, h⟩; exact ⟨i, List.mem_range.2 (by omega), decide_eq_true h⟩

set_option maxRecDepth 10000 in
theorem into_ok : sInto.Ok Tryd.prog 70 := by
  refine into_vc trivial ?_
  rintro ⟨n, lo, hi⟩ w _
  dsimp only
  refine bcase_mk (fun h => ⟨_, rfl, by rw [if_pos (of_decide_eq_true h)], rfl⟩) (fun h => ?_)
  have h := of_decide_eq_false h
  refine bcase_mk (fun h1 => ⟨_, rfl, by rw [if_neg h, if_pos (of_decide_eq_true h1)], rfl⟩) (fun h1 => ⟨_, rfl, by rw [if_neg h, if_neg (of_decide_eq_false h1)], rfl⟩)

theorem ix_of {s : ByteArray} {p i : Nat} (hi : i ≤ ncl s) (h1 : ∀ j, j < i → bp s (j + 1) ≤ p) (h2 : i = ncl s ∨ p < bp s (i + 1)) : ixP s p = i := by
  unfold ixP
  rcases Nat.lt_or_eq_of_le hi with hlt | he
  · have : (List.range (ncl s)).find? (fun i => decide (p < bp s (i + 1))) = some i := by
      rw [List.find?_range_eq_some]
      refine ⟨decide_eq_true (h2.resolve_left (by omega)), List.mem_range.2 hlt, fun j hj => ?_⟩
      have := h1 j hj
      simp; omega
    rw [this]; rfl
  · have : (List.range (ncl s)).find? (fun i => decide (p < bp s (i + 1))) = none := by
      rw [List.find?_range_eq_none]
      intro j hj
      have := h1 j (by omega)
      simp; omega
    rw [this, he]; rfl
theorem bp_out {s : ByteArray} {i : Nat} (h : ncl s ≤ i) : bp s i = s.size := by
  unfold bp bk; rw [orb_out (first_fit s) h, pos_cnt]
theorem clamp_eq (s : ByteArray) (p : Int) : (if p < 0 then (0 : Int) else if p > (s.size : Int) then (s.size : Int) else p) = (clampN s p : Int) := by
  unfold clampN
  split
  · rfl
  · split
    · rfl
    · omega

end Go.Proofs.YthpjkgoahneldaaDoor
end

section
/-
  Chapter 6: what is shown of a cluster: the document's walk; of a text's first one, both.
-/
namespace Go.Proofs.YthpjkgoahneldaaDoor
open Go Go.RowKit Vc Ut Tb Cl

theorem two_hex {w w1 : World} {b x y : Nat} {t : TypeId} (hx : x < 16) (hy : y < 16)
    (hn : New w (.cells #[.int .u8 ↑([(48 : UInt8), 49, 50, 51, 52, 53, 54, 55, 56, 57, 97, 98, 99, 100, 101, 102].getD x 0).toNat, .int .u8 ↑([(48 : UInt8), 49, 50, 51, 52, 53, 54, 55, 56, 57, 97, 98, 99, 100, 101, 102].getD y 0).toNat] t) b w1) :
    BytesIn w1 (some ⟨b, 0, none⟩) 2 (strL [hexB x, hexB y]) := by
  rw [digs16 x hx, digs16 y hy] at hn
  refine bytesIn_of rfl (.inr ⟨b, 0, rfl, fun j v hv => ?_⟩)
  rw [cell_of_heap hn.heap, Nat.zero_add]
  rw [show (#[.int .u8 ((hexB x).toNat : Int), .int .u8 ((hexB y).toNat : Int)] : Array Value) = [Value.int .u8 ((hexB x).toNat : Int), .int .u8 ((hexB y).toNat : Int)].toArray from rfl, List.getElem?_toArray]
  exact hv
theorem bad_is (b : Nat) : (ByteArray.mk #[60] ++ strL [hexB (b / 16), hexB (b % 16)]) ++ ByteArray.mk #[62] = badS b := by
  show (strL [60] ++ strL _) ++ strL [62] = _
  rw [strL_app, strL_app]; rfl
theorem bad_sz (x y : UInt8) : (ByteArray.mk #[60]).size + (strL [x, y]).size ≤ 9223372036854775807 ∧ (ByteArray.mk #[60] ++ strL [x, y]).size + (ByteArray.mk #[62]).size ≤ 9223372036854775807 := by
  refine ⟨by rw [strL_size]; show (1 + 2 : Nat) ≤ _; decide, ?_⟩
  rw [ByteArray.size_append, strL_size]; show (1 + 2 + 1 : Nat) ≤ _; decide
theorem mark_is : runesBytes [9676] = ⟨#[226, 151, 140]⟩ := by decide +kernel

set_option maxRecDepth 100000 in
theorem oner_ok : sOneR.Ok Tryd.prog 79 := by
  refine oneR_vc ⟨tab_ok, blanks_ok, rkind_ok, rjoiner_ok, numX_ok, rtext_ok, rregional_ok, rwide_ok, trivial⟩ ?_
  rintro ⟨k, col, l, a, c⟩ w ⟨hsz, h1, hcap, hcells⟩ b w1 hn
  dsimp only at hsz h1 hcap hcells ⊢
  obtain ⟨h0, hf, _⟩ := one_first h1
  obtain ⟨c0, c1, c2, c3, c4⟩ := look_at (l := l) hn.heap
  have hE : Ext w w1 := hn.ext
  have hsg0 : 0 ≤ sg k 0 := dcR_nonneg k _
  have hsg1 : sg k 0 ≤ 1114111 := dcR_le k _
  have hs0 := one_bt h1
  have rd : ∀ {w' : World} {i j : Nat} {v : Value} {K : Nat → Nat → Prop}, Ext w w' → i < cnt k → j < 3 → (sgnV k i)[j]? = some v → (∀ b o, w'.cell? ⟨b, o + i * 3 + j, none⟩ = some v → K b o) → ptrE a K := fun e hi hj hv hK =>
    (hcells.ext e).fld (s := 3) (by rw [flat_at (f := sgnV k) (s := 3) (fun _ => rfl) (List.getElem?_range hi) hj]; exact hv) hK
  refine ⟨0, rfl, h0, rd (j := 0) hE h0 (by decide) rfl fun b1 o1 hc1 => ⟨sg k 0, hc1, 0, rfl, h0, rd (j := 2) hE h0 (by decide) rfl fun b2 o2 hc2 => ⟨isBad k 0, hc2, ?_⟩⟩⟩
  refine bcase_mk (fun hb => ?_) (fun hb => ?_)
  · intro w2 hd2
    have hbl := bt_lt k 0
    have hq : bt k 0 / 16 < 16 := by omega
    have hm : bt k 0 % 16 < 16 := by omega
    refine ⟨0, rfl, hs0, Int.natCast_nonneg _, by decide, ?_, bt k 0 / 16, rfl, hq, 0, rfl, hs0, Int.natCast_nonneg _, by decide, bt k 0 % 16, rfl, hm, ?_⟩
    · show InR .u8 ((bt k 0 : Int) / 16)
      exact inr_u8 (by omega) (by omega)
    intro b4 w3 hn3
    exact ⟨_, two_hex hq hm hn3, (bad_sz _ _).1, (bad_sz _ _).2, (badS (bt k 0), 4), by rw [bad_is]; rfl, (oneC_bad hb).symm, Ext.trans hE (Ext.trans hd2.ext hn3.ext)⟩
  refine bcase_mk (fun h9 => ?_) (fun h9 => ?_)
  · have h9 : sg k 0 = 9 := by simpa using h9
    refine ⟨l.tab, c0, l.wide, c1, l.want, c2, l.join, c3, l.raw, c4, (col, l), rfl, trivial, ?_⟩
    rintro x w3 ⟨hx, e3⟩
    dsimp only at hx
    have hst := stop_bd col l.tab
    have htb := tab_bd l.tab
    refine ⟨stopN col l.tab, by rw [hx], by omega, ?_⟩
    rintro y w4 ⟨hy, e4⟩
    exact ⟨(blankS (stopN col l.tab), stopN col l.tab), by rw [hy, hx], (oneC_tab hb h9).symm, Ext.trans hE (Ext.trans e3 e4)⟩
  have h9 : ¬ sg k 0 = 9 := by simpa using h9
  rw [str_eq, str_eq]
  refine bcase_mk (fun hnl => ?_) (fun hnl => ?_)
  · have hnl : k = ⟨#[10]⟩ ∨ k = ⟨#[13, 10]⟩ := by
      rw [Bool.or_eq_true] at hnl
      exact hnl.imp of_decide_eq_true of_decide_eq_true
    exact ⟨(⟨#[]⟩, 0), rfl, (oneC_nl hb h9 ((one_nl h1).2 hnl)).symm, hE⟩
  have hnl : ¬ (sg k 0 = 10 ∨ secR k = 10) := fun h => by
    rw [Bool.or_eq_false_iff] at hnl
    exact ((one_nl h1).1 h).elim (of_decide_eq_false hnl.1) (of_decide_eq_false hnl.2)
  refine bcase_mk (fun hct => ?_) (fun hct => ?_)
  · have hct : sg k 0 < 32 := by simpa using hct
    have hx := ctl_byte2 ⟨(sg k 0).toNat, by omega⟩
    dsimp only at hx
    rw [Int.toNat_of_nonneg hsg0] at hx
    refine ⟨inr_u8 (by omega) (by omega), inr_u8 (by omega) (by omega), fun b4 w3 hn3 => ⟨strL [UInt8.ofNat ((sg k 0).toNat + 64)], bytesIn_of rfl (.inr ⟨b4, 0, rfl, fun j v hv => ?_⟩), ?_, (ctlS (sg k 0), 2), by rw [hx]; rfl, (oneC_ctl hb h9 hnl (.inl hct)).symm, Ext.trans hE hn3.ext⟩⟩
    · rw [cell_of_heap hn3.heap, Nat.zero_add, show (#[Value.int .u8 (sg k 0 + 64)] : Array Value) = [Value.int .u8 (sg k 0 + 64)].toArray from rfl, List.getElem?_toArray]
      have e : (UInt8.ofNat ((sg k 0).toNat + 64)).toNat = (sg k 0).toNat + 64 := by rw [UInt8.toNat_ofNat']; exact Nat.mod_eq_of_lt (by omega)
      have hv : ([Value.int .u8 ((UInt8.ofNat ((sg k 0).toNat + 64)).toNat : Int)])[j]? = some v := hv
      rw [e, show (((sg k 0).toNat + 64 : Nat) : Int) = sg k 0 + 64 from by omega] at hv
      exact hv
    · rw [strL_size]; show (1 + 1 : Nat) ≤ _; decide
  have hct : ¬ sg k 0 < 32 := by simpa using hct
  refine bcase_mk (fun h7 => ?_) (fun h7 => ?_)
  · have h7 : sg k 0 = 127 := by simpa using h7
    refine ⟨(ctlS (sg k 0), 2), by rw [h7]; rfl, (oneC_ctl hb h9 hnl (.inr h7)).symm, hE⟩
  have h7 : ¬ sg k 0 = 127 := by simpa using h7
  have hct : ¬ (sg k 0 < 32 ∨ sg k 0 = 127) := by omega
  refine ⟨sg k 0, rfl, trivial, ?_⟩
  rintro x w2 ⟨hx, hw2⟩
  replace hw2 := hw2.symm
  subst hw2
  have hfd : fmtB (sg k 0) = (decide (128 ≤ sg k 0 ∧ sg k 0 ≤ 159) || (sg k 0 == 8232 || sg k 0 == 8233) || (x == 1 && !joinB (sg k 0))) := by rw [hx]; rfl
  refine ⟨?_, ?_⟩
  · have tail : ¬ (128 ≤ sg k 0 ∧ sg k 0 ≤ 159) → bcase (sg k 0 == 8232) (∃ c : Unit, Value.bool true = Value.bool (fmtB (sg k 0)) ∧ Ext w1 w1) (bcase (sg k 0 == 8233) (∃ c : Unit, Value.bool true = Value.bool (fmtB (sg k 0)) ∧ Ext w1 w1)
        (bcase (x == 1) (∃ g2 : Int, (#[Value.int .i32 (sg k 0)] : Array Value) = #[.int .i32 g2] ∧ True ∧ ∀ (x1 : Bool) (w3 : World), x1 = joinB g2 ∧ Ext w1 w3 → ∃ c : Unit, (Value.bool !x1) = Value.bool (fmtB (sg k 0)) ∧ Ext w1 w3) (∃ c : Unit, Value.bool false = Value.bool (fmtB (sg k 0)) ∧ Ext w1 w1))) := by
      intro hno
      rw [hfd, decide_eq_false hno]
      refine bcase_mk (fun h => ⟨(), by rw [h]; rfl, Ext.refl _⟩) (fun h => bcase_mk (fun h' => ⟨(), by rw [h']; cases (sg k 0 == 8232) <;> rfl, Ext.refl _⟩) (fun h' => bcase_mk (fun h2 => ⟨sg k 0, rfl, trivial, ?_⟩) (fun h2 => ⟨(), by rw [h, h', h2]; rfl, Ext.refl _⟩)))
      rintro y w3 ⟨hy, e3⟩
      exact ⟨(), by rw [h, h', h2, hy]; rfl, e3⟩
    refine bcase_mk (fun ha => bcase_mk (fun hb2 => ⟨(), ?_, Ext.refl _⟩) (fun hb2 => tail ?_)) (fun ha => tail ?_)
    · have ha := of_decide_eq_true ha
      have hb2 := of_decide_eq_true hb2
      rw [hfd, decide_eq_true (show 128 ≤ sg k 0 ∧ sg k 0 ≤ 159 from ⟨ha, hb2⟩)]; rfl
    · have hb2 := of_decide_eq_false hb2; omega
    · have ha := of_decide_eq_false ha; omega
  rintro _ _ w3 e3
  have hnat : ((sg k 0).toNat : Int) = sg k 0 := Int.toNat_of_nonneg hsg0
  refine bcase_mk (fun hfm => ⟨l.raw, e3.cell c4, bcase_mk (fun hr => ?_) (fun hr => ?_)⟩) (fun hfm => ?_)
  · exact ⟨(⟨#[]⟩, 0), rfl, (oneC_fmt hb h9 hnl hct hfm (by simpa using hr)).symm, Ext.trans hE e3⟩
  · have hbig : 128 ≤ sg k 0 := by
      rcases Int.lt_or_le (sg k 0) 128 with h | h
      · exfalso
        have hlow : ∀ n : Fin 128, ¬ (n.val < 32 ∨ n.val = 127) → fmtB (n.val : Int) = false := by decide +kernel
        have := hlow ⟨(sg k 0).toNat, by omega⟩ (by dsimp only; omega)
        dsimp only at this
        rw [hnat, hfm] at this; cases this
      · exact h
    refine ⟨(sg k 0).toNat, by rw [hnat], ⟨by omega, by omega⟩, ?_⟩
    rintro y w4 ⟨hy, e4⟩
    have hj : numJ (sg k 0).toNat ≤ 6 := by unfold numJ digN; split <;> (try split) <;> (try split) <;> (try split) <;> (try split) <;> omega
    have hys : y.size = numJ (sg k 0).toNat := by rw [hy, strL_size, num_len]
    have hns : (nameS (sg k 0).toNat).size = y.size + 2 := by
      unfold nameS
      rw [ByteArray.size_append, ByteArray.size_append, ← hy, strL_size, strL_size]
      show 1 + y.size + 1 = _; omega
    have hone : (ByteArray.mk #[60] ++ y) ++ ByteArray.mk #[62] = nameS (sg k 0).toNat := by rw [hy]; rfl
    refine ⟨?_, ?_, inr_i64 (by omega) (by omega), (nameS (sg k 0).toNat, (nameS (sg k 0).toNat).size), ?_, (oneC_raw hb h9 hnl hct hfm (by simpa using hr)).symm, Ext.trans hE (Ext.trans e3 e4)⟩
    · show 1 + y.size ≤ _; omega
    · rw [ByteArray.size_append]; show 1 + y.size + 1 ≤ _; omega
    · rw [hone, hns]; rfl
  refine ⟨?_, ?_⟩
  · rw [← hx]
    refine bcase_mk (fun h => ⟨(), by rw [h]; rfl, Ext.refl _⟩) (fun h => ⟨sg k 0, rfl, trivial, ?_⟩)
    rintro y w4 ⟨hy, e4⟩
    exact ⟨(), by rw [h, hy]; rfl, e4⟩
  rintro _ _ w4 e4
  have e14 := Ext.trans e3 e4
  have hk : k.size ≤ 67108864 := hsz
  refine bcase_mk (fun hm => ?_) (fun hm => ?_)
  · have hm : kindR (sg k 0) = 2 ∨ joinB (sg k 0) = true := by simpa using hm
    have ex : (ByteArray.mk #[226, 151, 140] ++ cutS k, 1) = oneC k col l := (oneC_mark hb h9 hnl hct hfm hm).symm
    refine bcase_mk (fun h => ?_) (fun h => ?_)
    · have h : cnt k = 32 := by have : (cnt k : Int) = 32 := by simpa using h
                                omega
      have hcut : cutS k = k.extract 0 (pos k 31) := by unfold cutS; rw [if_pos h]
      have hp := pos_le k 31
      refine ⟨inr_i64 (by omega) (by omega), 31, by omega, by omega, rd (i := 31) (j := 1) (Ext.trans hE e14) (by omega) (by decide) rfl fun b5 o5 hc5 => ⟨_, hc5, pos k 31, rfl, Nat.zero_le _, hp, ?_⟩⟩
      intro b6 w5 hn5
      refine ⟨⟨some ⟨b6, 0, none⟩, 1, [9676]⟩, rfl, ⟨at_box hn5 rfl (by decide), show (1 : Nat) ≤ _ by decide⟩, ?_⟩
      rintro y w6 ⟨hy, e6⟩
      have hy : y = ⟨#[226, 151, 140]⟩ := hy.trans mark_is
      refine ⟨?_, (⟨#[226, 151, 140]⟩ ++ cutS k, 1), by rw [hy, hcut]; rfl, ex, Ext.trans hE (Ext.trans e14 (Ext.trans hn5.ext e6))⟩
      rw [hy, size_ext hp]
      show 3 + (pos k 31 - 0) ≤ _; omega
    · have h : ¬ cnt k = 32 := by
        intro e
        rw [e] at h; cases h
      have hcut : cutS k = k := by unfold cutS; rw [if_neg h]
      intro b6 w5 hn5
      refine ⟨⟨some ⟨b6, 0, none⟩, 1, [9676]⟩, rfl, ⟨at_box hn5 rfl (by decide), show (1 : Nat) ≤ _ by decide⟩, ?_⟩
      rintro y w6 ⟨hy, e6⟩
      have hy : y = ⟨#[226, 151, 140]⟩ := hy.trans mark_is
      refine ⟨?_, (⟨#[226, 151, 140]⟩ ++ cutS k, 1), by rw [hy, hcut]; rfl, ex, Ext.trans hE (Ext.trans e14 (Ext.trans hn5.ext e6))⟩
      rw [hy]
      show 3 + k.size ≤ _; omega
  have hm : ¬ (kindR (sg k 0) = 2 ∨ joinB (sg k 0) = true) := by simpa using hm
  have sec0 : ¬ 1 < cnt k → secR k = 0 := fun h => by unfold secR; rw [if_neg h]
  have sec1 : 1 < cnt k → secR k = sg k 1 := fun h => by unfold secR; rw [if_pos h]
  refine ⟨bcase_mk (fun h => ?_) (fun h => ?_), ?_⟩
  · have h : 1 < cnt k := by have := of_decide_eq_true h; omega
    refine ⟨sg k 0, rfl, trivial, ?_⟩
    rintro y w5 ⟨hy, e5⟩
    rw [← hy]
    refine bcase_mk (fun h2 => ?_) (fun h2 => ⟨(), by rw [h2]; rfl, e5⟩)
    refine ⟨1, rfl, h, rd (i := 1) (j := 0) (Ext.trans hE (Ext.trans e14 e5)) h (by decide) rfl fun b5 o5 hc5 => ⟨_, hc5, sg k 1, rfl, trivial, ?_⟩⟩
    rintro z w6 ⟨hz, e6⟩
    exact ⟨(), by rw [h2, hz, sec1 h]; rfl, Ext.trans e5 e6⟩
  · have h : ¬ 1 < cnt k := by have := of_decide_eq_false h; omega
    refine ⟨(), ?_, Ext.refl _⟩
    rw [sec0 h, show regB 0 = false from rfl, Bool.and_false]
  rintro _ _ w5 e5
  have e15 := Ext.trans e14 e5
  refine bcase_mk (fun h2 => ?_) (fun h2 => ?_)
  · rw [Bool.and_eq_true] at h2
    exact ⟨(k, 2), rfl, (oneC_two hb h9 hnl hct hfm hm (.inl h2)).symm, Ext.trans hE e15⟩
  refine ⟨l.wide, e15.cell c1, (sg k 0, l.wide), rfl, trivial, ?_⟩
  rintro x1 w6 ⟨hx1, hw6⟩
  replace hw6 := hw6.symm
  subst hw6
  dsimp only at hx1
  refine ⟨?_, ?_⟩
  · rw [← hx, ← hx1]
    refine bcase_mk (fun h3 => bcase_mk (fun h4 => bcase_mk (fun h => ?_) (fun h => ?_)) (fun h4 => ⟨(), by rw [h3, h4]; rfl, Ext.refl _⟩)) (fun h3 => ⟨(), by rw [h3]; rfl, Ext.refl _⟩)
    · have h : 1 < cnt k := by have := of_decide_eq_true h; omega
      refine ⟨1, rfl, h, rd (i := 1) (j := 0) (Ext.trans hE e15) h (by decide) rfl fun b5 o5 hc5 => ⟨_, hc5, (), ?_, Ext.refl _⟩⟩
      rw [h3, h4, sec1 h]; rfl
    · have h : ¬ 1 < cnt k := by have := of_decide_eq_false h; omega
      refine ⟨(), ?_, Ext.refl _⟩
      rw [sec0 h, h3, h4]; rfl
  rintro _ _ w7 e7
  have e17 := Ext.trans hE (Ext.trans e15 e7)
  refine bcase_mk (fun h3 => ?_) (fun h3 => ?_)
  · rw [Bool.and_eq_true, Bool.and_eq_true, beq_iff_eq, beq_iff_eq, beq_iff_eq, and_assoc] at h3
    exact ⟨(k, 2), rfl, (oneC_two hb h9 hnl hct hfm hm (.inr h3)).symm, e17⟩
  have hone := oneC_wid (col := col) (l := l) hb h9 hnl hct hfm hm (fun h => by
    rcases h with ⟨ha, hb'⟩ | ⟨ha, hb', hc'⟩
    · rw [ha, hb'] at h2; cases h2
    · rw [ha, hb', hc'] at h3; cases h3)
  refine bcase_mk (fun h4 => ⟨(⟨#[]⟩, 0), rfl, ?_, e17⟩) (fun h4 => ⟨(k, (wideR (sg k 0) l.wide).toNat), ?_, ?_, e17⟩)
  · rw [hone, if_pos (by rw [← hx1]; simpa using h4)]
  · rw [Int.toNat_of_nonneg (wideR_bd _ _), hx1]
  · rw [hone, if_neg (by rw [← hx1]; simpa using h4)]

end Go.Proofs.YthpjkgoahneldaaDoor
end

section
/-
  Chapter 6: what is shown of a text's first cluster, both walks.
-/
namespace Go.Proofs.YthpjkgoahneldaaDoor
open Go Go.RowKit Vc Ut Tb Cl

theorem and15b : ∀ x : Fin 256, IntKind.u8.wrap (↑(BitVec.ofInt IntKind.u8.bits (x.val : Int) &&& BitVec.ofInt IntKind.u8.bits (15 : Int)).toNat : Int) = ((x.val % 16 : Nat) : Int) := by decide +kernel
theorem shr4b (m : Nat) : ((m : Nat) : Int).fdiv ((2 : Int) ^ min (Int.toNat (4 : Int)) IntKind.u8.bits) = ((m / 16 : Nat) : Int) := by
  show (m : Int).fdiv 16 = _
  rw [Int.fdiv_eq_ediv_of_nonneg _ (by decide)]
  rfl
/-- A text's first cluster. -/
theorem first_own {s : ByteArray} (h : 0 < s.size) : ncl (s.extract 0 (bp s 1)) = 1 ∧ (s.extract 0 (bp s 1)).size = bp s 1 ∧ 0 < bp s 1 ∧ ∀ col l, textC s col l = oneC (s.extract 0 (bp s 1)) col l := by
  have h0 : 0 < ncl s := Nat.pos_of_ne_zero fun e => by rw [ncl_zero] at e; omega
  refine ⟨ncl_take h0, by rw [size_ext (bp_le s 1)]; omega, Nat.lt_of_le_of_lt (Nat.zero_le _) (bp_strict (s := s) (i := 0) (j := 1) (by decide) h0), fun col l => ?_⟩
  unfold textC
  rw [if_neg (by omega)]; rfl
theorem next0 (s : ByteArray) (h : s.size = 0) : bp s 1 = 0 := by have := bp_le s 1; omega
theorem bad_next {k : ByteArray} (h : 0 < k.size) : (nxR k == 65533 && ((nxN k : Nat) : Int) == 1) = isBad k 0 := by
  unfold nxR nxN isBad
  rw [if_neg (by omega), if_neg (by omega), show pos k 0 = 0 from rfl]
  rw [Bool.eq_iff_iff, Bool.and_eq_true, beq_iff_eq, beq_iff_eq, decide_eq_true_eq]
  omega

theorem textp_ok : sTextC.Ok Tryd.prog 45 := by
  refine textP_vc ⟨cnext_ok, next_ok, onep_ok, trivial⟩ ?_
  rintro ⟨s, col, l⟩ w ⟨hU, hD, hsz⟩ b w1 hn
  dsimp only at hU hD hsz ⊢
  obtain ⟨c0, c1, c2, c3, c4⟩ := look_at (l := l) hn.heap
  have hE : Ext w w1 := hn.ext
  refine ⟨s, rfl, ⟨hU.ext hE, hsz⟩, ?_⟩
  rintro x w2 ⟨hx, e2⟩
  have hx : x = bp s 1 := hx
  subst hx
  have hle := bp_le s 1
  refine ⟨bp s 1, rfl, Nat.zero_le _, hle, ?_⟩
  rw [str_nil]
  refine bcase_mk (fun h => ?_) (fun h => ?_)
  · have h : s.size = 0 := by
      have h := of_decide_eq_true h
      rw [size_ext hle] at h
      rcases Nat.eq_zero_or_pos s.size with h' | h'
      · exact h'
      · obtain ⟨_, _, h3, _⟩ := first_own h'; omega
    exact ⟨(⟨#[]⟩, 0), rfl, by unfold textC; rw [if_pos h], Ext.trans hE e2⟩
  have hs : 0 < s.size := by
    have h := of_decide_eq_false h
    rw [size_ext hle] at h
    omega
  obtain ⟨g1, g2, g3, g4⟩ := first_own hs
  rw [g4]
  have e12 := Ext.trans hE e2
  refine ⟨s.extract 0 (bp s 1), rfl, ⟨hU.ext e12, by omega⟩, ?_⟩
  rintro ⟨xr, xn⟩ w3 ⟨hr, hnn, e3⟩
  dsimp only at hr hnn ⊢
  rw [hr, hnn, bad_next (by omega)]
  generalize hbb : isBad (s.extract 0 (bp s 1)) 0 = bb
  have e13 := Ext.trans e12 e3
  refine bcase_mk (fun hb => ?_) (fun hb => ?_)
  · rw [hb] at hbb
    intro w4 hd4
    have hbl := bt_lt (s.extract 0 (bp s 1)) 0
    have hq : bt (s.extract 0 (bp s 1)) 0 / 16 < 16 := by omega
    have hm : bt (s.extract 0 (bp s 1)) 0 % 16 < 16 := by omega
    refine ⟨0, rfl, by omega, bt (s.extract 0 (bp s 1)) 0 / 16, ?_, hq, 0, rfl, by omega, bt (s.extract 0 (bp s 1)) 0 % 16, ?_, hm, ?_⟩
    · show ((bt (s.extract 0 (bp s 1)) 0 : Nat) : Int).fdiv _ = _
      exact shr4b _
    · have e := and15b ⟨bt (s.extract 0 (bp s 1)) 0, hbl⟩
      dsimp only at e
      rw [← e]; rfl
    intro b4 w5 hn5
    exact ⟨_, two_hex hq hm hn5, (bad_sz _ _).1, (bad_sz _ _).2, (badS (bt (s.extract 0 (bp s 1)) 0), 4), by rw [bad_is]; rfl, (oneC_bad hbb).symm, Ext.trans e13 (Ext.trans hd4.ext hn5.ext)⟩
  · rw [hb] at hbb
    have hcl := cnt_le (s.extract 0 (bp s 1))
    refine ⟨by rw [runesV_len]; omega, fun c b4 w4 hn4 => ?_⟩
    have hm := newRunes_made hn4
    have e4 : Ext w3 w4 := hm.ext
    have e24 := Ext.trans e2 (Ext.trans e3 e4)
    refine ⟨l.tab, e24.cell c0, l.wide, e24.cell c1, l.want, e24.cell c2, l.join, e24.cell c3, l.raw, e24.cell c4, ⟨s.extract 0 (bp s 1), col, l, some ⟨b4, 0, none⟩, c⟩, by rw [runesV_len], ⟨hD.ext (Ext.trans hE e24), by dsimp only; omega, g1, hbb, ?_, hm.row.cells⟩, ?_⟩
    · have := hn4.1
      rw [runesV_len] at this
      exact this
    · rintro y w5 ⟨hy, e5⟩
      exact ⟨y, rfl, hy, Ext.trans hE (Ext.trans e24 e5)⟩
theorem textr_ok : sTextC.Ok Tryd.prog 46 := by
  refine textR_vc ⟨rnextC_ok, signs_ok, oner_ok, trivial⟩ ?_
  rintro ⟨s, col, l⟩ w ⟨hU, hD, hsz⟩ b w1 hn
  dsimp only at hU hD hsz ⊢
  obtain ⟨c0, c1, c2, c3, c4⟩ := look_at (l := l) hn.heap
  have hE : Ext w w1 := hn.ext
  refine ⟨s, rfl, ⟨hU.ext hE, hsz⟩, ?_⟩
  rintro x w2 ⟨hx, e2⟩
  have hx : x = bp s 1 := hx
  subst hx
  have hle := bp_le s 1
  refine ⟨bp s 1, rfl, Nat.zero_le _, hle, ?_⟩
  rw [str_nil]
  refine bcase_mk (fun h => ?_) (fun h => ?_)
  · have h : s.size = 0 := by
      have h := of_decide_eq_true h
      rw [size_ext hle] at h
      rcases Nat.eq_zero_or_pos s.size with h' | h'
      · exact h'
      · obtain ⟨_, _, h3, _⟩ := first_own h'; omega
    exact ⟨(⟨#[]⟩, 0), rfl, by unfold textC; rw [if_pos h], Ext.trans hE e2⟩
  have hs : 0 < s.size := by
    have h := of_decide_eq_false h
    rw [size_ext hle] at h
    omega
  obtain ⟨g1, g2, g3, g4⟩ := first_own hs
  rw [g4]
  intro w3 hd3
  have e3 := hd3.ext
  have e13 := Ext.trans hE (Ext.trans e2 e3)
  refine ⟨l.tab, e2.cell c0, l.wide, e2.cell c1, l.want, e2.cell c2, l.join, e2.cell c3, l.raw, e2.cell c4, s.extract 0 (bp s 1), rfl, ⟨hU.ext e13, by omega⟩, ?_⟩
  rintro ⟨a, n, c⟩ w4 ⟨hnn, hm⟩
  dsimp only at hnn hm ⊢
  subst hnn
  refine ⟨hm.ext, ⟨s.extract 0 (bp s 1), col, l, a, c⟩, rfl, ⟨by dsimp only; omega, g1, hm.row.le.1, hm.row.cells⟩, ?_⟩
  rintro y w5 ⟨hy, e5⟩
  exact ⟨y, rfl, hy, Ext.trans e13 (Ext.trans hm.ext e5)⟩

end Go.Proofs.YthpjkgoahneldaaDoor
end

section
/-
  Verification conditions, printed by a program out of the specifications beside this text: each theorem says that the condition suffices. (Lean's kernel compares the printed condition with what 'wpE' computes.)
-/
set_option linter.unusedVariables false
namespace Go.Proofs.YthpjkgoahneldaaDoor
open Go Go.RowKit Vc Ut Tb Cl

set_option maxRecDepth 1000000 in
theorem itPc_vc (hsp : SpecsOk Tryd.prog spItPc) (h : ∀ (g : ByteArray × Nat) (i : ItG) (W : World), W.heap[g.snd]? = some (Obj.cells #[Value.string g.fst] (9 : TypeId)) ∧ U8 W ∧ g.fst.size ≤ (67108864 : Nat) → ItPre (List.map encPc (pcL g.fst)) (fun (q : Nat) => q = g.snd ∨ q = (0 : Nat) ∨ q = (1 : Nat)) i W → (∃ (x : Nat × (Nat → Prop)), Value.int IntKind.i64 (0 : Int) = Value.int IntKind.i64 (↑(bp g.fst x.fst) : Int) ∧ x.fst ≤ ncl g.fst ∧ i.J x.fst x.snd W ∧ Mid W i.D0 x.snd W) ∧ ∀ (u : Nat → Value) (x : Nat × (Nat → Prop)) (w' : World), x.fst ≤ ncl g.fst ∧ i.J x.fst x.snd w' ∧ Mid W i.D0 x.snd w' → ∃ (s : ByteArray), w'.cell? { block := g.snd, off := (0 : Nat) } = some (Value.string s) ∧ bcase (decide ((↑(bp g.fst x.fst) : Int) < (↑s.size : Int))) (∃ (s1 : ByteArray), w'.cell? { block := g.snd, off := (0 : Nat) } = some (Value.string s1) ∧ ∃ (k : Nat), (↑(bp g.fst x.fst) : Int) = (↑k : Int) ∧ k ≤ s1.size ∧ s1.size ≤ s1.size ∧ ∃ (g1 : ByteArray), #[Value.string (s1.extract k s1.size)] = #[Value.string g1] ∧ (U8 w' ∧ g1.size ≤ (67108864 : Nat)) ∧ ∀ (x1 : Nat) (w'1 : World), x1 = nextL g1 ∧ Ext w' w'1 → ∃ (s2 : ByteArray), w'1.cell? { block := g.snd, off := (0 : Nat) } = some (Value.string s2) ∧ InR IntKind.i64 ((↑(bp g.fst x.fst) : Int) + (↑x1 : Int)) ∧ ∃ (k1 : Nat), (↑(bp g.fst x.fst) : Int) = (↑k1 : Int) ∧ ∃ (k2 : Nat), (↑(bp g.fst x.fst) : Int) + (↑x1 : Int) = (↑k2 : Int) ∧ k1 ≤ k2 ∧ k2 ≤ s2.size ∧ i.l = i.l ∧ ∃ (q : Nat × (Nat → Prop)), [Value.int IntKind.i64 (↑(bp g.fst x.fst) : Int), Value.string (s2.extract k1 k2)] = (List.map encPc (pcL g.fst)).getD q.fst [] ∧ (q.fst < (List.map encPc (pcL g.fst)).length ∧ i.J q.fst q.snd w'1 ∧ Mid W i.D0 q.snd w'1) ∧ ∀ (b : Bool) (w'2 : World), (∃ (D' : Nat → Prop), Step q.snd w'1 w'2 D' ∧ (b = true → i.J (q.fst + (1 : Nat)) D' w'2) ∧ (b = false → i.Jx D' w'2)) → bcase (!b) (ItPost (List.map encPc (pcL g.fst)) i W w'2) (InR IntKind.i64 ((↑(bp g.fst x.fst) : Int) + (↑x1 : Int)) ∧ ∃ (y : Nat × (Nat → Prop)), Value.int IntKind.i64 ((↑(bp g.fst x.fst) : Int) + (↑x1 : Int)) = Value.int IntKind.i64 (↑(bp g.fst y.fst) : Int) ∧ (y.fst ≤ ncl g.fst ∧ i.J y.fst y.snd w'2 ∧ Mid W i.D0 y.snd w'2) ∧ ncl g.fst - y.fst < ncl g.fst - x.fst)) (ItPost (List.map encPc (pcL g.fst)) i W w')) :
    (itPc).Ok Tryd.prog 101 :=
  iter_of_vc itPc annItPc spItPc (fun _ _ _ => rfl) (fun _ _ _ => rfl) hsp (enters_of Tryd.func101 (by kernel_rfl) rfl) Tryd.func101 rfl (n := 1) (fun _ => rfl) (by kernel_rfl) (vcast (by kernel_rfl) h)

set_option maxRecDepth 1000000 in
theorem cpieces_vc (hsp : SpecsOk Tryd.prog []) (h : ∀ (g : ByteArray) (w : World), True → ∀ (b : Nat) (w1 : World), New w (Obj.cells #[Value.string g] (9 : Nat)) b w1 → ∃ (x : Nat), Value.func (Fn.func (101 : Nat)) #[] #[Value.pointer (some { block := b, off := (0 : Nat) })] = Value.func (Fn.func (101 : Nat)) #[] #[Value.pointer (some { block := x, off := (0 : Nat) })] ∧ w.heap.size ≤ x ∧ w1.heap[x]? = some (Obj.cells #[Value.string g] (9 : TypeId)) ∧ Ext w w1) :
    ((sIter 101)).Ok Tryd.prog 65 :=
  ok_of_vc (sIter 101) (annOf []) [] (fun _ _ => rfl) (fun _ _ => rfl) hsp Tryd.func65 rfl (n := 1) (fun _ => rfl) (by kernel_rfl) (vcast (by kernel_rfl) h)

set_option maxRecDepth 1000000 in
theorem call_vc (hsp : SpecsOk Tryd.prog spAllC) (h : ∀ (g : ByteArray) (w : World), True → ∃ (g1 : ByteArray), #[Value.string g] = #[Value.string g1] ∧ True ∧ ∀ (x : Nat) (w' : World), w.heap.size ≤ x ∧ w'.heap[x]? = some (Obj.cells #[Value.string g1] (9 : TypeId)) ∧ Ext w w' → ∃ (x1 : Nat), Value.func (Fn.func (101 : Nat)) #[] #[Value.pointer (some { block := x, off := (0 : Nat) })] = Value.func (Fn.func (101 : Nat)) #[] #[Value.pointer (some { block := x1, off := (0 : Nat) })] ∧ w.heap.size ≤ x1 ∧ w'.heap[x1]? = some (Obj.cells #[Value.string g] (9 : TypeId)) ∧ Ext w w') :
    ((sIter 101)).Ok Tryd.prog 55 :=
  ok_of_vc (sIter 101) (annOf spAllC) spAllC (fun _ _ => rfl) (fun _ _ => rfl) hsp Tryd.func55 rfl (n := 1) (fun _ => rfl) (by kernel_rfl) (vcast (by kernel_rfl) h)

set_option maxRecDepth 1000000 in
theorem cis_vc (hsp : SpecsOk Tryd.prog spAllC) (h : ∀ (g : ByteArray × Int) (w : World), U8 w ∧ g.fst.size ≤ (67108864 : Nat) → ∀ (b : Nat) (w1 : World), New w (Obj.cells #[Value.int IntKind.i64 g.snd] (3 : Nat)) b w1 → ∀ (b1 : Nat) (w11 : World), New w1 (Obj.cells #[Value.bool false] (4 : Nat)) b1 w11 → ∃ (g1 : ByteArray), #[Value.string g.fst] = #[Value.string g1] ∧ True ∧ ∀ (x : Nat) (w' : World), w11.heap.size ≤ x ∧ w'.heap[x]? = some (Obj.cells #[Value.string g1] (9 : TypeId)) ∧ Ext w11 w' → ∃ (xs : List (Nat × ByteArray)), ∃ (C : Nat → Prop), ∃ (D0 : Nat → Prop), IterAt Tryd.prog (Value.func (Fn.func (101 : Nat)) #[] #[Value.pointer (some { block := x, off := (0 : Nat) })]) (List.map encPc xs) C w' ∧ DomOk w' C D0 ∧ (D0 = ones [ptrB (Value.pointer (some { block := b1, off := (0 : Nat) }))] ∧ (∀ (j : Nat), j < (0 : Nat) → (↑(bp g.fst j) : Int) < g.snd) ∧ ∃ (v : Bool), w'.heap[ptrB (Value.pointer (some { block := b1, off := (0 : Nat) }))]? = some (Obj.cells #[Value.bool v] (4 : TypeId))) ∧ (Stab w'.heap.size fun (k : Nat) (D : Nat → Prop) (W : World) => D = ones [ptrB (Value.pointer (some { block := b1, off := (0 : Nat) }))] ∧ (∀ (j : Nat), j < k → (↑(bp g.fst j) : Int) < g.snd) ∧ ∃ (v : Bool), W.heap[ptrB (Value.pointer (some { block := b1, off := (0 : Nat) }))]? = some (Obj.cells #[Value.bool v] (4 : TypeId))) ∧ (∀ (x1 : Exit), Stab w'.heap.size fun (x : Nat) (D : Nat → Prop) (W : World) => D = ones [ptrB (Value.pointer (some { block := b1, off := (0 : Nat) }))] ∧ W.heap[ptrB (Value.pointer (some { block := b1, off := (0 : Nat) }))]? = some (Obj.cells #[Value.bool (isB g.fst g.snd)] (4 : TypeId))) ∧ (∀ (k : Nat) (x1 : Nat × ByteArray) (D : Nat → Prop) (W : World), xs[k]? = some x1 → (D = ones [ptrB (Value.pointer (some { block := b1, off := (0 : Nat) }))] ∧ (∀ (j : Nat), j < k → (↑(bp g.fst j) : Int) < g.snd) ∧ ∃ (v : Bool), W.heap[ptrB (Value.pointer (some { block := b1, off := (0 : Nat) }))]? = some (Obj.cells #[Value.bool v] (4 : TypeId))) → Mid w' D0 D W → ∃ (n : Int), W.cell? { block := b, off := (0 : Nat) } = some (Value.int IntKind.i64 n) ∧ bcase (decide ((↑x1.fst : Int) ≥ n)) (∃ (n1 : Int), W.cell? { block := b, off := (0 : Nat) } = some (Value.int IntKind.i64 n1) ∧ true = true ∧ (∃ (old : Value), W.cell? { block := b1, off := (0 : Nat) } = some old) ∧ W.frozen? { block := b1, off := (0 : Nat) } = false ∧ ∀ (w12 : World), Stored W { block := b1, off := (0 : Nat) } (Value.bool ((↑x1.fst : Int) == n1)) w12 → ∃ (D' : Nat → Prop), Step D W w12 D' ∧ D' = ones [ptrB (Value.pointer (some { block := b1, off := (0 : Nat) }))] ∧ w12.heap[ptrB (Value.pointer (some { block := b1, off := (0 : Nat) }))]? = some (Obj.cells #[Value.bool (isB g.fst g.snd)] (4 : TypeId))) (∃ (D' : Nat → Prop), Step D W W D' ∧ D' = ones [ptrB (Value.pointer (some { block := b1, off := (0 : Nat) }))] ∧ (∀ (j : Nat), j < k + (1 : Nat) → (↑(bp g.fst j) : Int) < g.snd) ∧ ∃ (v : Bool), W.heap[ptrB (Value.pointer (some { block := b1, off := (0 : Nat) }))]? =
 some (Obj.cells #[Value.bool v] (4 : TypeId)))) ∧ (∀ (D : Nat → Prop) (W : World), (D = ones [ptrB (Value.pointer (some { block := b1, off := (0 : Nat) }))] ∧ (∀ (j : Nat), j < lenX xs → (↑(bp g.fst j) : Int) < g.snd) ∧ ∃ (v : Bool), W.heap[ptrB (Value.pointer (some { block := b1, off := (0 : Nat) }))]? = some (Obj.cells #[Value.bool v] (4 : TypeId))) → Mid w' D0 D W → ∃ (n : Int), W.cell? { block := b, off := (0 : Nat) } = some (Value.int IntKind.i64 n) ∧ true = true ∧ (∃ (old : Value), W.cell? { block := b1, off := (0 : Nat) } = some old) ∧ W.frozen? { block := b1, off := (0 : Nat) } = false ∧ ∀ (w12 : World), Stored W { block := b1, off := (0 : Nat) } (Value.bool (n == (↑g.fst.size : Int))) w12 → ∃ (b2 : Bool), w12.cell? { block := b1, off := (0 : Nat) } = some (Value.bool b2) ∧ ∀ (w2 : World), Turn w.heap.size w12 w2 → ∃ (x1 : Bool), Value.bool b2 = Value.bool x1 ∧ x1 = isB g.fst g.snd ∧ Ext w w2) ∧ ∀ (D : Nat → Prop) (W : World), D = ones [ptrB (Value.pointer (some { block := b1, off := (0 : Nat) }))] ∧ W.heap[ptrB (Value.pointer (some { block := b1, off := (0 : Nat) }))]? = some (Obj.cells #[Value.bool (isB g.fst g.snd)] (4 : TypeId)) → Mid w' D0 D W → ∃ (b2 : Bool), W.cell? { block := b1, off := (0 : Nat) } = some (Value.bool b2) ∧ ∀ (w2 : World), Turn w.heap.size W w2 → ∃ (x1 : Bool), Value.bool b2 = Value.bool x1 ∧ x1 = isB g.fst g.snd ∧ Ext w w2) :
    (sIsB).Ok Tryd.prog 28 :=
  ok_of_vc sIsB annIsC spAllC (fun _ _ => rfl) (fun _ _ => rfl) hsp Tryd.func28 rfl (n := 2) (fun _ => rfl) (by kernel_rfl) (vcast (by kernel_rfl) h)

end Go.Proofs.YthpjkgoahneldaaDoor
end
