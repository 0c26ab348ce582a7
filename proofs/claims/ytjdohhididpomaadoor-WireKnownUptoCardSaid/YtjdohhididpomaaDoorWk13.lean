/-
  Texts joined by program: Gg, WkO, WkSb, WkSc, VgRd, Ga.
-/
import Derived.Test.YtjdohhididpomaaDoorWk10
import Derived.Test.YtjdohhididpomaaDoorWk07
import Derived.Test.YtjdohhididpomaaDoorWk11
import Derived.Test.YtjdohhididpomaaDoorWk12
import Derived.Test.YtjdohhididpomaaDoorWk06
import Derived.Test.YtjdohhididpomaaDoorProg
import Derived.KernelRfl
set_option linter.unusedVariables false
set_option linter.unusedSimpArgs false

section
namespace Go.Proofs.YtjdohhididpomaaDoor.Vc
open Go Go.RowKit
theorem new_box {w w1 : World} {u : Value} {t : TypeId} {b : Nat} (h : New w (.cells #[u] t) b w1) :
    (∃ old, w1.cell? ⟨b, 0, none⟩ = some old) ∧ w1.frozen? ⟨b, 0, none⟩ = false ∧ ∀ {v : Value} {w2 : World}, Stored w1 ⟨b, 0, none⟩ v w2 → Ext w w2 ∧ w2.heap[b]? = some (.cells #[v] t) ∧ b = w.heap.size ∧ w2.heap.size = b + 1 := by
  refine ⟨box_old h.heap, box_free h.heap, fun {v w2} hs => ?_⟩
  have := h.size
  refine ⟨h.ext.stored hs (by show _ ≤ b; omega), hs.box h.heap, this.1, by rw [hs.size]; omega⟩
theorem _root_.Go.Proofs.YtjdohhididpomaaDoor.Grow.keep {W W' : World} {box : Nat} {t e : TypeId} {a : Option Addr} {c : Nat} {vs : List Value} (h : Grow W box t e a c vs) (hk : ∀ q, q = box ∨ blk a = some q → W'.heap[q]? = W.heap[q]?) : Grow W' box t e a c vs :=
  ⟨(hk box (.inl rfl)).trans h.hb, h.row.keep fun g hg => hk g (.inr hg)⟩
theorem _root_.Go.Proofs.YtjdohhididpomaaDoor.Grow.kept {W W' : World} {box q : Nat} {t e : TypeId} {a : Option Addr} {c n : Nat} {vs : List Value} (h : Grow W box t e a c vs) (hq : q = box ∨ blk a = some q) (hk : ∀ o, W.heap[q]? = some o → (isRec o = false ∨ q < n) → W'.heap[q]? = some o) : W'.heap[q]? = W.heap[q]? := by
  rcases hq with rfl | hq
  · rw [h.hb]; exact hk _ h.hb (.inl rfl)
  · rcases h.row.2 with ⟨rfl, _⟩ | ⟨g, cur, rfl, h1, _⟩
    · cases hq
    · cases hq
      rw [h1]; exact hk _ h1 (.inl rfl)
theorem _root_.Go.Proofs.YtjdohhididpomaaDoor.Grow.fr {S : Nat → Prop} {W W' : World} {box : Nat} {t e : TypeId} {a : Option Addr} {c : Nat} {vs : List Value} (h : Grow W box t e a c vs) (hf : Fr S W W') (hS : ∀ q, q = box ∨ blk a = some q → ¬ S q) : Grow W' box t e a c vs :=
  h.keep fun q hq => hf.block q (hq.elim (fun e => by rw [e]; exact heap_lt h.hb) (fun e => h.row.lt e)) (hS q hq)
theorem _root_.Go.Proofs.YtjdohhididpomaaDoor.Grow.ext {W W' : World} {box : Nat} {t e : TypeId} {a : Option Addr} {c : Nat} {vs : List Value} (h : Grow W box t e a c vs) (hx : Ext W W') : Grow W' box t e a c vs :=
  h.fr (Fr.of_ext (S := fun _ => False) hx) (fun _ _ h => h)
theorem Row.off {W : World} {e t : TypeId} {n c q : Nat} {a : Option Addr} {vs : List Value} {cs : Array Value} (h : Row W e 1 a n vs c) (hq : W.heap[q]? = some (.cells cs t)) (hne : t ≠ e) : blk a ≠ some q := by
  intro he
  rcases h.2 with ⟨rfl, _⟩ | ⟨g, cur, rfl, h1, _⟩
  · cases he
  · cases he
    rw [hq] at h1
    simp only [Option.some.injEq, Obj.cells.injEq] at h1
    exact hne h1.2.1
theorem Row.off2 {W : World} {e t : TypeId} {n c n' c' : Nat} {a a' : Option Addr} {vs vs' : List Value} (h : Row W e 1 a n vs c) (h' : Row W t 1 a' n' vs' c') (hne : t ≠ e) {q : Nat} (h1 : blk a = some q) : blk a' ≠ some q := by
  intro he
  rcases h'.2 with ⟨rfl, _⟩ | ⟨g, cur, rfl, h2, _⟩
  · cases he
  · cases he
    exact h.off h2 hne h1
theorem _root_.Go.Proofs.YtjdohhididpomaaDoor.Grow.push {P : Program} {W w1 : World} {box b : Nat} {t tt ty e : TypeId} {bytes c : Nat} {a : Option Addr} {vs : List Value} {v : Value} (hE : ElemOk P tt e 1 bytes) (h : Grow W box t e a c vs) (hne : t ≠ e) (hn : New W (.cells #[v] e) b w1)
    (hv : v.oneCell' = true) (h63 : vs.length + 1 ≤ maxLen) (hb : (vs.length + 1) * bytes ≤ 140737488355328) :
    ∃ a' c' w2, AppRun P #[tt, tt] ty (.slice a vs.length c) (.slice (some ⟨b, 0, none⟩) 1 1) w1 a' (vs.length + 1) c' w2 ∧ KO w1 w2 ∧ (∃ old, w2.cell? ⟨box, 0, none⟩ = some old) ∧ w2.frozen? ⟨box, 0, none⟩ = false ∧
      ∀ {w3 : World}, Stored w2 ⟨box, 0, none⟩ (.slice a' (vs.length + 1) c') w3 → Grow w3 box t e a' c' (vs ++ [v]) ∧ Fr (fun q => q = box ∨ blk a = some q) W w3 ∧ (∀ q, blk a' = some q → blk a = some q ∨ W.heap.size ≤ q) := by
  obtain ⟨a', c', w2, hr, hko, hrow, hg, hor, _⟩ := h.row.pushN (P := P) (ty := ty) hE (by decide) (m := 1) (news := [v]) hn rfl (by simp [hv]) h63 (.inr hb)
  have hb1 := hn.ext.heap h.hb
  have hoff := h.row.off h.hb hne
  have hb2 : w2.heap[box]? = some (.cells #[.slice a vs.length c] t) := (hg.block box (heap_lt hb1) (fun e => hoff e.symm)).trans hb1
  refine ⟨a', c', w2, hr, hko, box_old hb2, box_free hb2, fun {w3} hs => ?_⟩
  have hoff' : ∀ q, blk a' = some q → blk a = some q ∨ W.heap.size ≤ q := by
    intro q hq
    rcases hor with rfl | ⟨rfl, _⟩
    · exact .inl hq
    · simp [blk] at hq; subst hq; exact .inr hn.ext.size
  have hne' : blk a' ≠ some box := fun he => by
    rcases hoff' box he with h1 | h1
    · exact hoff h1
    · have := heap_lt h.hb; omega
  refine ⟨⟨?_, ?_⟩, ?_, hoff'⟩
  · have := hs.box hb2; simpa using this
  · have hl : (vs ++ [v]).length = vs.length + 1 := by simp
    rw [hl]
    exact hrow.keep fun g hg' => hs.other (by show g ≠ box; rintro rfl; exact hne' hg')
  · refine ((Fr.of_ext (S := fun q => q = box ∨ blk a = some q) hn.ext).trans (Fr.grown hg) (fun x _ hx => .inr hx)).trans (Fr.stored hs) (fun x _ hx => .inl hx)
theorem take_snoc {α β : Type} {f : α → β} {xs : List α} {k : Nat} {p : α} (h : xs[k]? = some p) : (xs.take (k + 1)).map f = (xs.take k).map f ++ [f p] := by
  rw [List.take_add_one, h]; simp
end Go.Proofs.YtjdohhididpomaaDoor.Vc
end

section
namespace Go.Proofs.YtjdohhididpomaaDoor
open Go Go.RowKit Vc Ut Tb Cl Orb
theorem sg_at {s : ByteArray} {k i : Nat} (h : k + i < cnt s) : ((List.range (cnt s)).drop k)[i]? = some (k + i) := by
  rw [List.getElem?_drop, List.getElem?_range h]
theorem sgn_at {s : ByteArray} {k i j : Nat} (h : k + i < cnt s) (hj : j < 3) : (((List.range (cnt s)).drop k).flatMap (sgnV s))[i * 3 + j]? = (sgnV s (k + i))[j]? := flat_at (f := sgnV s) (s := 3) (fun _ => rfl) (sg_at h) hj
theorem sgn_one (s : ByteArray) (n : Nat) : ∀ u ∈ sgnV s n, u.oneCell' = true := by
  intro u hu
  simp only [sgnV, List.mem_cons, List.not_mem_nil, or_false] at hu
  rcases hu with rfl | rfl | rfl <;> rfl
theorem pcV_one (s : ByteArray) (n : Nat) : ∀ u ∈ pcV s n, u.oneCell' = true := by
  intro u hu
  simp only [pcV, List.mem_cons, List.not_mem_nil, or_false] at hu
  rcases hu with rfl | rfl <;> rfl
theorem pc_at {s : ByteArray} {i j : Nat} (h : i < ncl s) (hj : j < 2) : ((List.range (ncl s)).flatMap (pcV s))[i * 2 + j]? = (pcV s i)[j]? := flat_at (f := pcV s) (s := 2) (fun _ => rfl) (List.getElem?_range h) hj
theorem flat_drop {α : Type} {f : α → List Value} {s : Nat} (hf : ∀ x, (f x).length = s) : ∀ (l : List α) (n : Nat), (l.flatMap f).drop (n * s) = (l.drop n).flatMap f
  | l, 0 => by simp
  | [], n + 1 => by simp
  | x :: l, n + 1 => by
    rw [List.flatMap_cons, List.drop_succ_cons, ← flat_drop hf l n, show (n + 1) * s = (f x).length + n * s from by rw [hf x, Nat.succ_mul]; omega, ← List.drop_drop, List.drop_left]
theorem ext_sz {s : ByteArray} {a b : Nat} (h : b ≤ s.size) (h2 : a ≤ b) : ((s.extract a b).size : Int) = (b : Int) - a := by rw [size_ext h]; omega
theorem bord_len (s : ByteArray) : (bordI s).length = ncl s + 1 := by simp [bordI]
theorem bord_at {s : ByteArray} {i : Nat} (h : i ≤ ncl s) : (bordI s)[i]? = some (bp s i : Int) := by
  unfold bordI
  rw [List.getElem?_map, List.getElem?_range (by omega)]; rfl
theorem isB_iff {s : ByteArray} {p : Int} : isB s p = true ↔ ∃ i, i ≤ ncl s ∧ (bp s i : Int) = p := by
  unfold isB
  rw [List.any_eq_true]
  constructor
  · rintro ⟨i, hi, h⟩; exact ⟨i, by have := List.mem_range.1 hi; omega, of_decide_eq_true h⟩
  · rintro ⟨i, hi, h⟩; exact ⟨i, List.mem_range.2 (by omega), decide_eq_true h⟩
theorem ix_of {s : ByteArray} {p i : Nat} (hi : i ≤ ncl s) (h1 : ∀ j, j < i → bp s (j + 1) ≤ p) (h2 : i = ncl s ∨ p < bp s (i + 1)) : ixP s p = i := by
  unfold ixP
  rcases Nat.lt_or_eq_of_le hi with hlt | he
  · have : (List.range (ncl s)).find? (fun i => decide (p < bp s (i + 1))) = some i := by
      rw [List.find?_range_eq_some]
      refine ⟨decide_eq_true (h2.resolve_left (by omega)), List.mem_range.2 hlt, fun j hj => ?_⟩
      have := h1 j hj
      simp; omega
    rw [this]; rfl
  · have : (List.range (ncl s)).find? (fun i => decide (p < bp s (i + 1))) = none := by
      rw [List.find?_range_eq_none]
      intro j hj
      have := h1 j (by omega)
      simp; omega
    rw [this, he]; rfl
theorem bp_out {s : ByteArray} {i : Nat} (h : ncl s ≤ i) : bp s i = s.size := by
  unfold bp bk; rw [orb_out (first_fit s) h, pos_cnt]
theorem clamp_eq (s : ByteArray) (p : Int) : (if p < 0 then (0 : Int) else if p > (s.size : Int) then (s.size : Int) else p) = (clampN s p : Int) := by
  unfold clampN
  split
  · rfl
  · split
    · rfl
    · omega
end Go.Proofs.YtjdohhididpomaaDoor
end

section
namespace Go.Proofs.YtjdohhididpomaaDoor
open Go Go.RowKit Vc Ut Tb Cl
theorem two_hex {w w1 : World} {b x y : Nat} {t : TypeId} (hx : x < 16) (hy : y < 16)
    (hn : New w (.cells #[.int .u8 ↑([(48 : UInt8), 49, 50, 51, 52, 53, 54, 55, 56, 57, 97, 98, 99, 100, 101, 102].getD x 0).toNat, .int .u8 ↑([(48 : UInt8), 49, 50, 51, 52, 53, 54, 55, 56, 57, 97, 98, 99, 100, 101, 102].getD y 0).toNat] t) b w1) :
    BytesIn w1 (some ⟨b, 0, none⟩) 2 (strL [hexB x, hexB y]) := by
  rw [digs16 x hx, digs16 y hy] at hn
  refine bytesIn_of rfl (.inr ⟨b, 0, rfl, fun j v hv => ?_⟩)
  rw [cell_of_heap hn.heap, Nat.zero_add]
  rw [show (#[.int .u8 ((hexB x).toNat : Int), .int .u8 ((hexB y).toNat : Int)] : Array Value) = [Value.int .u8 ((hexB x).toNat : Int), .int .u8 ((hexB y).toNat : Int)].toArray from rfl, List.getElem?_toArray]
  exact hv
theorem bad_is (b : Nat) : (ByteArray.mk #[60] ++ strL [hexB (b / 16), hexB (b % 16)]) ++ ByteArray.mk #[62] = badS b := by
  show (strL [60] ++ strL _) ++ strL [62] = _
  rw [strL_app, strL_app]; rfl
theorem bad_sz (x y : UInt8) : (ByteArray.mk #[60]).size + (strL [x, y]).size ≤ 9223372036854775807 ∧ (ByteArray.mk #[60] ++ strL [x, y]).size + (ByteArray.mk #[62]).size ≤ 9223372036854775807 := by
  refine ⟨by rw [strL_size]; show (1 + 2 : Nat) ≤ _; decide, ?_⟩
  rw [ByteArray.size_append, strL_size]; show (1 + 2 + 1 : Nat) ≤ _; decide
theorem mark_is : runesBytes [9676] = ⟨#[226, 151, 140]⟩ := by decide +kernel
end Go.Proofs.YtjdohhididpomaaDoor
end

section
namespace Go.Proofs.YtjdohhididpomaaDoor
open Go Go.RowKit Vc Ut Tb Cl
theorem and15b : ∀ x : Fin 256, IntKind.u8.wrap (↑(BitVec.ofInt IntKind.u8.bits (x.val : Int) &&& BitVec.ofInt IntKind.u8.bits (15 : Int)).toNat : Int) = ((x.val % 16 : Nat) : Int) := by decide +kernel
theorem shr4b (m : Nat) : ((m : Nat) : Int).fdiv ((2 : Int) ^ min (Int.toNat (4 : Int)) IntKind.u8.bits) = ((m / 16 : Nat) : Int) := by
  show (m : Int).fdiv 16 = _
  rw [Int.fdiv_eq_ediv_of_nonneg _ (by decide)]
  rfl
theorem first_own {s : ByteArray} (h : 0 < s.size) : ncl (s.extract 0 (bp s 1)) = 1 ∧ (s.extract 0 (bp s 1)).size = bp s 1 ∧ 0 < bp s 1 ∧ ∀ col l, textC s col l = oneC (s.extract 0 (bp s 1)) col l := by
  have h0 : 0 < ncl s := Nat.pos_of_ne_zero fun e => by rw [ncl_zero] at e; omega
  refine ⟨ncl_take h0, by rw [size_ext (bp_le s 1)]; omega, Nat.lt_of_le_of_lt (Nat.zero_le _) (bp_strict (s := s) (i := 0) (j := 1) (by decide) h0), fun col l => ?_⟩
  unfold textC
  rw [if_neg (by omega)]; rfl
theorem next0 (s : ByteArray) (h : s.size = 0) : bp s 1 = 0 := by have := bp_le s 1; omega
theorem bad_next {k : ByteArray} (h : 0 < k.size) : (nxR k == 65533 && ((nxN k : Nat) : Int) == 1) = isBad k 0 := by
  unfold nxR nxN isBad
  rw [if_neg (by omega), if_neg (by omega), show pos k 0 = 0 from rfl]
  rw [Bool.eq_iff_iff, Bool.and_eq_true, beq_iff_eq, beq_iff_eq, decide_eq_true_eq]
  omega
theorem textp_ok : sTextC.Ok Tryd.prog 31 := by
  refine textP_vc ⟨cnext_ok, next_ok, onep_ok, trivial⟩ ?_
  rintro ⟨s, col, l⟩ w ⟨hU, hD, hsz⟩ b w1 hn
  dsimp only at hU hD hsz ⊢
  obtain ⟨c0, c1, c2, c3, c4⟩ := look_at (l := l) hn.heap
  have hE : Ext w w1 := hn.ext
  refine ⟨s, rfl, ⟨hU.ext hE, hsz⟩, ?_⟩
  rintro x w2 ⟨hx, e2⟩
  have hx : x = bp s 1 := hx
  subst hx
  have hle := bp_le s 1
  refine ⟨bp s 1, rfl, Nat.zero_le _, hle, ?_⟩
  rw [str_nil]
  refine bcase_mk (fun h => ?_) (fun h => ?_)
  · have h : s.size = 0 := by
      have h := of_decide_eq_true h
      rw [size_ext hle] at h
      rcases Nat.eq_zero_or_pos s.size with h' | h'
      · exact h'
      · obtain ⟨_, _, h3, _⟩ := first_own h'; omega
    exact ⟨(⟨#[]⟩, 0), rfl, by unfold textC; rw [if_pos h], Ext.trans hE e2⟩
  have hs : 0 < s.size := by
    have h := of_decide_eq_false h
    rw [size_ext hle] at h
    omega
  obtain ⟨g1, g2, g3, g4⟩ := first_own hs
  rw [g4]
  have e12 := Ext.trans hE e2
  refine ⟨s.extract 0 (bp s 1), rfl, ⟨hU.ext e12, by omega⟩, ?_⟩
  rintro ⟨xr, xn⟩ w3 ⟨hr, hnn, e3⟩
  dsimp only at hr hnn ⊢
  rw [hr, hnn, bad_next (by omega)]
  generalize hbb : isBad (s.extract 0 (bp s 1)) 0 = bb
  have e13 := Ext.trans e12 e3
  refine bcase_mk (fun hb => ?_) (fun hb => ?_)
  · rw [hb] at hbb
    intro w4 hd4
    have hbl := bt_lt (s.extract 0 (bp s 1)) 0
    have hq : bt (s.extract 0 (bp s 1)) 0 / 16 < 16 := by omega
    have hm : bt (s.extract 0 (bp s 1)) 0 % 16 < 16 := by omega
    refine ⟨0, rfl, by omega, bt (s.extract 0 (bp s 1)) 0 / 16, ?_, hq, 0, rfl, by omega, bt (s.extract 0 (bp s 1)) 0 % 16, ?_, hm, ?_⟩
    · show ((bt (s.extract 0 (bp s 1)) 0 : Nat) : Int).fdiv _ = _
      exact shr4b _
    · have e := and15b ⟨bt (s.extract 0 (bp s 1)) 0, hbl⟩
      dsimp only at e
      rw [← e]; rfl
    intro b4 w5 hn5
    exact ⟨_, two_hex hq hm hn5, (bad_sz _ _).1, (bad_sz _ _).2, (badS (bt (s.extract 0 (bp s 1)) 0), 4), by rw [bad_is]; rfl, (oneC_bad hbb).symm, Ext.trans e13 (Ext.trans hd4.ext hn5.ext)⟩
  · rw [hb] at hbb
    have hcl := cnt_le (s.extract 0 (bp s 1))
    refine ⟨by rw [runesV_len]; omega, fun c b4 w4 hn4 => ?_⟩
    have hm := newRunes_made hn4
    have e4 : Ext w3 w4 := hm.ext
    have e24 := Ext.trans e2 (Ext.trans e3 e4)
    refine ⟨l.tab, e24.cell c0, l.wide, e24.cell c1, l.want, e24.cell c2, l.join, e24.cell c3, l.raw, e24.cell c4, ⟨s.extract 0 (bp s 1), col, l, some ⟨b4, 0, none⟩, c⟩, by rw [runesV_len], ⟨hD.ext (Ext.trans hE e24), by dsimp only; omega, g1, hbb, ?_, hm.row.cells⟩, ?_⟩
    · have := hn4.1
      rw [runesV_len] at this
      exact this
    · rintro y w5 ⟨hy, e5⟩
      exact ⟨y, rfl, hy, Ext.trans hE (Ext.trans e24 e5)⟩
end Go.Proofs.YtjdohhididpomaaDoor
end

section
set_option linter.unusedVariables false
namespace Go.Proofs.YtjdohhididpomaaDoor
open Go Go.RowKit Vc Ut Tb Cl
set_option maxRecDepth 1000000 in
theorem valid_vc (hsp : SpecsOk Tryd.prog spValid) (h : ∀ (g : ByteArray) (w : World), U8 w ∧ g.size ≤ 67108864 → ∃ (g1 : ByteArray), #[Value.string g] = #[Value.string g1] ∧ (U8 w ∧ g1.size ≤ 67108864) ∧ ∀ (x : Bool) (w' : World), x = validB g1 ∧ Ext w w' → ∃ (x1 : Bool), Value.bool x = Value.bool x1 ∧ x1 = validB g ∧ Ext w w') :
    ((sTest validB)).Ok Tryd.prog 29 :=
  ok_of_vc (sTest validB) (annOf spValid) spValid (fun _ _ => rfl) (fun _ _ => rfl) hsp Tryd.func29 rfl (n := 1) (fun _ => rfl) (by kernel_rfl) (vcast (by kernel_rfl) h)
set_option maxRecDepth 1000000 in
theorem fullB_vc (hsp : SpecsOk Tryd.prog []) (h : ∀ (g : GBy) (w : World), U8 w ∧ CellsAt w g.ad (bytesV g.s) → bcase ((↑g.s.size : Int) == (0 : Int)) (∃ (x : Bool), Value.bool false = Value.bool x ∧ x = wholeB g.s ∧ Ext w w) (∃ (k : Nat), (0 : Int) = (↑k : Int) ∧ k < g.s.size ∧ ptrE g.ad fun (b o : Nat) => ∃ (n : Int), w.cell? ⟨b, o + k, none⟩ = some (Value.int .u8 n) ∧ ∃ (k1 : Nat), n = (↑k1 : Int) ∧ k1 < 256 ∧ ∃ (n1 : Int), w.cell? ⟨(0 : Nat), (0 : Nat) + k1, none⟩ = some (Value.int .u8 n1) ∧ InR IntKind.i64 (IntKind.u8.wrap (↑(BitVec.ofInt IntKind.u8.bits n1 &&& BitVec.ofInt IntKind.u8.bits (7 : Int)).toNat : Int)) ∧ bcase (decide ((↑g.s.size : Int) ≥ IntKind.u8.wrap (↑(BitVec.ofInt IntKind.u8.bits n1 &&& BitVec.ofInt IntKind.u8.bits (7 : Int)).toNat : Int))) (∃ (x : Bool), Value.bool true = Value.bool x ∧ x = wholeB g.s ∧ Ext w w) (∃ (k2 : Nat), n1.fdiv ((2 : Int) ^ min (Int.toNat (4 : Int)) IntKind.u8.bits) = (↑k2 : Int) ∧ k2 < 16 ∧ ∃ (n2 : Int), w.cell? ⟨(1 : Nat), (0 : Nat) + k2 * 2, none⟩ = some (Value.int .u8 n2) ∧ ∃ (n3 : Int), w.cell? ⟨(1 : Nat), (0 : Nat) + k2 * 2 + 1, none⟩ = some (Value.int .u8 n3) ∧ ∀ (b1 : Nat) (w1 : World), New w (Obj.cells #[Value.int .u8 n2, Value.int .u8 n3] (91 : Nat)) b1 w1 → ∀ (w11 : World), Drew w1 w11 → bcase (decide ((↑g.s.size : Int) > (1 : Int))) (∃ (k3 : Nat), (1 : Int) = (↑k3 : Int) ∧ k3 < g.s.size ∧ ptrE g.ad fun (b2 o1 : Nat) => ∃ (n4 : Int), w1.cell? ⟨b2, o1 + k3, none⟩ = some (Value.int .u8 n4) ∧ ∃ (n5 : Int), w1.cell? ⟨b1, 0, none⟩ = some (Value.int .u8 n5) ∧ bcase (decide (n4 < n5)) (∃ (x : Bool), Value.bool true = Value.bool x ∧ x = wholeB g.s ∧ Ext w w11) (∃ (n6 : Int), w1.cell? ⟨b1, 1, none⟩ = some (Value.int .u8 n6) ∧ ∃ (k4 : Nat), (1 : Int) = (↑k4 : Int) ∧ k4 < g.s.size ∧ ptrE g.ad fun (b3 o2 : Nat) => ∃ (n7 : Int), w1.cell? ⟨b3, o2 + k4, none⟩ = some (Value.int .u8 n7) ∧ bcase (decide (n6 < n7)) (∃ (x : Bool), Value.bool true = Value.bool x ∧ x = wholeB g.s ∧ Ext w w11) (bcase (decide ((↑g.s.size : Int) > (2 : Int))) (∃ (k5 : Nat), (2 : Int) = (↑k5 : Int) ∧ k5 < g.s.size ∧ ptrE g.ad fun (b4 o3 : Nat) => ∃ (n8 : Int), w11.cell? ⟨b4, o3 + k5, none⟩ = some (Value.int .u8 n8) ∧ bcase (decide (n8 < (128 : Int))) (∃ (x : Bool), Value.bool true = Value.bool x ∧ x = wholeB g.s ∧ Ext w w11) (∃ (k6 : Nat), (2 : Int) = (↑k6 : Int) ∧ k6 < g.s.size ∧ ptrE g.ad fun (b5 o4 : Nat) => ∃ (n9 : Int), w11.cell? ⟨b5, o4 + k6, none⟩ = some (Value.int .u8 n9) ∧ bcase (decide ((191 : Int) < n9)) (∃ (x : Bool), Value.bool true = Value.bool x ∧ x = wholeB g.s ∧ Ext w w11) (∃ (x : Bool), Value.bool false = Value.bool x ∧ x = wholeB g.s ∧ Ext w w11))) (∃ (x : Bool), Value.bool false = Value.bool x ∧ x = wholeB g.s ∧ Ext w w11)))) (bcase (decide ((↑g.s.size : Int) > (2 : Int))) (∃ (k3 : Nat), (2 : Int) = (↑k3 : Int) ∧ k3 < g.s.size ∧ ptrE g.ad fun (b2 o1 : Nat) => ∃ (n4 : Int), w11.cell? ⟨b2, o1 + k3, none⟩ = some (Value.int .u8 n4) ∧
 bcase (decide (n4 < (128 : Int))) (∃ (x : Bool), Value.bool true = Value.bool x ∧ x = wholeB g.s ∧ Ext w w11) (∃ (k4 : Nat), (2 : Int) = (↑k4 : Int) ∧ k4 < g.s.size ∧ ptrE g.ad fun (b3 o2 : Nat) => ∃ (n5 : Int), w11.cell? ⟨b3, o2 + k4, none⟩ = some (Value.int .u8 n5) ∧ bcase (decide ((191 : Int) < n5)) (∃ (x : Bool), Value.bool true = Value.bool x ∧ x = wholeB g.s ∧ Ext w w11) (∃ (x : Bool), Value.bool false = Value.bool x ∧ x = wholeB g.s ∧ Ext w w11))) (∃ (x : Bool), Value.bool false = Value.bool x ∧ x = wholeB g.s ∧ Ext w w11))))) :
    (sFullB).Ok Tryd.prog 34 :=
  ok_of_vc sFullB (annOf []) [] (fun _ _ => rfl) (fun _ _ => rfl) hsp Tryd.func34 rfl (n := 1) (fun _ => rfl) (by kernel_rfl) (vcast (by kernel_rfl) h)
set_option maxRecDepth 1000000 in
theorem feed_vc (hsp : SpecsOk Tryd.prog spFeed) (h : ∀ (g : GRd) (w : World), U8 w ∧ RdIn w g.rb g.ha g.hc g.h ∧ CellsAt w g.ad (bytesV g.b) ∧ g.h.size ≤ 67108864 ∧ g.b.size ≤ 67108864 → ∀ (w1 : World), Drew w w1 → ∃ (a2 : Option Addr) (n : Nat) (c : Nat), w.cell? ⟨g.rb, 0, none⟩ = some (Value.slice a2 n c) ∧ ∃ (a3 : Option Addr) (n1 : Nat) (c1 : Nat), w.cell? ⟨g.rb, 0, none⟩ = some (Value.slice a3 n1 c1) ∧ ∃ (a4 : Option Addr) (n2 : Nat) (c2 : Nat), w.cell? ⟨g.rb, 0, none⟩ = some (Value.slice a4 n2 c2) ∧ ∃ (mn : Nat) (hn : Nat), (↑n2 : Int) = (↑mn : Int) ∧ (↑n1 : Int) = (↑hn : Int) ∧ hn ≤ mn ∧ mn ≤ c ∧ ∃ (a' : Option Addr) (c' : Nat) (w' : World), AppRun Tryd.prog #[(30 : Nat), (30 : Nat)] (30 : Nat) (Value.slice a2 hn mn) (Value.slice g.ad g.b.size g.c) w1 a' (hn + g.b.size) c' w' ∧ KO w1 w' ∧ (∃ (x : Nat × (Option Addr × Nat) × Option Addr × Nat), Value.slice a' (hn + g.b.size) c' = Value.slice x.snd.fst.fst ((g.h ++ g.b).size - pos (g.h ++ g.b) x.fst) x.snd.fst.snd ∧ Value.slice none (0 : Nat) (0 : Nat) = Value.slice x.snd.snd.fst x.fst x.snd.snd.snd ∧ x.fst ≤ cnt (g.h ++ g.b) ∧ (∀ (j : Nat), j < x.fst → wholeB ((g.h ++ g.b).extract (pos (g.h ++ g.b) j) (g.h ++ g.b).size) = true) ∧ CellsAt w' x.snd.fst.fst (bytesV ((g.h ++ g.b).extract (pos (g.h ++ g.b) x.fst) (g.h ++ g.b).size)) ∧ (g.h ++ g.b).size - pos (g.h ++ g.b) x.fst ≤ x.snd.fst.snd ∧ Made w' w' (21 : TypeId) (1 : Nat) x.snd.snd.fst x.fst (List.map (Value.int IntKind.i32) (List.take x.fst (runes (g.h ++ g.b)))) x.snd.snd.snd) ∧ ∀ (u : Nat → Value) (x : Nat × (Option Addr × Nat) × Option Addr × Nat) (w'1 : World), x.fst ≤ cnt (g.h ++ g.b) ∧ (∀ (j : Nat), j < x.fst → wholeB ((g.h ++ g.b).extract (pos (g.h ++ g.b) j) (g.h ++ g.b).size) = true) ∧ CellsAt w' x.snd.fst.fst (bytesV ((g.h ++ g.b).extract (pos (g.h ++ g.b) x.fst) (g.h ++ g.b).size)) ∧ (g.h ++ g.b).size - pos (g.h ++ g.b) x.fst ≤ x.snd.fst.snd ∧ Made w' w'1 (21 : TypeId) (1 : Nat) x.snd.snd.fst x.fst (List.map (Value.int IntKind.i32) (List.take x.fst (runes (g.h ++ g.b)))) x.snd.snd.snd → bcase (decide ((↑((g.h ++ g.b).size - pos (g.h ++ g.b) x.fst) : Int) > (0 : Int))) (∃ (g1 : GBy), #[Value.slice x.snd.fst.fst ((g.h ++ g.b).size - pos (g.h ++ g.b) x.fst) x.snd.fst.snd] = #[Value.slice g1.ad g1.s.size g1.c] ∧ (U8 w'1 ∧ CellsAt w'1 g1.ad (bytesV g1.s)) ∧ ∀ (x1 : Bool) (w'2 : World), x1 = wholeB g1.s ∧ Ext w'1 w'2 → bcase x1 (∃ (g2 : GBy), #[Value.slice x.snd.fst.fst ((g.h ++ g.b).size - pos (g.h ++ g.b) x.fst) x.snd.fst.snd] = #[Value.slice g2.ad g2.s.size g2.c] ∧ (U8 w'2 ∧ CellsAt w'2 g2.ad (bytesV g2.s) ∧ (0 : Nat) < g2.s.size) ∧ ∀ (x2 : Int × Nat) (w'3 : World), x2.fst = nxR g2.s ∧ x2.snd = nxN g2.s ∧ Ext w'2 w'3 → ∀ (b : Nat) (w11 : World), New w'3 (Obj.cells #[Value.int .i32 x2.fst] (21 : Nat)) b w11 → ∃ (a'1 : Option Addr) (c'1 : Nat) (w'4 : World), AppRun Tryd.prog #[(67 : Nat), (67 : Nat)] (67 : Nat) (Value.slice x.snd.snd.fst x.fst x.snd.snd.snd)
 (Value.slice (some ⟨b, 0, none⟩) (1 : Nat) (1 : Nat)) w11 a'1 (x.fst + 1) c'1 w'4 ∧ KO w11 w'4 ∧ ∃ (ln : Nat), (↑x2.snd : Int) = (↑ln : Int) ∧ ln ≤ (g.h ++ g.b).size - pos (g.h ++ g.b) x.fst ∧ ∀ (ad' : Option Addr), SlAt x.snd.fst.fst ad' x.snd.fst.snd ln (1 : Nat) → ∃ (y : Nat × (Option Addr × Nat) × Option Addr × Nat), Value.slice ad' ((g.h ++ g.b).size - pos (g.h ++ g.b) x.fst - ln) (x.snd.fst.snd - ln) = Value.slice y.snd.fst.fst ((g.h ++ g.b).size - pos (g.h ++ g.b) y.fst) y.snd.fst.snd ∧ Value.slice a'1 (x.fst + 1) c'1 = Value.slice y.snd.snd.fst y.fst y.snd.snd.snd ∧ (y.fst ≤ cnt (g.h ++ g.b) ∧ (∀ (j : Nat), j < y.fst → wholeB ((g.h ++ g.b).extract (pos (g.h ++ g.b) j) (g.h ++ g.b).size) = true) ∧ CellsAt w' y.snd.fst.fst (bytesV ((g.h ++ g.b).extract (pos (g.h ++ g.b) y.fst) (g.h ++ g.b).size)) ∧ (g.h ++ g.b).size - pos (g.h ++ g.b) y.fst ≤ y.snd.fst.snd ∧ Made w' w'4 (21 : TypeId) (1 : Nat) y.snd.snd.fst y.fst (List.map (Value.int IntKind.i32) (List.take y.fst (runes (g.h ++ g.b)))) y.snd.snd.snd) ∧ cnt (g.h ++ g.b) - y.fst < cnt (g.h ++ g.b) - x.fst) (∃ (a'1 : Option Addr) (c'1 : Nat) (w'3 : World), AppRun Tryd.prog #[(30 : Nat), (30 : Nat)] (30 : Nat) (Value.slice none (0 : Nat) (0 : Nat)) (Value.slice x.snd.fst.fst ((g.h ++ g.b).size - pos (g.h ++ g.b) x.fst) x.snd.fst.snd) w'2 a'1 ((0 : Nat) + ((g.h ++ g.b).size - pos (g.h ++ g.b) x.fst)) c'1 w'3 ∧ KO w'2 w'3 ∧ true = true ∧ (∃ (old : Value), w'3.cell? ⟨g.rb, 0, none⟩ = some old) ∧ w'3.frozen? ⟨g.rb, 0, none⟩ = false ∧ ∀ (w11 : World), Stored w'3 ⟨g.rb, 0, none⟩ (Value.slice a'1 ((0 : Nat) + ((g.h ++ g.b).size - pos (g.h ++ g.b) x.fst)) c'1) w11 → ∃ (x2 : (Option Addr × Nat × Nat) × Option Addr × Nat), Value.slice x.snd.snd.fst x.fst x.snd.snd.snd = Value.slice x2.fst.fst x2.fst.snd.fst x2.fst.snd.snd ∧ x2.fst.snd.fst = (fdR (g.h ++ g.b)).length ∧ NewRow w w11 (21 : TypeId) x2.fst.fst x2.fst.snd.fst (List.map (Value.int IntKind.i32) (fdR (g.h ++ g.b))) x2.fst.snd.snd ∧ RdIn w11 g.rb x2.snd.fst x2.snd.snd (fdH (g.h ++ g.b)) ∧ (∀ (q : Nat), blk x2.snd.fst = some q → w.heap.size ≤ q) ∧ (∀ (q : Nat), blk x2.fst.fst = some q → blk x2.snd.fst ≠ some q) ∧ Fr (fun (q : Nat) => q = g.rb) w w11)) (∃ (a'1 : Option Addr) (c'1 : Nat) (w'2 : World), AppRun Tryd.prog #[(30 : Nat), (30 : Nat)] (30 : Nat) (Value.slice none (0 : Nat) (0 : Nat)) (Value.slice x.snd.fst.fst ((g.h ++ g.b).size - pos (g.h ++ g.b) x.fst) x.snd.fst.snd) w'1 a'1 ((0 : Nat) + ((g.h ++ g.b).size - pos (g.h ++ g.b) x.fst)) c'1 w'2 ∧ KO w'1 w'2 ∧ true = true ∧ (∃ (old : Value), w'2.cell? ⟨g.rb, 0, none⟩ = some old) ∧ w'2.frozen? ⟨g.rb, 0, none⟩ = false ∧ ∀ (w11 : World), Stored w'2 ⟨g.rb, 0, none⟩ (Value.slice a'1 ((0 : Nat) + ((g.h ++ g.b).size - pos (g.h ++ g.b) x.fst)) c'1) w11 → ∃ (x1 : (Option Addr × Nat × Nat) × Option Addr × Nat), Value.slice x.snd.snd.fst x.fst x.snd.snd.snd = Value.slice x1.fst.fst x1.fst.snd.fst x1.fst.snd.snd ∧ x1.fst.snd.fst = (fdR (g.h ++ g.b)).length ∧
 NewRow w w11 (21 : TypeId) x1.fst.fst x1.fst.snd.fst (List.map (Value.int IntKind.i32) (fdR (g.h ++ g.b))) x1.fst.snd.snd ∧ RdIn w11 g.rb x1.snd.fst x1.snd.snd (fdH (g.h ++ g.b)) ∧ (∀ (q : Nat), blk x1.snd.fst = some q → w.heap.size ≤ q) ∧ (∀ (q : Nat), blk x1.fst.fst = some q → blk x1.snd.fst ≠ some q) ∧ Fr (fun (q : Nat) => q = g.rb) w w11)) :
    (sFeed).Ok Tryd.prog 27 :=
  ok_of_vc sFeed annFeed spFeed (fun _ _ => rfl) (fun _ _ => rfl) hsp Tryd.func27 rfl (n := 2) (fun _ => rfl) (by kernel_rfl) (vcast (by kernel_rfl) h)
set_option maxRecDepth 1000000 in
theorem new_vc (hsp : SpecsOk Tryd.prog []) (h : ∀ (g : Unit) (w : World), True → ∀ (b : Nat) (w1 : World), New w (Obj.cells #[Value.slice none (0 : Nat) (0 : Nat)] (82 : Nat)) b w1 → ∃ (x : Nat), Value.pointer (some ⟨b, 0, none⟩) = Value.pointer (some ⟨x, 0, none⟩) ∧ x = w.heap.size ∧ RdIn w1 x none (0 : Nat) (ByteArray.mk #[]) ∧ Ext w w1) :
    (sNew).Ok Tryd.prog 26 :=
  ok_of_vc sNew (annOf []) [] (fun _ _ => rfl) (fun _ _ => rfl) hsp Tryd.func26 rfl (n := 0) (fun _ => rfl) (by kernel_rfl) (vcast (by kernel_rfl) h)
end Go.Proofs.YtjdohhididpomaaDoor
end

section
namespace Go.Proofs.YtjdohhididpomaaDoor.Vc
open Go Go.RowKit
theorem app_cells {P : Program} {w : World} {t ty e : TypeId} {bytes : Nat} (hE : ElemOk P t e 1 bytes) {ad sa : Option Addr} {n m cx : Nat} {vs news : List Value} (h : CellsAt w ad vs) (hv : vs.length = n) (hc : CellsAt w sa news) (hl : news.length = m)
    (h1 : ∀ u ∈ news, u.oneCell' = true) (h63 : n + m ≤ maxLen) (hb : (n + m) * bytes ≤ 140737488355328) :
    ∃ a' c' w2, AppRun P #[t, t] ty (.slice ad n n) (.slice sa m cx) w a' (n + m) c' w2 ∧ KO w w2 ∧ Ext w w2 ∧ CellsAt w2 a' (vs ++ news) ∧ n + m ≤ c' := by
  obtain ⟨i, z, hi, hz, hsize, hby, hzs⟩ := hE.info
  have ht := hE.und
  subst hby
  by_cases hm : m = 0
  · subst hm
    have hn : news = [] := List.eq_nil_of_length_eq_zero hl
    subst hn
    refine ⟨ad, n, w, ?_, KOE.refl _ _, Ext.refl _, by simpa using h, Nat.le_refl _⟩
    have hfc : (Builtin.firstCells 1 0 (.slice sa 0 cx)).run P w = .ok #[] w := by
      cases sa with
      | none => rfl
      | some a => simp [Builtin.firstCells, loadCells, loadCellsFrom]
    unfold AppRun
    cases ad with
    | none => simp [Builtin.append_, run_underlying ht, sizeOf, typeInfo, hi, hsize, Builtin.lenOf, hfc]
    | some a => simp [Builtin.append_, run_underlying ht, sizeOf, typeInfo, hi, hsize, Builtin.lenOf, hfc, storeCells]
  · obtain ⟨b, o, rfl, hc2⟩ : ∃ b o, sa = some ⟨b, o, none⟩ ∧ ∀ (j : Nat) v, news[j]? = some v → w.cell? ((⟨b, o, none⟩ : Addr).add j) = some v := by
      rcases hc with hn | ⟨b, o, h1, h2⟩
      · subst hn; simp at hl; omega
      · exact ⟨b, o, h1, fun j v hv => by rw [add_lit]; exact h2 j v hv⟩
    have hsmall : n + m ≤ 9223372036854775807 := by simp only [maxLen] at h63; omega
    have hlen : (vs ++ news).length = n + m := by rw [List.length_append, hv, hl]
    have hext : ∀ (o : Obj), Ext w (w.drew.alloc o) := fun o => (Below.drew (Below.refl _ w)).alloc (by simp) o
    have hko : ∀ (o : Obj), KO w (w.drew.alloc o) := fun o => KO.below (hext o) (Nat.le_refl _)
    have cells : ∀ (zs : Array Value), CellsAt (w.drew.alloc (.cells ((vs ++ news).toArray ++ zs) e)) (some ⟨w.heap.size, 0, none⟩) (vs ++ news) := fun zs =>
      .inr ⟨w.heap.size, 0, rfl, fun j v hj => by
        have hg : (w.drew.alloc (.cells ((vs ++ news).toArray ++ zs) e)).heap[w.heap.size]? = some (.cells ((vs ++ news).toArray ++ zs) e) := heap_alloc_new w.drew _
        rw [Nat.zero_add, cell_of_heap hg]
        have hlt := (List.getElem?_eq_some_iff.1 hj).1
        rw [Array.getElem?_append_left (by simpa using hlt)]
        simpa using hj⟩
    cases ad with
    | none =>
      have hv0 : vs = [] := by
        rcases h with h | ⟨b', o', h1, _⟩
        · exact h
        · cases h1
      subst hv0
      simp only [List.length_nil] at hv
      subst hv
      have hr := run_append_nil (P := P) w t ty e i z ht hi hz ⟨b, o, none⟩ m cx news (by rw [hsize]; omega) hc2 (by omega) (by omega) (by simp only [Nat.zero_add] at hb; omega)
      have hge := grownCap_ge w m 0 e
      refine ⟨_, _, _, ?_, hko _, hext _, cells (Builtin.zeroCells z.cells (grownCap w m 0 e - m)), by simpa using hge⟩
      unfold AppRun
      simpa using hr
    | some a =>
      have holds : ∀ (j : Nat) u, vs[j]? = some u → w.cell? (a.add j) = some u := by
        intro j u hu
        rcases h with h0 | ⟨b', o', e1, e2⟩
        · subst h0; simp at hu
        · cases e1; rw [add_lit]; exact e2 j u hu
      have hr := run_append_grow (P := P) w t ty e i z ht hi hz a n n vs (by rw [hsize]; omega) holds ⟨b, o, none⟩ m cx news (by rw [hsize]; omega) hc2 (by omega) (by omega) (growslice_fits (by omega) (by omega))
      have hge := grownCap_ge w (n + m) n e
      have e1 : vs.toArray ++ news.toArray = (vs ++ news).toArray := by simp
      rw [e1] at hr
      exact ⟨_, _, _, hr, hko _, hext _, cells _, hge⟩
end Go.Proofs.YtjdohhididpomaaDoor.Vc
end
