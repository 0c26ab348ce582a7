/-
  Chapter 3: the laws' own helpers.
-/
import Derived.Test.YtniiamobbgnjaaaDoorVgL
import Derived.Test.YtniiamobbgnjaaaDoorWkI
set_option linter.unusedVariables false
set_option linter.unusedSimpArgs false
namespace Go.Proofs.YtniiamobbgnjaaaDoor
open Go Go.RowKit Vc Ut Tb Cl Orb

theorem elemP : ElemOk Tryd.prog 35 38 2 24 := elemOk_mk (.agg #[.int .i64 0, .string ⟨#[]⟩]) (by kernel_rfl) (by kernel_rfl) rfl
theorem Row.offS {W : World} {e t : TypeId} {n c q s : Nat} {a : Option Addr} {vs : List Value} {cs : Array Value} (h : Row W e s a n vs c) (hq : W.heap[q]? = some (.cells cs t)) (hne : t ≠ e) : blk a ≠ some q := by
  intro he
  rcases h.2 with ⟨rfl, _⟩ | ⟨g, cur, rfl, h1, _⟩
  · cases he
  · cases he
    rw [hq] at h1
    simp only [Option.some.injEq, Obj.cells.injEq] at h1
    exact hne h1.2.1
theorem GrowS.keep {W W' : World} {box s n : Nat} {t e : TypeId} {a : Option Addr} {c : Nat} {vs : List Value} (h : GrowS W box t e s n a c vs) (hk : ∀ q, q = box ∨ blk a = some q → W'.heap[q]? = W.heap[q]?) : GrowS W' box t e s n a c vs :=
  ⟨(hk box (.inl rfl)).trans h.hb, h.row.keep fun g hg => hk g (.inr hg)⟩
/-- v = append(v, x) -/
theorem GrowS.push {P : Program} {W w1 : World} {box b s n : Nat} {t tt ty e : TypeId} {bytes c : Nat} {a : Option Addr} {vs news : List Value} (hE : ElemOk P tt e s bytes) (hs0 : 0 < s) (h : GrowS W box t e s n a c vs) (hne : t ≠ e) (hn : New W (.cells news.toArray e) b w1) (hl : news.length = 1 * s)
    (hv : ∀ u ∈ news, u.oneCell' = true) (h63 : n + 1 ≤ maxLen) (hb : (n + 1) * bytes ≤ 140737488355328) :
    ∃ a' c' w2, AppRun P #[tt, tt] ty (.slice a n c) (.slice (some ⟨b, 0, none⟩) 1 1) w1 a' (n + 1) c' w2 ∧ KO w1 w2 ∧ (∃ old, w2.cell? ⟨box, 0, none⟩ = some old) ∧ w2.frozen? ⟨box, 0, none⟩ = false ∧
      ∀ {w3 : World}, Stored w2 ⟨box, 0, none⟩ (.slice a' (n + 1) c') w3 → GrowS w3 box t e s (n + 1) a' c' (vs ++ news) ∧ Fr (fun q => q = box ∨ blk a = some q) W w3 ∧ (∀ q, blk a' = some q → blk a = some q ∨ W.heap.size ≤ q) := by
  obtain ⟨a', c', w2, hr, hko, hrow, hg, hor, _⟩ := h.row.pushN (P := P) (ty := ty) hE hs0 (m := 1) (news := news) hn hl hv h63 (.inr hb)
  have hb1 := hn.ext.heap h.hb
  have hoff := Row.offS h.row h.hb hne
  have hb2 : w2.heap[box]? = some (.cells #[.slice a n c] t) := (hg.block box (heap_lt hb1) (fun e => hoff e.symm)).trans hb1
  refine ⟨a', c', w2, hr, hko, box_old hb2, box_free hb2, fun {w3} hs => ?_⟩
  have hoff' : ∀ q, blk a' = some q → blk a = some q ∨ W.heap.size ≤ q := by
    intro q hq
    rcases hor with rfl | ⟨rfl, _⟩
    · exact .inl hq
    · simp [blk] at hq; subst hq; exact .inr hn.ext.size
  have hne' : blk a' ≠ some box := fun he => by
    rcases hoff' box he with h1 | h1
    · exact hoff h1
    · have := heap_lt h.hb; omega
  refine ⟨⟨hs.box hb2, hrow.keep fun g hg' => hs.other (by show g ≠ box; rintro rfl; exact hne' hg')⟩, ?_, hoff'⟩
  refine ((Fr.of_ext (S := fun q => q = box ∨ blk a = some q) hn.ext).trans (Fr.grown hg) (fun x _ hx => .inr hx)).trans (Fr.stored hs) (fun x _ hx => .inl hx)

theorem enc_one (p : Nat × ByteArray) : ∀ u ∈ encPc p, u.oneCell' = true := by
  intro u hu
  simp only [encPc, List.mem_cons, List.not_mem_nil, or_false] at hu
  rcases hu with rfl | rfl <;> rfl
theorem enc_at {l : List (Nat × ByteArray)} {i j : Nat} {p : Nat × ByteArray} (h : l[i]? = some p) (hj : j < 2) : (l.flatMap encPc)[i * 2 + j]? = (encPc p)[j]? := flat_at (f := encPc) (s := 2) (fun _ => rfl) h hj
theorem take_flat {l : List (Nat × ByteArray)} {k : Nat} {p : Nat × ByteArray} (h : l[k]? = some p) : (l.take (k + 1)).flatMap encPc = (l.take k).flatMap encPc ++ encPc p := by
  rw [List.take_add_one, h, List.flatMap_append]; simp

theorem pcs_ok : sPcs.Ok Tryd.prog 24 := by
  refine pcs_vc trivial ?_
  rintro g w ⟨hit, hC, hlen⟩ b w1 hn1
  have hb1 := hn1.size
  have e1 := hn1.ext
  dsimp only [ptrB]
  have hne : (35 : TypeId) ≠ 38 := by decide
  refine ⟨g.xs, g.C, (fun q => q = b ∨ blk none = some q), hit.later e1.size (fun q hq => e1.block q (hC q hq)), ⟨?_, ?_⟩, ⟨none, 0, rfl, (⟨hn1.heap, Row.nil _ _ _⟩ : GrowS w1 b _ _ 2 0 none 0 [])⟩, ?_, ?_, ?_, ?_, trivial⟩
  · rintro q (rfl | h)
    · exact heap_lt hn1.heap
    · cases h
  · intro q hq
    have := hC q hq
    refine ⟨by omega, ?_⟩
    rintro (h | h)
    · omega
    · cases h
  · rintro k D W W' ⟨a, c, rfl, hg⟩ hsz hq
    exact ⟨a, c, rfl, hg.keep fun q hq' => hq q (.inr hq')⟩
  · rintro _ k D W W' h hsz hq
    exact h
  · rintro k p D W hp ⟨a, c, rfl, hg⟩ hM
    have hkl : k < g.xs.length := (List.getElem?_eq_some_iff.1 hp).1
    refine ⟨a, _, c, box_cell hg.hb, fun b1 w4 hn4 => ?_⟩
    obtain ⟨a', c', w5, hr, hko, ho, hfz, hpost⟩ := hg.push (P := Tryd.prog) (tt := 35) (ty := 35) (news := encPc p) elemP (by decide) hne hn4 rfl (enc_one p) (by unfold maxLen; omega) (by omega)
    refine ⟨a', c', w5, hr, hko, rfl, ho, hfz, fun w6 hs6 => ?_⟩
    obtain ⟨hg6, hfr, hnew⟩ := hpost hs6
    refine ⟨_, ⟨hfr, ?_⟩, a', c', rfl, ?_⟩
    · rintro q (rfl | hq)
      · exact ⟨heap_lt hg6.hb, .inl (.inl rfl)⟩
      · exact ⟨hg6.row.lt hq, (hnew q hq).elim (fun h => .inl (.inr h)) .inr⟩
    · rw [take_flat hp]; exact hg6
  · rintro D W ⟨a, c, rfl, hg⟩ hM
    rw [lenX_eq, List.take_length] at hg
    refine ⟨a, _, c, box_cell hg.hb, fun w3 ht => ⟨(a, g.xs.length, c), rfl, rfl, ?_⟩⟩
    have eW : Ext w W := hM.ext e1 (fun q hq => by rcases hq with rfl | h; omega; cases h)
    refine ⟨hg.row.turn ht, fun q hq => ?_, Ext.turn eW ht⟩
    have := (hM.dom q (.inr hq)).2
    rcases this with (h | h) | h
    · omega
    · cases h
    · omega

theorem told_ok : sTold.Ok Tryd.prog 11 := by
  refine told_vc trivial ?_
  rintro ⟨⟨f, caps, xs, C⟩, want, a, c, back, leave⟩ w ⟨⟨hit, hC, hlen⟩, hc, hxs⟩ b0 w1 hn1 b1 w2 hn2 b2 w3 hn3 b3 w4 hn4 b4 w5 hn5
  dsimp only at hit hC hlen hc hxs ⊢
  have s1 := hn1.size; have s2 := hn2.size; have s3 := hn3.size; have s4 := hn4.size; have s5 := hn5.size
  obtain ⟨ho, hf, hst⟩ := new_box hn5
  refine ⟨rfl, ho, hf, fun w6 hs6 => ?_⟩
  obtain ⟨e46, hb6, _, hsz6⟩ := hst hs6
  have e06 := (((hn1.ext.trans hn2.ext).trans hn3.ext).trans hn4.ext).trans e46
  have h0 : w6.heap[b0]? = some (.cells #[.slice a want.length c] 23) := ((hn2.ext.trans hn3.ext).trans (hn4.ext.trans e46)).heap hn1.heap
  have h1 : w6.heap[b1]? = some (.cells #[.bool back] 4) := (hn3.ext.trans (hn4.ext.trans e46)).heap hn2.heap
  have h2 : w6.heap[b2]? = some (.cells #[.int .i64 leave] 3) := (hn4.ext.trans e46).heap hn3.heap
  have h3 := e46.heap hn4.heap
  have hit6 := hit.later e06.size (fun q hq => e06.block q (hC q hq))
  have hxl : xs.length = want.length := by rw [hxs]; split <;> simp
  dsimp only [ptrB]
  have nd : ∀ q, q < b4 → ¬ ones [b4] q := fun q hq h => by rw [ones_one] at h; omega
  have dom : ∀ {W : World}, w6.heap.size ≤ W.heap.size → DomOk W C (ones [b4]) := fun hW => ⟨fun q hq => by rw [ones_one] at hq; omega, fun q hq => ⟨by have := hC q hq; omega, nd q (by have := hC q hq; omega)⟩⟩
  refine ⟨?_, ?_⟩
  · refine ⟨xs, C, ones [b4], hit6, dom (Nat.le_refl _), ⟨rfl, hb6⟩, ?_, ?_, ?_, ?_, ?_⟩
    · rintro k D W W' ⟨rfl, ha⟩ hsz hq
      exact ⟨rfl, (hq b4 (.inr (ones_one.2 rfl))).trans ha⟩
    · rintro _ k D W W' ⟨rfl, v, ha⟩ hsz hq
      exact ⟨rfl, v, (hq b4 (.inr (ones_one.2 rfl))).trans ha⟩
    · rintro k p D W hp ⟨rfl, ha⟩ hM
      have hkl : k < xs.length := (List.getElem?_eq_some_iff.1 hp).1
      have h2W := (hM.old (heap_lt h2) (nd b2 (by omega))).trans h2
      refine ⟨_, box_cell ha, _, box_cell h2W, bcase_mk (fun _ => ⟨_, Step.refl hM.lt, rfl, _, ha⟩) (fun _ => ⟨_, box_cell ha, inr_i64 (by omega) (by omega), rfl, box_old ha, box_free ha, fun w7 hs7 => ⟨_, Step.stored hs7 (ones_one.2 rfl) hM.lt, rfl, ?_⟩⟩)⟩
      have := hs7.box ha
      simpa using this
    · rintro D W ⟨rfl, ha⟩ hM
      exact ⟨(), hM.fr, _, ha⟩
    · rintro D W ⟨rfl, v, ha⟩ hM
      exact ⟨(), hM.fr, v, ha⟩
  rintro _ _ w7 ⟨f7, v7, hb7⟩
  refine ⟨⟨0, rfl, by decide, Fr.refl _ _, v7, hb7⟩, ?_⟩
  rintro _ t w8 ⟨ht2, f78, v8, hb8⟩
  have f8 : Fr (ones [b4]) w6 w8 := f7.trans f78 (fun _ _ h => h)
  have s8 := f8.size
  refine bcase_mk (fun h => ?_) (fun h => ?_)
  · have htl : t < 2 := by have := of_decide_eq_true h; omega
    refine ⟨rfl, box_old hb8, box_free hb8, fun w9 hs9 => ?_⟩
    have f9 : Fr (ones [b4]) w6 w9 := f8.trans (Fr.stored hs9) (fun q _ h => ones_one.2 h)
    have hb9 := hs9.box hb8
    have s9 := f9.size
    have hit9 := hit6.later f9.size (fun q hq => f9.block q (by have := hC q hq; omega) (nd q (by have := hC q hq; omega)))
    refine ⟨xs, C, ones [b4], hit9, dom s9, ⟨rfl, hb9⟩, ?_, ?_, ?_, ?_, trivial⟩
    · rintro k D W W' ⟨rfl, ha⟩ hsz hq
      exact ⟨rfl, (hq b4 (.inr (ones_one.2 rfl))).trans ha⟩
    · rintro _ k D W W' h hsz hq
      exact h
    · rintro k p D W hp ⟨rfl, ha⟩ hM
      have hkl : k < xs.length := (List.getElem?_eq_some_iff.1 hp).1
      have fW : Fr (ones [b4]) w6 W := f9.trans hM.fr (fun _ _ h => h)
      have old : ∀ {q : Nat} {o : Obj}, w6.heap[q]? = some o → q < b4 → W.heap[q]? = some o := fun h hq => (fW.block _ (heap_lt h) (nd _ hq)).trans h
      have h0W := old h0 (by omega)
      have h1W := old h1 (by omega)
      have hcW : CellsAt W a (want.flatMap encPc) := hc.mid e06 fW (fun q hq => nd q (by omega))
      have rd : ∀ {i j : Nat} {v : Value} {K : Nat → Nat → Prop}, want[i]? = some p → j < 2 → (encPc p)[j]? = some v → (∀ b o, W.cell? ⟨b, o + i * 2 + j, none⟩ = some v → K b o) → ptrE a K := fun hi hj hv hK => hcW.fld (s := 2) (by rw [enc_at hi hj]; exact hv) hK
      have fin : ∃ n8 : Int, W.cell? ⟨b4, 0, none⟩ = some (.int .i64 n8) ∧ InR .i64 (n8 + 1) ∧ true = true ∧ (∃ old, W.cell? ⟨b4, 0, none⟩ = some old) ∧ W.frozen? ⟨b4, 0, none⟩ = false ∧ ∀ w17 : World, Stored W ⟨b4, 0, none⟩ (.int .i64 (n8 + 1)) w17 → ∃ D' : Nat → Prop, Step (ones [b4]) W w17 D' ∧ D' = ones [b4] ∧ w17.heap[b4]? = some (.cells #[.int .i64 ((k + 1 : Nat) : Int)] 3) := by
        refine ⟨_, box_cell ha, inr_i64 (by omega) (by omega), rfl, box_old ha, box_free ha, fun w7 hs7 => ⟨_, Step.stored hs7 (ones_one.2 rfl) hM.lt, rfl, ?_⟩⟩
        have := hs7.box ha
        simpa using this
      refine ⟨_, box_cell ha, _, _, _, box_cell h0W, bcase_mk (fun h => by have := of_decide_eq_true h; omega) (fun _ => ⟨_, box_cell ha, _, box_cell h1W, ?_⟩)⟩
      refine bcase_mk (fun hbk => ?_) (fun hbk => ?_)
      · have hbk : back = true := hbk
        have hwp : want[want.length - 1 - k]? = some p := by
          rw [hxs, if_pos hbk, List.getElem?_reverse (by omega)] at hp; exact hp
        refine ⟨_, _, _, box_cell h0W, inr_i64 (by omega) (by omega), _, box_cell ha, inr_i64 (by omega) (by omega), _, _, _, box_cell h0W, want.length - 1 - k, by omega, by omega, rd (j := 0) hwp (by decide) rfl fun b o hb => ⟨_, hb, bcase_mk (fun h => by simp at h) (fun _ => ⟨_, _, _, box_cell h0W, want.length - 1 - k, by omega, by omega, rd (j := 1) hwp (by decide) rfl fun b o hb => ⟨_, hb, bcase_mk (fun h => ?_) (fun _ => fin)⟩⟩)⟩⟩
        rw [str_eq] at h; simp at h
      · have hbk : back = false := hbk
        have hwp : want[k]? = some p := by
          rw [hxs, if_neg (by rw [hbk]; decide)] at hp; exact hp
        refine ⟨_, _, _, box_cell h0W, k, rfl, by omega, rd (j := 0) hwp (by decide) rfl fun b o hb => ⟨_, hb, bcase_mk (fun h => by simp at h) (fun _ => ⟨_, _, _, box_cell h0W, k, rfl, by omega, rd (j := 1) hwp (by decide) rfl fun b o hb => ⟨_, hb, bcase_mk (fun h => ?_) (fun _ => fin)⟩⟩)⟩⟩
        rw [str_eq] at h; simp at h
    · rintro D W ⟨rfl, ha⟩ hM
      rw [lenX_eq] at ha
      have fW : Fr (ones [b4]) w6 W := f9.trans hM.fr (fun _ _ h => h)
      have h0W := (fW.block _ (heap_lt h0) (nd _ (by omega))).trans h0
      refine ⟨_, box_cell ha, _, _, _, box_cell h0W, bcase_mk (fun h => by simp at h; omega) (fun _ => ⟨inr_i64 (by omega) (by omega), t + 1, by simp, ⟨by omega, ?_, _, ha⟩, by omega⟩)⟩
      exact (f78.trans (Fr.stored hs9) (fun q _ h => ones_one.2 h)).trans hM.fr (fun _ _ h => h)
  · have h38 := (f8.block _ (heap_lt h3) (nd _ (by omega))).trans h3
    refine ⟨rfl, box_old h38, box_free h38, fun w9 hs9 => ⟨_, box_cell (hs9.box h38), fun w10 htn => ⟨(), rfl, ?_⟩⟩⟩
    have e08 : Ext w w8 := Ext.fr_new e06 f8 (fun q hq => by rw [ones_one] at hq; omega)
    exact Ext.turn (e08.stored hs9 (by show _ ≤ b3; omega)) htn

theorem row_ok : sRow.Ok Tryd.prog 26 := by
  refine row_vc ⟨call_ok, pcs_ok, trivial⟩ ?_
  rintro ⟨s, want, a, c⟩ w ⟨hU, hsm, hc, hwl⟩
  dsimp only at hU hsm hc hwl ⊢
  have hncl := ncl_le s
  have hpl := pc_len s
  refine ⟨s, rfl, trivial, ?_⟩
  rintro x w1 ⟨hx, hxs, e1⟩
  have hU1 := hU.ext e1
  refine ⟨⟨47, #[.pointer (some ⟨x, 0, none⟩)], pcL s, cC x⟩, rfl, ⟨pc_iter hxs hU1 hsm, cC_lt (heap_lt hxs) hU1, by dsimp only; omega⟩, ?_⟩
  rintro ⟨pa, pn, pc⟩ w2 ⟨hpn, hm⟩
  dsimp only at hpn hm ⊢
  subst hpn
  have e2 := e1.trans hm.ext
  have hml : ((pcL s).map Prod.snd).length = ncl s := by rw [List.length_map, hpl]
  refine bcase_mk (fun h => ⟨false, rfl, ?_, e2⟩) (fun h => ?_)
  · have h : ncl s ≠ want.length := by rw [hpl] at h; simp only [bne_iff_ne, ne_eq] at h; omega
    unfold rowB
    rw [decide_eq_false]
    intro he
    rw [← he, hml] at h
    exact h rfl
  have hwn : ncl s = want.length := by rw [hpl] at h; simp only [bne_eq_false_iff_eq] at h; omega
  refine ⟨⟨0, rfl, rfl, Nat.zero_le _, rfl, Ext.refl _⟩, ?_⟩
  rintro _ i w3 ⟨hi, ht, e3⟩
  have E3 := e2.trans e3
  refine bcase_mk (fun h => ?_) (fun h => ⟨true, rfl, ?_, E3⟩)
  · have hlt : i < ncl s := by have := of_decide_eq_true h; omega
    have hp := pc_get hlt
    have hm1 : ((pcL s).map Prod.snd)[i]? = some (pcP s i).2 := by rw [List.getElem?_map, hp]; rfl
    obtain ⟨q, hq⟩ : ∃ q, want[i]? = some q := ⟨_, List.getElem?_eq_getElem (by omega)⟩
    have hq2 : (want.map Value.string)[i]? = some (.string q) := by rw [List.getElem?_map, hq]; rfl
    have hcp := hm.row.cells.ext e3
    intro w4 hd
    have no : (pcP s i).2 ≠ q → false = rowB s want := by
      intro hne
      unfold rowB
      rw [decide_eq_false]
      intro he
      rw [he, hq] at hm1
      exact hne (Option.some.inj hm1).symm
    refine ⟨i, rfl, by omega, hcp.fld (s := 2) (j := 1) (by rw [enc_at hp (by decide)]; rfl) fun b o hb => ⟨_, hb, i, rfl, by omega, (hc.ext E3).ptr hq2 fun b o hb => ⟨_, hb, ?_⟩⟩⟩
    rw [str_eq]
    refine bcase_mk (fun h => ⟨false, rfl, no (by simpa using h), E3.trans hd.ext⟩) (fun h => ?_)
    have hqe : (pcP s i).2 = q := by simpa using h
    refine ⟨i, rfl, by omega, hcp.fld (s := 2) (j := 0) (by rw [enc_at hp (by decide)]; rfl) fun b o hb => ⟨_, hb, ?_⟩⟩
    refine bcase_mk (fun h => by simp [pcP] at h) (fun _ => ?_)
    refine ⟨i, rfl, by omega, (hc.ext (E3.trans hd.ext)).ptr hq2 fun b o hb => ⟨_, hb, ?_⟩⟩
    have hle := bp_le s (i + 1)
    have hsz : (bp s i : Int) + (q.size : Int) = (bp s (i + 1) : Int) := by
      rw [← hqe]; unfold pcP; dsimp only; rw [ext_sz hle (bp_mono s (by omega))]; omega
    rw [hsz]
    refine ⟨inr_i64 (by omega) (by omega), inr_i64 (by omega) (by omega), i + 1, by simp, rfl, ⟨hlt, ?_, e3.trans hd.ext⟩, by omega⟩
    rw [List.take_add_one, List.take_add_one, ht, hm1, hq, hqe]
  · have hie : i = ncl s := by have := of_decide_eq_false h; omega
    subst hie
    unfold rowB
    rw [List.take_of_length_le (by omega), List.take_of_length_le (by omega)] at ht
    exact (decide_eq_true ht).symm

theorem sameP_ok : sSameP.Ok Tryd.prog 25 := by
  refine sameP_vc trivial ?_
  rintro ⟨a, ac, l, b, bc, m, k⟩ w ⟨ha, hb, hl, hk, hmb⟩
  dsimp only at ha hb hl hk hmb ⊢
  refine bcase_mk (fun h => ⟨false, rfl, ?_, Ext.refl _⟩) (fun h => ?_)
  · refine (decide_eq_false ?_).symm
    intro he
    have := congrArg List.length he
    simp only [List.length_map] at this
    simp [this] at h
  have hlen : l.length = m.length := by simp only [bne_eq_false_iff_eq] at h; omega
  refine ⟨⟨0, rfl, Nat.zero_le _, rfl, Ext.refl _⟩, ?_⟩
  rintro _ i w1 ⟨hi, ht, e⟩
  refine bcase_mk (fun h => ?_) (fun h => ⟨true, rfl, ?_, e⟩)
  · have hlt : i < l.length := by have := of_decide_eq_true h; omega
    obtain ⟨p, hp⟩ : ∃ p, l[i]? = some p := ⟨_, List.getElem?_eq_getElem hlt⟩
    obtain ⟨q, hq⟩ : ∃ q, m[i]? = some q := ⟨_, List.getElem?_eq_getElem (by omega)⟩
    have hq2 : (m.map (upP k))[i]? = some (upP k q) := by rw [List.getElem?_map, hq]; rfl
    have hqb := hmb q (List.mem_of_getElem? hq)
    have no : p ≠ upP k q → false = decide (l = m.map (upP k)) := by
      intro hne
      rw [decide_eq_false]
      intro he
      rw [he, hq2] at hp
      exact hne (Option.some.inj hp).symm
    have ra : ∀ {j : Nat} {v : Value} {K : Nat → Nat → Prop}, j < 2 → (encPc p)[j]? = some v → (∀ b o, w1.cell? ⟨b, o + i * 2 + j, none⟩ = some v → K b o) → ptrE a K := fun hj hv hK => (ha.ext e).fld (s := 2) (by rw [enc_at hp hj]; exact hv) hK
    have rb : ∀ {j : Nat} {v : Value} {K : Nat → Nat → Prop}, j < 2 → (encPc q)[j]? = some v → (∀ b o, w1.cell? ⟨b, o + i * 2 + j, none⟩ = some v → K b o) → ptrE b K := fun hj hv hK => (hb.ext e).fld (s := 2) (by rw [enc_at hq hj]; exact hv) hK
    intro w2 hd
    refine ⟨i, rfl, hlt, ra (j := 1) (by decide) rfl fun _ _ hc => ⟨_, hc, i, rfl, by omega, rb (j := 1) (by decide) rfl fun _ _ hc => ⟨_, hc, ?_⟩⟩⟩
    rw [str_eq]
    refine bcase_mk (fun h => ⟨false, rfl, no ?_, e.trans hd.ext⟩) (fun h => ?_)
    · rintro rfl; simp [upP] at h
    have h2 : p.2 = q.2 := by simpa using h
    refine ⟨i, rfl, hlt, ra (j := 0) (by decide) rfl fun _ _ hc => ⟨_, hc, i, rfl, by omega, rb (j := 0) (by decide) rfl fun _ _ hc => ⟨_, hc, inr_i64 (by omega) (by omega), ?_⟩⟩⟩
    refine bcase_mk (fun h => ⟨false, rfl, no ?_, e.trans hd.ext⟩) (fun h => ?_)
    · rintro rfl; simp [upP] at h
    have h1 : p.1 = q.1 + k := by simp only [bne_eq_false_iff_eq] at h; omega
    refine ⟨inr_i64 (by omega) (by omega), i + 1, by simp, ⟨hlt, ?_, e.trans hd.ext⟩, by omega⟩
    rw [List.take_add_one, List.take_add_one, ht, hp, hq2, show p = upP k q from Prod.ext h1 h2]
  · have hie : i = l.length := by have := of_decide_eq_false h; omega
    subst hie
    rw [List.take_length, List.take_of_length_le (by rw [List.length_map]; omega)] at ht
    exact (decide_eq_true ht).symm

theorem steps_ok : (sYes U8).Ok Tryd.prog 9 := by
  refine steps_vc ⟨cnext_ok, clast_ok, trivial⟩ ?_
  rintro _ w hU
  refine ⟨_, rfl, ⟨hU, by decide⟩, ?_⟩
  rintro _ w1 ⟨rfl, e1⟩
  refine bcase_mk (fun _ => ?_) (fun h => absurd h (by decide +kernel))
  refine ⟨_, rfl, ⟨hU.ext e1, by decide⟩, ?_⟩
  rintro _ w2 ⟨rfl, e2⟩
  exact ⟨(), congrArg Value.bool (by decide +kernel), e1.trans e2⟩

theorem alive_ok : (sYes U8).Ok Tryd.prog 19 := by
  refine alive_vc ⟨steps_ok, cat_ok, cis_ok, cnext_ok, clast_ok, ccount_ok, cback_ok, pcs_ok, row_ok, trivial⟩ ?_
  rintro _ w hU
  refine ⟨(), rfl, hU, ?_⟩
  rintro _ w1 E
  refine ⟨(_, _), rfl, ⟨hU.ext E, by decide⟩, ?_⟩
  rintro x2 w2 ⟨hx2, e⟩ b w3 hn
  replace hx2 : x2 = (0, 3) := hx2.trans (by decide +kernel)
  subst hx2
  replace E := (Ext.trans E e).trans hn.ext
  refine ⟨⟨⟨#[97, 204, 129, 13, 10, 98, 128]⟩, [⟨#[97, 204, 129]⟩, ⟨#[13, 10]⟩, ⟨#[98]⟩, ⟨#[128]⟩], _, _⟩, rfl, ⟨hU.ext E, by dsimp only; decide, CellsAt.new (vs := [⟨#[97, 204, 129]⟩, ⟨#[13, 10]⟩, ⟨#[98]⟩, ⟨#[128]⟩].map Value.string) hn, by dsimp only; decide⟩, ?_⟩
  rintro x w4 ⟨hx, e⟩
  dsimp only at hx
  replace hx : x = true := hx.trans (by decide +kernel)
  subst hx
  replace E := E.trans e
  refine bcase_mk (fun _ => ?_) (fun h => by cases h)
  refine ⟨_, rfl, ⟨hU.ext E, by decide⟩, ?_⟩
  rintro x w5 ⟨hx, e⟩
  replace hx : x = 3 := hx.trans (by decide +kernel)
  subst hx
  replace E := E.trans e
  refine bcase_mk (fun _ => ?_) (fun h => absurd h (by decide +kernel))
  refine ⟨_, rfl, ⟨hU.ext E, by decide⟩, ?_⟩
  rintro x w6 ⟨hx, e⟩
  replace hx : x = 5 := hx.trans (by decide +kernel)
  subst hx
  replace E := E.trans e
  refine bcase_mk (fun _ => ?_) (fun h => absurd h (by decide +kernel))
  refine ⟨(_, _), rfl, ⟨hU.ext E, by decide⟩, ?_⟩
  rintro x w7 ⟨hx, e⟩
  replace hx : x = true := hx.trans (by decide +kernel)
  subst hx
  replace E := E.trans e
  refine bcase_mk (fun _ => ?_) (fun h => by cases h)
  refine ⟨(_, _), rfl, ⟨hU.ext E, by decide⟩, ?_⟩
  rintro x w8 ⟨hx, e⟩
  replace hx : x = false := hx.trans (by decide +kernel)
  subst hx
  replace E := E.trans e
  refine bcase_mk (fun _ => ?_) (fun h => absurd h (by decide +kernel))
  refine bcase_mk (fun _ => ?_) (fun h => absurd h (by decide +kernel))
  refine bcase_mk (fun _ => ?_) (fun h => absurd h (by decide +kernel))
  refine ⟨_, rfl, ⟨hU.ext E, by decide⟩, ?_⟩
  rintro x w9 ⟨hx, e⟩
  replace hx : x = 2 := hx.trans (by decide +kernel)
  subst hx
  replace E := E.trans e
  refine bcase_mk (fun _ => ?_) (fun h => absurd h (by decide +kernel))
  refine ⟨_, rfl, ⟨hU.ext E, by decide⟩, ?_⟩
  rintro ⟨gs, bl, bs, ga, gc⟩ w10 ⟨hgs, hbk, _, _, _, e⟩
  dsimp only at hgs
  subst hgs
  replace E := E.trans e
  have hl2 : (pcR (ByteArray.mk #[97, 98])).length = 2 := by rw [pcr_len]; decide +kernel
  have hsz : (ByteArray.mk #[97, 98]).size ≤ 67108864 := by decide
  have hit := bk_iter (g := ⟨ByteArray.mk #[97, 98], bl, bs, ga, gc⟩) hbk hsz
  have hlt := cB_lt hbk
  have hle : (pcR (ByteArray.mk #[97, 98])).length ≤ 67108864 := by rw [hl2]; decide
  generalize pcR (ByteArray.mk #[97, 98]) = L at hl2 hit hle
  refine ⟨⟨33, #[.pointer (some ⟨bl, 0, none⟩), .pointer (some ⟨bs, 0, none⟩)], L, cB ⟨ByteArray.mk #[97, 98], bl, bs, ga, gc⟩⟩, rfl, ⟨hit, hlt, hle⟩, ?_⟩
  rintro ⟨pa, pn, pc⟩ w11 ⟨hpn, hm⟩
  dsimp only at hpn hm ⊢
  rw [hl2] at hpn
  subst hpn
  exact ⟨(), rfl, E.trans hm.ext⟩

end Go.Proofs.YtniiamobbgnjaaaDoor
