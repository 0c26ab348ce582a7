/-
  Words and laws for specifications: what a world keeps ('Ext'), slices that read as lists ('CellsAt'), rows that a call owns ('Row').
-/
import Derived.Test.YthkcphnkllnfcaaDoorVd
set_option linter.unusedVariables false
set_option linter.unusedSimpArgs false
namespace Go.Proofs.YthkcphnkllnfcaaDoor.Vc
open Go Go.RowKit

/-- Nothing that was there has turned. -/
abbrev Ext (w w' : World) : Prop := Below w.heap.size w w'

theorem Ext.refl (w : World) : Ext w w := Below.refl _ _
theorem Ext.trans {a b c : World} (h : Ext a b) (k : Ext b c) : Ext a c := Below.trans h (Below.mono k h.size)
theorem Ext.cell {w w' : World} (h : Ext w w') {p : Addr} {v : Value} (hv : w.cell? p = some v) : w'.cell? p = some v := sees_below h p v hv
theorem Ext.heap {w w' : World} (h : Ext w w') {g : Nat} {o : Obj} (hg : w.heap[g]? = some o) : w'.heap[g]? = some o :=
  (h.block g (Array.getElem?_eq_some_iff.1 hg).1).trans hg
theorem New.ext {w w1 : World} {o : Obj} {b : Nat} (h : New w o b w1) : Ext w w1 := by
  obtain ⟨_, rfl⟩ := h; exact (Below.refl _ w).alloc (Nat.le_refl _) o
theorem New.below {w0 w w1 : World} {o : Obj} {b B : Nat} (h : New w o b w1) (hb : Below B w0 w) (hB : B ≤ w.heap.size) : Below B w0 w1 := by
  obtain ⟨_, rfl⟩ := h; exact hb.alloc hB o
theorem New.heap {w w1 : World} {o : Obj} {b : Nat} (h : New w o b w1) : w1.heap[b]? = some o := by
  obtain ⟨rfl, rfl⟩ := h; exact heap_alloc_new w o
theorem New.size {w w1 : World} {o : Obj} {b : Nat} (h : New w o b w1) : b = w.heap.size ∧ w1.heap.size = w.heap.size + 1 := by
  obtain ⟨rfl, rfl⟩ := h; exact ⟨rfl, by simp⟩
theorem cell_of_heap {w : World} {g : Nat} {cs : Array Value} {e : TypeId} {fr : Nat × Nat} (h : w.heap[g]? = some (.cells cs e fr)) (j : Nat) : w.cell? ⟨g, j, none⟩ = cs[j]? := by
  simp [World.cell?, h]
theorem frozen_of_heap {w : World} {g : Nat} {cs : Array Value} {e : TypeId} (h : w.heap[g]? = some (.cells cs e (0, 0))) (j : Nat) : w.frozen? ⟨g, j, none⟩ = false := by
  simp [World.frozen?, h]
theorem New.cell {w w1 : World} {cs : Array Value} {e : TypeId} {b : Nat} (h : New w (.cells cs e) b w1) (j : Nat) : w1.cell? ⟨b, j, none⟩ = cs[j]? := cell_of_heap h.heap j

theorem Stored.other {w w1 : World} {p : Addr} {v : Value} (h : Stored w p v w1) {k : Nat} (hk : k ≠ p.block) : w1.heap[k]? = w.heap[k]? := by
  subst h; exact Below.heap_setCell w p v k hk
theorem Stored.heap {w w1 : World} {g j : Nat} {v : Value} {cs : Array Value} {e : TypeId} {fr : Nat × Nat} (h : Stored w ⟨g, j, none⟩ v w1) (hg : w.heap[g]? = some (.cells cs e fr)) :
    w1.heap[g]? = some (.cells (cs.setIfInBounds j v) e fr) := by
  subst h
  simp only [World.setCell, Array.getElem?_modify]
  simp [hg]
theorem Stored.size {w w1 : World} {p : Addr} {v : Value} (h : Stored w p v w1) : w1.heap.size = w.heap.size := by subst h; simp [World.setCell]
theorem Stored.below {w0 w w1 : World} {p : Addr} {v : Value} {B : Nat} (h : Stored w p v w1) (hb : Below B w0 w) (hp : B ≤ p.block) : Below B w0 w1 := by subst h; exact hb.setCell hp v

/-! ### A slice that reads as a list of cells -/

def CellsAt (w : World) (ad : Option Addr) (vs : List Value) : Prop :=
  vs = [] ∨ ∃ b o, ad = some ⟨b, o, none⟩ ∧ ∀ (j : Nat) v, vs[j]? = some v → w.cell? ⟨b, o + j, none⟩ = some v

theorem CellsAt.nil (w : World) (ad : Option Addr) : CellsAt w ad [] := .inl rfl
theorem CellsAt.ext {w w' : World} {ad : Option Addr} {vs : List Value} (h : CellsAt w ad vs) (hx : Ext w w') : CellsAt w' ad vs := by
  rcases h with h | ⟨b, o, h1, h2⟩
  · exact .inl h
  · exact .inr ⟨b, o, h1, fun j v hv => hx.cell (h2 j v hv)⟩
theorem CellsAt.below {w0 w w' : World} {B : Nat} {ad : Option Addr} {vs : List Value} (h : CellsAt w0 ad vs) (hx : Below B w0 w') (hB : w0.heap.size ≤ B) (_ : w = w') : CellsAt w' ad vs :=
  h.ext (hx.mono hB)
theorem CellsAt.ptr {w : World} {ad : Option Addr} {vs : List Value} {i : Nat} {v : Value} {K : Nat → Nat → Prop} (h : CellsAt w ad vs) (hi : vs[i]? = some v)
    (hk : ∀ b o, w.cell? ⟨b, o + i, none⟩ = some v → K b o) : ptrE ad K := by
  rcases h with h | ⟨b, o, h1, h2⟩
  · subst h; simp at hi
  · subst h1; exact hk b o (h2 i v hi)
/-- .. of numbers. -/
theorem CellsAt.int {w : World} {ad : Option Addr} {k : IntKind} {xs : List Int} {i : Nat} {K : Nat → Nat → Prop} (h : CellsAt w ad (xs.map (Value.int k))) (hi : i < xs.length)
    (hk : ∀ b o, w.cell? ⟨b, o + i, none⟩ = some (.int k (xs.getD i 0)) → K b o) : ptrE ad K :=
  h.ptr (i := i) (v := .int k (xs.getD i 0)) (by simp [List.getD, hi]) hk

/-! ### Rows that a call owns -/

def blk (ad : Option Addr) : Option Nat := ad.map (·.block)

/-- The slice (ad, n, c), of elements of type e, s cells each, lies at the head of a row of its own that holds vs (and c - n elements more). -/
def Row (w : World) (e : TypeId) (s : Nat) (ad : Option Addr) (n : Nat) (vs : List Value) (c : Nat) : Prop :=
  vs.length = n * s ∧ ((ad = none ∧ n = 0 ∧ c = 0) ∨
    ∃ g cur, ad = some ⟨g, 0, none⟩ ∧ w.heap[g]? = some (.cells cur e (0, 0)) ∧ n ≤ c ∧ c ≤ maxLen ∧ cur.size = c * s ∧ cur.toList.take (n * s) = vs)

theorem Row.nil (w : World) (e : TypeId) (s : Nat) : Row w e s none 0 [] 0 := ⟨by simp, .inl ⟨rfl, rfl, rfl⟩⟩

theorem Row.lt {w : World} {e : TypeId} {s n c : Nat} {ad : Option Addr} {vs : List Value} (h : Row w e s ad n vs c) {g : Nat} (hg : blk ad = some g) : g < w.heap.size := by
  rcases h.2 with ⟨rfl, _⟩ | ⟨g', cur, rfl, h1, _⟩
  · simp [blk] at hg
  · simp [blk] at hg; subst hg; exact (Array.getElem?_eq_some_iff.1 h1).1

theorem Row.keep {w w' : World} {e : TypeId} {s n c : Nat} {ad : Option Addr} {vs : List Value} (h : Row w e s ad n vs c) (hk : ∀ g, blk ad = some g → w'.heap[g]? = w.heap[g]?) : Row w' e s ad n vs c := by
  refine ⟨h.1, ?_⟩
  rcases h.2 with h1 | ⟨g, cur, rfl, h1, h2⟩
  · exact .inl h1
  · exact .inr ⟨g, cur, rfl, (hk g rfl).trans h1, h2⟩
theorem Row.ext {w w' : World} {e : TypeId} {s n c : Nat} {ad : Option Addr} {vs : List Value} (h : Row w e s ad n vs c) (hx : Ext w w') : Row w' e s ad n vs c :=
  h.keep fun g hg => hx.block g (h.lt hg)
theorem Row.grown {w w' : World} {e : TypeId} {s n c : Nat} {ad : Option Addr} {vs : List Value} {r : Option Nat} (h : Row w e s ad n vs c) (hx : w.grownBy w' r) (hne : ∀ g, blk ad = some g → r ≠ some g) : Row w' e s ad n vs c :=
  h.keep fun g hg => hx.block g (h.lt hg) fun e => hne g hg e.symm
theorem Row.cells {w : World} {e : TypeId} {n c : Nat} {s : Nat} {ad : Option Addr} {vs : List Value} (h : Row w e s ad n vs c) : CellsAt w ad vs := by
  rcases h.2 with ⟨_, h1, _⟩ | ⟨g, cur, rfl, h1, _, _, _, h5⟩
  · left; have := h.1; rw [h1] at this; simpa using this
  · refine .inr ⟨g, 0, rfl, fun j v hv => ?_⟩
    rw [Nat.zero_add, cell_of_heap h1, ← Array.getElem?_toList]
    rw [← h5, List.getElem?_take] at hv
    split at hv
    · exact hv
    · cases hv
theorem Row.le {w : World} {e : TypeId} {s n c : Nat} {ad : Option Addr} {vs : List Value} (h : Row w e s ad n vs c) : n ≤ c ∧ c ≤ maxLen := by
  rcases h.2 with ⟨_, h1, h2⟩ | ⟨g, cur, rfl, _, h1, h2, _⟩
  · subst h1 h2; simp
  · exact ⟨h1, h2⟩
theorem Row.made {w w1 : World} {e : TypeId} {s n c b : Nat} {cs : Array Value} (h : New w (.cells cs e) b w1) (hn : n ≤ c) (hc : c ≤ maxLen) (hs : cs.size = c * s) : Row w1 e s (some ⟨b, 0, none⟩) n (cs.toList.take (n * s)) c :=
  ⟨by rw [List.length_take, Array.length_toList, hs]; exact Nat.min_eq_left (Nat.mul_le_mul_right _ hn), .inr ⟨b, cs, rfl, h.heap, hn, hc, hs, rfl⟩⟩

theorem mkRow_one (v : Value) (m : Nat) : mkRow #[v] m = Array.replicate m v := by
  apply Array.ext_getElem?
  intro i
  simp only [mkRow, Array.getElem?_map, Array.getElem?_replicate, List.size_toArray, List.length_cons, List.length_nil, Nat.mul_one, Nat.zero_add, Nat.mod_one]
  by_cases h : i < m
  · rw [if_pos h, Array.getElem?_range, if_pos h]; rfl
  · rw [if_neg h, Array.getElem?_range, if_neg h]; rfl

/-- A row made by the call that began in w. -/
structure Made (w w' : World) (e : TypeId) (s : Nat) (ad : Option Addr) (n : Nat) (vs : List Value) (c : Nat) : Prop where
  row : Row w' e s ad n vs c
  new : ∀ g, blk ad = some g → w.heap.size ≤ g
  ext : Ext w w'

theorem Made.nil (w : World) (e : TypeId) (s : Nat) : Made w w e s none 0 [] 0 := ⟨Row.nil w e s, by simp [blk], Ext.refl w⟩
theorem Made.later {w w1 w2 : World} {e : TypeId} {s n c : Nat} {ad : Option Addr} {vs : List Value} (h : Made w w1 e s ad n vs c) (hx : Ext w1 w2) : Made w w2 e s ad n vs c :=
  ⟨h.row.ext hx, h.new, h.ext.trans hx⟩
theorem Made.earlier {w0 w w1 : World} {e : TypeId} {s n c : Nat} {ad : Option Addr} {vs : List Value} (h : Made w w1 e s ad n vs c) (hx : Ext w0 w) : Made w0 w1 e s ad n vs c :=
  ⟨h.row, fun g hg => Nat.le_trans hx.size (h.new g hg), hx.trans h.ext⟩

/-- One element is written. -/
theorem Row.store {w w1 : World} {e : TypeId} {g n c i : Nat} {vs : List Value} {v : Value} (h : Row w e 1 (some ⟨g, 0, none⟩) n vs c) (hs : Stored w ⟨g, 0 + i, none⟩ v w1) : Row w1 e 1 (some ⟨g, 0, none⟩) n (vs.set i v) c := by
  refine ⟨by rw [List.length_set]; exact h.1, ?_⟩
  rcases h.2 with ⟨h1, _⟩ | ⟨g', cur, he, h1, h2, h3, h4, h5⟩
  · cases h1
  · cases he
    refine .inr ⟨g, _, rfl, hs.heap h1, h2, h3, by simpa using h4, ?_⟩
    rw [Nat.zero_add, Array.toList_setIfInBounds, List.take_set, h5]

theorem Row.at_store {w : World} {e : TypeId} {g n c i : Nat} {vs : List Value} (h : Row w e 1 (some ⟨g, 0, none⟩) n vs c) (hi : i < n) :
    (∃ old, w.cell? ⟨g, 0 + i, none⟩ = some old) ∧ w.frozen? ⟨g, 0 + i, none⟩ = false := by
  rcases h.2 with ⟨h1, _⟩ | ⟨g', cur, he, h1, h2, h3, h4, h5⟩
  · cases h1
  · cases he
    refine ⟨?_, frozen_of_heap h1 _⟩
    rw [cell_of_heap h1]
    exact ⟨_, Array.getElem?_eq_getElem (by omega)⟩

theorem Row.read_int {w : World} {e : TypeId} {g n c i : Nat} {k : IntKind} {xs : List Int} (h : Row w e 1 (some ⟨g, 0, none⟩) n (xs.map (Value.int k)) c) (hi : i < xs.length) :
    w.cell? ⟨g, 0 + i, none⟩ = some (.int k (xs.getD i 0)) := by
  rcases h.cells with h1 | ⟨b, o, h1, h2⟩
  · have : xs = [] := by simpa using h1
    subst this; simp at hi
  · cases h1
    exact h2 i _ (by simp [List.getD, hi])

theorem Made.store {w w1 w2 : World} {e : TypeId} {g n c i : Nat} {vs : List Value} {v : Value} (h : Made w w1 e 1 (some ⟨g, 0, none⟩) n vs c) (hs : Stored w1 ⟨g, 0 + i, none⟩ v w2) : Made w w2 e 1 (some ⟨g, 0, none⟩) n (vs.set i v) c :=
  ⟨h.row.store hs, h.new, hs.below h.ext (h.new g rfl)⟩

/-- What an append does to a row of one's own. -/
theorem app_two {P : Program} {w : World} {t ty e : TypeId} {i : TypeInfo} {z : Value} {s bytes : Nat} (ht : P.underlying t = some (.slice e)) (hi : P.info? e = some i) (hz : i.zero = some z) (hsize : i.size = s) (hby : i.bytes = bytes)
    (hzs : z.cells.size = s) (hs0 : 0 < s) {ad : Option Addr} {n c : Nat} {vs : List Value} (h : Row w e s ad n vs c) {sa : Option Addr} {m cx : Nat} {news : List Value} (hl : news.length = m * s)
    (hnews : CellsAt w sa news) (h1 : ∀ u ∈ news, u.oneCell' = true) (h63 : n + m ≤ maxLen) (hbytes : n + m ≤ c ∨ (n + m) * bytes ≤ 140737488355328) :
    ∃ ad' c' w2, AppRun P #[t, t] ty (.slice ad n c) (.slice sa m cx) w ad' (n + m) c' w2 ∧ KO w w2 ∧ Row w2 e s ad' (n + m) (vs ++ news) c' ∧ w.grownBy w2 (blk ad) ∧ (ad' = ad ∨ (ad' = some ⟨w.heap.size, 0, none⟩ ∧ w.heap.size < w2.heap.size ∧ Ext w w2)) ∧ (n + m ≤ c → ad' = ad ∧ c' = c) := by
  have hko : ∀ {w2 : World}, w.grownBy w2 (blk ad) → KO w w2 := fun hg => KO.grown hg (fun j o hj ho => by
    rcases h.2 with ⟨h1, _⟩ | ⟨g, cur, h1, h2, _⟩
    · subst h1; cases hj
    · subst h1; cases hj; rw [h2] at ho; cases ho; rfl)
  subst hsize
  subst hby
  have hsmall : n + m ≤ 9223372036854775807 := by simp only [maxLen] at h63; omega
  have hlen : (vs ++ news).length = (n + m) * i.size := by rw [List.length_append, h.1, hl, Nat.add_mul]
  by_cases hm : m = 0
  · subst hm
    have hn : news = [] := List.eq_nil_of_length_eq_zero (by simpa using hl)
    subst hn
    refine ⟨ad, c, w, ?_, KOE.refl _ _, by simpa using h, ⟨rfl, rfl, rfl, Nat.le_refl _, fun _ _ _ => rfl⟩, .inl rfl, fun _ => ⟨rfl, rfl⟩⟩
    have hnc := h.le.1
    have hfc : (Builtin.firstCells i.size 0 (.slice sa 0 cx)).run P w = .ok #[] w := by
      cases sa with
      | none => rfl
      | some a => simp [Builtin.firstCells, loadCells, loadCellsFrom]
    unfold AppRun
    cases ad with
    | none => simp [Builtin.append_, run_underlying ht, sizeOf, typeInfo, hi, Builtin.lenOf, hfc, hnc]
    | some a => simp [Builtin.append_, run_underlying ht, sizeOf, typeInfo, hi, Builtin.lenOf, hfc, hnc, storeCells]
  · obtain ⟨b, o, rfl, hc⟩ : ∃ b o, sa = some ⟨b, o, none⟩ ∧ ∀ (j : Nat) v, news[j]? = some v → w.cell? ((⟨b, o, none⟩ : Addr).add j) = some v := by
      rcases hnews with hn | ⟨b, o, h1, h2⟩
      · subst hn
        exfalso
        have : m * i.size = 0 := by simpa using hl.symm
        rcases Nat.mul_eq_zero.1 this with h | h <;> omega
      · exact ⟨b, o, h1, fun j v hv => by rw [add_lit]; exact h2 j v hv⟩
    have grown : ∀ (old : Nat), old < n + m → ∀ (row : Option Nat),
        Row (w.drew.alloc (.cells (vs.toArray ++ news.toArray ++ Builtin.zeroCells z.cells (grownCap w (n + m) old e - (n + m))) e)) e i.size (some ⟨w.heap.size, 0, none⟩) (n + m) (vs ++ news) (grownCap w (n + m) old e) ∧
        w.grownBy (w.drew.alloc (.cells (vs.toArray ++ news.toArray ++ Builtin.zeroCells z.cells (grownCap w (n + m) old e - (n + m))) e)) row ∧ w.heap.size < (w.drew.alloc (.cells (vs.toArray ++ news.toArray ++ Builtin.zeroCells z.cells (grownCap w (n + m) old e - (n + m))) e)).heap.size ∧
        Ext w (w.drew.alloc (.cells (vs.toArray ++ news.toArray ++ Builtin.zeroCells z.cells (grownCap w (n + m) old e - (n + m))) e)) := by
      intro old ho row
      have hge := grownCap_ge w (n + m) old e
      have hcm : grownCap w (n + m) old e ≤ maxLen := grownCap_le_maxLen w (n + m) old e h63
      refine ⟨⟨hlen, .inr ⟨w.heap.size, _, rfl, heap_alloc_new w.drew _, hge, hcm, ?_, ?_⟩⟩, ⟨rfl, rfl, rfl, by simp, fun k hk _ => heap_alloc_old w.drew _ hk⟩, by simp, (Below.drew (Below.refl _ w)).alloc (by simp) _⟩
      · simp only [Array.size_append, List.size_toArray, size_zeroCells, hzs, h.1, hl, ← Nat.add_mul]
        congr 1
        omega
      · simp only [Array.toList_append, List.append_assoc]
        rw [← List.append_assoc, ← hlen]
        exact List.take_left
    rcases h.2 with ⟨rfl, rfl, rfl⟩ | ⟨g, cur, rfl, hg, hnc, hcm, hcs, htake⟩
    · have hx : vs = [] := List.eq_nil_of_length_eq_zero (by simpa using h.1)
      subst hx
      have hb2 : m * i.bytes ≤ 140737488355328 := by rcases hbytes with hb | hb <;> simp only [Nat.zero_add] at hb <;> omega
      have hr := run_append_nil (P := P) w t ty e i z ht hi hz ⟨b, o, none⟩ m cx news hl hc (by omega) (by omega) (by omega)
      have hgr := grown 0 (by omega) (blk none)
      simp only [Nat.zero_add, List.nil_append, Array.empty_append] at hgr ⊢
      exact ⟨_, _, _, hr, hko hgr.2.1, hgr.1, hgr.2.1, .inr ⟨rfl, hgr.2.2⟩, fun hh => absurd hh (by omega)⟩
    · by_cases hroom : n + m ≤ c
      · have hfit : n * i.size + news.length ≤ cur.size := by rw [hl, hcs, ← Nat.add_mul]; exact Nat.mul_le_mul_right _ hroom
        have hr := run_append_room (P := P) w t ty e i ht hi g n c cur hg ⟨b, o, none⟩ m cx news hl hc h1 hroom hfit
        have hgb : w.grownBy (w.setRow g (cur.toList.take (n * i.size) ++ news ++ cur.toList.drop (n * i.size + news.length)).toArray) (blk (some ⟨g, 0, none⟩)) := ⟨rfl, rfl, rfl, by simp, fun k _ hk => setRow_other w g k _ (fun e => hk (by simp [blk, e]))⟩
        refine ⟨_, _, _, hr, hko hgb, ⟨hlen, .inr ⟨g, _, rfl, setRow_heap w g cur _ e _ hg, hroom, hcm, ?_, ?_⟩⟩, ⟨rfl, rfl, rfl, by simp, fun k _ hk => setRow_other w g k _ (fun e => hk (by simp [blk, e]))⟩, .inl rfl, fun _ => ⟨rfl, rfl⟩⟩
        · simp only [List.size_toArray, List.length_append, List.length_take, List.length_drop, Array.length_toList]
          omega
        · rw [htake, ← hlen]
          exact List.take_left
      · have hb2 : (n + m) * i.bytes ≤ 140737488355328 := by rcases hbytes with hb | hb; exact absurd hb hroom; exact hb
        have holds : ∀ (j : Nat) u, vs[j]? = some u → w.cell? ((⟨g, 0, none⟩ : Addr).add j) = some u := by
          intro j u hu
          rcases h.cells with h0 | ⟨b', o', e1, e2⟩
          · subst h0; simp at hu
          · cases e1; rw [add_lit]; exact e2 j u hu
        have hr := run_append_grow (P := P) w t ty e i z ht hi hz ⟨g, 0, none⟩ n c vs h.1 holds ⟨b, o, none⟩ m cx news hl hc (by omega) (by omega) (growslice_fits (by omega) hb2)
        have hgr := grown c (by omega) (blk (some ⟨g, 0, none⟩))
        exact ⟨_, _, _, hr, hko hgr.2.1, hgr.1, hgr.2.1, .inr ⟨rfl, hgr.2.2⟩, fun hh => absurd hh hroom⟩

/-- out = append(out, v), out the call's own. -/
theorem Made.push {P : Program} {w0 w w1 : World} {t ty e : TypeId} {i : TypeInfo} {z : Value} {bytes : Nat} (ht : P.underlying t = some (.slice e)) (hi : P.info? e = some i) (hz : i.zero = some z) (hsize : i.size = 1) (hby : i.bytes = bytes)
    (hzs : z.cells.size = 1) {ad : Option Addr} {n c b : Nat} {vs : List Value} {v : Value} (h : Made w0 w e 1 ad n vs c) (hn : New w (.cells #[v] e) b w1) (hv : v.oneCell' = true) (h63 : n + 1 ≤ maxLen) (hbytes : (n + 1) * bytes ≤ 140737488355328) :
    ∃ ad' c' w2, AppRun P #[t, t] ty (.slice ad n c) (.slice (some ⟨b, 0, none⟩) 1 1) w1 ad' (n + 1) c' w2 ∧ KO w1 w2 ∧ Made w0 w2 e 1 ad' (n + 1) (vs ++ [v]) c' := by
  have h1 := h.later hn.ext
  have hnews : CellsAt w1 (some ⟨b, 0, none⟩) [v] := .inr ⟨b, 0, rfl, fun j u hu => by
    cases j with
    | zero => simp at hu; subst hu; rw [Nat.zero_add, hn.cell]; rfl
    | succ j => simp at hu⟩
  obtain ⟨ad', c', w2, hr, hko, hrow, hg, hor, _⟩ := app_two (P := P) (ty := ty) ht hi hz hsize hby hzs (by decide) h1.row (m := 1) (cx := 1) (news := [v]) (by simp) hnews (by intro u hu; simp at hu; subst hu; exact hv) h63 (.inr hbytes)
  refine ⟨ad', c', w2, hr, hko, hrow, ?_, ?_⟩
  · intro g hgg
    rcases hor with hor | hor
    · subst hor; exact h1.new g hgg
    · obtain ⟨hor, _⟩ := hor; subst hor; simp [blk] at hgg; subst hgg; exact h1.ext.size
  · exact Below.grown h1.ext hg h1.ext.size (fun k hk => h1.new k hk)

/-! ### Elements -/

/-- t is a slice of e, s cells and so many bytes each. -/
structure ElemOk (P : Program) (t e : TypeId) (s bytes : Nat) : Prop where
  und : P.underlying t = some (.slice e)
  info : ∃ i z, P.info? e = some i ∧ i.zero = some z ∧ i.size = s ∧ i.bytes = bytes ∧ z.cells.size = s

theorem elemOk_mk {P : Program} {t e : TypeId} {s bytes : Nat} (z : Value) (h1 : P.underlying t = some (.slice e)) (h2 : (P.info? e).map (fun i => (i.zero, i.size, i.bytes)) = some (some z, s, bytes)) (h3 : z.cells.size = s) : ElemOk P t e s bytes := by
  obtain ⟨i, hi, hzz⟩ := Option.map_eq_some_iff.1 h2
  simp only [Prod.mk.injEq] at hzz
  exact ⟨h1, i, z, hi, hzz.1, hzz.2.1, hzz.2.2, h3⟩

theorem CellsAt.new {w w1 : World} {e : TypeId} {b : Nat} {vs : List Value} (h : New w (.cells vs.toArray e) b w1) : CellsAt w1 (some ⟨b, 0, none⟩) vs :=
  .inr ⟨b, 0, rfl, fun j v hv => by rw [Nat.zero_add, h.cell]; simpa using hv⟩

/-- out = append(out, v, ..) -/
theorem Row.pushN {P : Program} {w w1 : World} {t ty e : TypeId} {s bytes : Nat} (hE : ElemOk P t e s bytes) (hs : 0 < s) {ad : Option Addr} {n c b m : Nat} {vs news : List Value} (h : Row w e s ad n vs c) (hn : New w (.cells news.toArray e) b w1) (hl : news.length = m * s)
    (h1 : ∀ u ∈ news, u.oneCell' = true) (h63 : n + m ≤ maxLen) (hb : n + m ≤ c ∨ (n + m) * bytes ≤ 140737488355328) :
    ∃ ad' c' w2, AppRun P #[t, t] ty (.slice ad n c) (.slice (some ⟨b, 0, none⟩) m m) w1 ad' (n + m) c' w2 ∧ KO w1 w2 ∧ Row w2 e s ad' (n + m) (vs ++ news) c' ∧ w1.grownBy w2 (blk ad) ∧
      (ad' = ad ∨ (ad' = some ⟨w1.heap.size, 0, none⟩ ∧ w1.heap.size < w2.heap.size ∧ Ext w1 w2)) ∧ (n + m ≤ c → ad' = ad ∧ c' = c) := by
  obtain ⟨i, z, hi, hz, hz1, hz2, hz3⟩ := hE.info
  exact app_two (P := P) (ty := ty) hE.und hi hz hz1 hz2 hz3 hs (h.ext hn.ext) hl (CellsAt.new hn) h1 h63 hb

/-- dst = append(dst, src..): -/
theorem Row.pushS {P : Program} {w : World} {t ty e : TypeId} {s bytes : Nat} (hE : ElemOk P t e s bytes) (hs : 0 < s) {ad sa : Option Addr} {n c m cx : Nat} {vs news : List Value} (h : Row w e s ad n vs c) (hl : news.length = m * s) (hc : CellsAt w sa news)
    (h1 : ∀ u ∈ news, u.oneCell' = true) (h63 : n + m ≤ maxLen) (hb : n + m ≤ c ∨ (n + m) * bytes ≤ 140737488355328) :
    ∃ ad' c' w2, AppRun P #[t, t] ty (.slice ad n c) (.slice sa m cx) w ad' (n + m) c' w2 ∧ KO w w2 ∧ Row w2 e s ad' (n + m) (vs ++ news) c' ∧ w.grownBy w2 (blk ad) ∧
      (ad' = ad ∨ (ad' = some ⟨w.heap.size, 0, none⟩ ∧ w.heap.size < w2.heap.size ∧ Ext w w2)) ∧ (n + m ≤ c → ad' = ad ∧ c' = c) := by
  obtain ⟨i, z, hi, hz, hz1, hz2, hz3⟩ := hE.info
  exact app_two (P := P) (ty := ty) hE.und hi hz hz1 hz2 hz3 hs h hl hc h1 h63 hb

theorem Made.grown {w0 w w2 : World} {e : TypeId} {s : Nat} {ad ad' : Option Addr} {n c n' c' : Nat} {vs vs' : List Value} (h : Made w0 w e s ad n vs c) (hrow : Row w2 e s ad' n' vs' c') (hg : w.grownBy w2 (blk ad))
    (hor : ad' = ad ∨ (ad' = some ⟨w.heap.size, 0, none⟩ ∧ w.heap.size < w2.heap.size ∧ Ext w w2)) : Made w0 w2 e s ad' n' vs' c' := by
  refine ⟨hrow, ?_, Below.grown h.ext hg h.ext.size (fun k hk => h.new k hk)⟩
  intro g hgg
  rcases hor with hor | ⟨hor, _⟩
  · subst hor; exact h.new g hgg
  · subst hor; simp [blk] at hgg; subst hgg; exact h.ext.size

/-- out = append(out, v, ..), out the call's own. -/
theorem Made.pushN {P : Program} {w0 w w1 : World} {t ty e : TypeId} {s bytes : Nat} (hE : ElemOk P t e s bytes) (hs : 0 < s) {ad : Option Addr} {n c b m : Nat} {vs news : List Value} (h : Made w0 w e s ad n vs c) (hn : New w (.cells news.toArray e) b w1) (hl : news.length = m * s)
    (h1 : ∀ u ∈ news, u.oneCell' = true) (h63 : n + m ≤ maxLen) (hb : n + m ≤ c ∨ (n + m) * bytes ≤ 140737488355328) :
    ∃ ad' c' w2, AppRun P #[t, t] ty (.slice ad n c) (.slice (some ⟨b, 0, none⟩) m m) w1 ad' (n + m) c' w2 ∧ KO w1 w2 ∧ Made w0 w2 e s ad' (n + m) (vs ++ news) c' ∧ Ext w w1 ∧ (n + m ≤ c → ad' = ad ∧ c' = c) := by
  obtain ⟨ad', c', w2, hr, hko, hrow, hg, hor, hc⟩ := h.row.pushN (P := P) (ty := ty) hE hs hn hl h1 h63 hb
  exact ⟨ad', c', w2, hr, hko, (h.later hn.ext).grown hrow hg hor, hn.ext, hc⟩
theorem Made.pushS {P : Program} {w0 w : World} {t ty e : TypeId} {s bytes : Nat} (hE : ElemOk P t e s bytes) (hs : 0 < s) {ad sa : Option Addr} {n c m cx : Nat} {vs news : List Value} (h : Made w0 w e s ad n vs c) (hl : news.length = m * s) (hc : CellsAt w sa news)
    (h1 : ∀ u ∈ news, u.oneCell' = true) (h63 : n + m ≤ maxLen) (hb : n + m ≤ c ∨ (n + m) * bytes ≤ 140737488355328) :
    ∃ ad' c' w2, AppRun P #[t, t] ty (.slice ad n c) (.slice sa m cx) w ad' (n + m) c' w2 ∧ KO w w2 ∧ Made w0 w2 e s ad' (n + m) (vs ++ news) c' ∧ (n + m ≤ c → ad' = ad ∧ c' = c) := by
  obtain ⟨ad', c', w2, hr, hko, hrow, hg, hor, hcc⟩ := h.row.pushS (P := P) (ty := ty) hE hs hl hc h1 h63 hb
  exact ⟨ad', c', w2, hr, hko, h.grown hrow hg hor, hcc⟩

theorem one_ints (k : IntKind) (xs : List Int) : ∀ u ∈ xs.map (Value.int k), u.oneCell' = true := by
  intro u hu; obtain ⟨x, _, rfl⟩ := List.mem_map.1 hu; rfl

/-! ### Facts that later worlds keep -/

theorem Drew.cells {w w1 : World} (h : Drew w w1) {ad : Option Addr} {vs : List Value} (hc : CellsAt w ad vs) : CellsAt w1 ad vs := hc.ext h.ext
theorem Drew.row {w w1 : World} (h : Drew w w1) {e : TypeId} {s n c : Nat} {ad : Option Addr} {vs : List Value} (hr : Row w e s ad n vs c) : Row w1 e s ad n vs c := hr.ext h.ext
theorem Row.turn {w w2 : World} {e : TypeId} {s n c k : Nat} {ad : Option Addr} {vs : List Value} (h : Row w e s ad n vs c) (ht : Turn k w w2) : Row w2 e s ad n vs c := by
  refine ⟨h.1, ?_⟩
  rcases h.2 with h1 | ⟨g, cur, rfl, h1, h2⟩
  · exact .inl h1
  · exact .inr ⟨g, cur, rfl, ht.cells g _ h1 rfl, h2⟩
theorem Made.turn {w w1 w2 : World} {e : TypeId} {s n c k : Nat} {ad : Option Addr} {vs : List Value} (h : Made w w1 e s ad n vs c) (ht : Turn k w1 w2) (hk : w.heap.size ≤ k) : Made w w2 e s ad n vs c :=
  ⟨h.row.turn ht, h.new, Below.trans h.ext (ht.ext.mono hk)⟩
theorem CellsAt.turn {w w2 : World} {k : Nat} {ad : Option Addr} {vs : List Value} (h : CellsAt w ad vs) (ht : Turn k w w2) : CellsAt w2 ad vs := by
  rcases h with h | ⟨b, o, h1, h2⟩
  · exact .inl h
  · exact .inr ⟨b, o, h1, fun j v hv => ht.sees _ _ (h2 j v hv)⟩
theorem Row.fr {S : Nat → Prop} {w w' : World} {e : TypeId} {s n c : Nat} {ad : Option Addr} {vs : List Value} (h : Row w e s ad n vs c) (hf : Fr S w w') (hS : ∀ g, blk ad = some g → ¬ S g) : Row w' e s ad n vs c :=
  h.keep fun g hg => hf.block g (h.lt hg) (hS g hg)
/-- The cells of a slice lie in its block. -/
theorem CellsAt.keep {w w' : World} {ad : Option Addr} {vs : List Value} (h : CellsAt w ad vs) (hk : ∀ g, blk ad = some g → w'.heap[g]? = w.heap[g]?) : CellsAt w' ad vs := by
  rcases h with h | ⟨b, o, h1, h2⟩
  · exact .inl h
  · subst h1
    exact .inr ⟨b, o, rfl, fun j v hv => (World.cell?_of_block (w := w) (hk b rfl)).trans (h2 j v hv)⟩
theorem CellsAt.fr {S : Nat → Prop} {w w' : World} {ad : Option Addr} {vs : List Value} (h : CellsAt w ad vs) (hf : Fr S w w') (hS : ∀ g, blk ad = some g → ¬ S g) : CellsAt w' ad vs := by
  rcases h with h | ⟨b, o, h1, h2⟩
  · exact .inl h
  · subst h1
    refine .inr ⟨b, o, rfl, fun j v hv => ?_⟩
    have hc := h2 j v hv
    have hb : b < w.heap.size := World.block_lt_of_cell? w _ hc
    exact (World.cell?_of_block (w := w) (hf.block b hb (hS b rfl))).trans hc
theorem CellsAt.take {w : World} {ad : Option Addr} {vs : List Value} (h : CellsAt w ad vs) (k : Nat) : CellsAt w ad (vs.take k) := by
  rcases h with h | ⟨b, o, h1, h2⟩
  · left; simp [h]
  · refine .inr ⟨b, o, h1, fun j v hv => h2 j v ?_⟩
    rw [List.getElem?_take] at hv
    split at hv
    · exact hv
    · cases hv
/-- A slice of a slice. -/
theorem CellsAt.drop {w : World} {ad ad' : Option Addr} {vs : List Value} {c s l : Nat} (h : CellsAt w ad vs) (hs : SlAt ad ad' c l s) (hl : l ≤ c) (hv : vs.length ≤ c * s) : CellsAt w ad' (vs.drop (l * s)) := by
  rcases h with h | ⟨b, o, h1, h2⟩
  · left; simp [h]
  · subst h1
    by_cases hc : l = c
    · left; subst hc; exact List.drop_eq_nil_of_le hv
    · have h3 := hs.lt (by omega)
      refine .inr ⟨b, o + l * s, h3, fun j v hj => ?_⟩
      rw [List.getElem?_drop] at hj
      have := h2 _ _ hj
      rw [show o + (l * s + j) = o + l * s + j from by omega] at this
      exact this

theorem Row.wr {w : World} {e : TypeId} {s n c i : Nat} {ad : Option Addr} {vs : List Value} {K : Nat → Nat → Prop} (h : Row w e s ad n vs c) (hi : i < n) (hK : ∀ g, ad = some ⟨g, 0, none⟩ → K g 0) : ptrE ad K := by
  rcases h.2 with ⟨_, h1, _⟩ | ⟨g, cur, rfl, _⟩
  · omega
  · exact hK g rfl

theorem Fr.stored {w w1 : World} {p : Addr} {v : Value} (h : Stored w p v w1) : Fr (fun b => b = p.block) w w1 := by
  subst h
  exact ⟨rfl, rfl, rfl, by show w.heap.size ≤ (w.heap.modify _ _).size; rw [Array.size_modify]; exact Nat.le_refl _, fun b _ hb => Below.heap_setCell w p v b hb⟩
theorem Fr.new {S : Nat → Prop} {w w1 : World} {o : Obj} {b : Nat} (h : New w o b w1) : Fr S w w1 := Fr.of_ext h.ext
theorem Fr.grown {w w1 : World} {row : Option Nat} (h : w.grownBy w1 row) : Fr (fun b => row = some b) w w1 :=
  ⟨h.os, h.tape, h.output, h.size, fun b hb hn => h.block b hb (fun e => hn e.symm)⟩

/-- A slice made at once. -/
theorem Made.box {w0 w w1 : World} {e : TypeId} {b n s : Nat} {cs : Array Value} (h : New w (.cells cs e) b w1) (hx : Ext w0 w) (hl : cs.toList.length = n * s) (hn : n ≤ maxLen) : Made w0 w1 e s (some ⟨b, 0, none⟩) n cs.toList n := by
  refine ⟨?_, ?_, hx.trans h.ext⟩
  · have := Row.made (s := s) (n := n) (c := n) h (Nat.le_refl _) hn (by simpa using hl)
    rwa [List.take_of_length_le (by rw [hl]; exact Nat.le_refl _)] at this
  · intro g hg; simp [blk] at hg; subst hg; have := h.size; have := hx.size; omega

theorem Row.get {w : World} {e : TypeId} {s n c i : Nat} {ad : Option Addr} {vs : List Value} {v : Value} {K : Nat → Nat → Prop} (h : Row w e s ad n vs c) (hi : vs[i]? = some v)
    (hk : ∀ b o, w.cell? ⟨b, o + i, none⟩ = some v → K b o) : ptrE ad K := h.cells.ptr hi hk

end Go.Proofs.YthkcphnkllnfcaaDoor.Vc
