/-
  Texts joined by program: WkXl, SpXi, VgXi, Qg, Qh, Qj.
-/
import Derived.Test.YtjdohhididpomaaDoorWk17
import Derived.Test.YtjdohhididpomaaDoorWk07
import Derived.Test.YtjdohhididpomaaDoorWk15
import Derived.Test.YtjdohhididpomaaDoorProg
import Derived.KernelRfl
set_option linter.unusedVariables false
set_option linter.unusedSimpArgs false

section
namespace Go.Proofs.YtjdohhididpomaaDoor
open Go Go.RowKit Vc Ut Tb Cl
theorem clampG_eq {n : Int} {m : Nat} : (if 0 > (if (m : Int) < n then (m : Int) else n) - 1 then (0 : Int) else (if (m : Int) < n then (m : Int) else n) - 1) = ((clampG n m : Nat) : Int) := by
  unfold clampG
  have e : min n (m : Int) = if (m : Int) < n then (m : Int) else n := by split <;> omega
  rw [e]
  generalize (if (m : Int) < n then (m : Int) else n) = k
  split <;> omega
theorem nm_le {g : Gs} (hF : fitG g) (i : Nat) : -1 ≤ nmL g.num i ∧ nmL g.num i ≤ 9999 := by
  by_cases h : i < g.num.length
  · exact hF.num _ (nm_mem h)
  · unfold nmL; rw [List.getD_eq_getElem?_getD, List.getElem?_eq_none (by omega)]; exact ⟨by decide, by decide⟩
set_option maxRecDepth 2000 in
theorem doesG_ok : sDoesG.Ok Tryd.prog 37 := by
  refine doesG_vc ⟨numG_ok, backG_ok, wearG_ok, trivial⟩ ?_
  rintro ⟨A, g, r⟩ w ⟨hG, hF⟩
  dsimp only at hG hF ⊢
  have hw := hF.w; have hh := hF.h
  refine ⟨A.na, g.num.length, A.nc, (cell_of_heap hG.box 11).trans rfl, fun b w1 hn => ⟨rfl, (new_box hn).1, (new_box hn).2.1, fun w11 hs => ?_⟩⟩
  have hG1 := hG.ext hn.ext
  have hO1 := GlOut.ext hG hn.ext
  have z1 := hn.size
  have hlt := hG.lt
  have hbA : b ≠ A.p := fun h => by have := hlt A.p (.inl rfl); omega
  obtain ⟨hx2, hbox, -, -⟩ := (new_box hn).2.2 hs
  have hG2 := hG.ext hx2
  have hO2 := GlOut.ext hG hx2
  have hbn : blk A.na ≠ some b := fun h => by have := hlt b (.inr (.inr h)); omega
  have hbc : blk A.ca ≠ some b := fun h => by have := hlt b (.inr (.inl h)); omega
  refine ⟨g.void, (cell_of_heap hG2.box 13).trans rfl, bcase_mk (fun h => ⟨A, rfl, ?_⟩) (fun hv => ⟨g.asked, (cell_of_heap hG2.box 12).trans rfl, bcase_mk (fun ha => ?_) (fun ha => ?_)⟩)⟩
  · have e : doesG g r = g := by unfold doesG; rw [if_pos h]
    rw [e]; exact hO2
  · refine ⟨⟨b, A.na, A.nc, g.num, 0⟩, rfl, ⟨hbox, hG2.num.cells⟩, ?_⟩
    rintro x w' ⟨rfl, rfl⟩
    have e : doesG g r = if nmL g.num 0 = 25 ∧ (r = 104 ∨ r = 108) then { g with hid := r == 108 } else g := by
      unfold doesG; rw [if_neg (by rw [hv]; decide), if_pos ha]
    rw [e]
    refine bcase_mk (fun h25 => ?_) (fun h25 => ⟨A, rfl, ?_⟩)
    · have h25 := beq_iff_eq.1 h25
      have put : (r = 104 ∨ r = 108) → true = true ∧ (∃ old, w'.cell? ⟨A.p, 6, none⟩ = some old) ∧ w'.frozen? ⟨A.p, 6, none⟩ = false ∧ ∀ w12, Stored w' ⟨A.p, 6, none⟩ (.bool (r == 108)) w12 → ∃ x1 : GlP, Value.tuple #[] = Value.tuple #[] ∧ GlOut w w12 A x1 (if nmL g.num 0 = 25 ∧ (r = 104 ∨ r = 108) then { g with hid := r == 108 } else g) := fun hr =>
        ⟨rfl, hG2.old (k := 6) (by decide), hG2.free 6, fun w12 hs12 => ⟨A, rfl, by rw [if_pos ⟨h25, hr⟩]; exact hO2.trans (gl_put hG2 hs12 rfl rfl rfl)⟩⟩
      refine bcase_mk (fun h1 => put (.inl (beq_iff_eq.1 h1))) (fun h1 => bcase_mk (fun h2 => put (.inr (beq_iff_eq.1 h2))) (fun h2 => ⟨A, rfl, ?_⟩))
      rw [if_neg (fun hh => hh.2.elim (beq_eq_false_iff_ne.1 h1) (beq_eq_false_iff_ne.1 h2))]
      exact hO2
    · rw [if_neg (fun hh => beq_eq_false_iff_ne.1 h25 hh.1)]
      exact hO2
  have e : doesG g r = if r = 72 then { g with y := clampG (nmL g.num 0) g.h, x := clampG (nmL g.num 1) g.w }
      else if r = 74 ∧ nmL g.num 0 = 2 then backG { g with cs := List.replicate g.cs.length (blkC 0) }
      else if r = 109 then { g with sty := wearL g.num g.sty } else g := by
    unfold doesG; rw [if_neg (by rw [hv]; decide), if_neg (by rw [ha]; decide)]
  rw [e]
  have wr : ∀ {W : World}, W = w11 → r = 109 → ∃ (a4 : Option Addr) (n1 c1 : Nat), W.cell? ⟨b, 0, none⟩ = some (.slice a4 n1 c1) ∧ ∃ g1 : GGl, #[Value.pointer (some ⟨A.p, 0, none⟩), Value.slice a4 n1 c1] = #[Value.pointer (some ⟨g1.A.p, 0, none⟩), Value.slice g1.A.na g1.g.num.length g1.A.nc] ∧
      (GlIn W g1.A g1.g ∧ fitG g1.g) ∧ ∀ (x : GlP) (w' : World), GlOut W w' g1.A x (styS g1.g (wearL g1.g.num g1.g.sty)) → ∃ x1 : GlP, Value.tuple #[] = Value.tuple #[] ∧ GlOut w w' A x1 (if r = 72 then { g with y := clampG (nmL g.num 0) g.h, x := clampG (nmL g.num 1) g.w }
      else if r = 74 ∧ nmL g.num 0 = 2 then backG { g with cs := List.replicate g.cs.length (blkC 0) }
      else if r = 109 then { g with sty := wearL g.num g.sty } else g) := by
    rintro W rfl hr
    refine ⟨_, _, _, box_cell hbox, ⟨A, g⟩, rfl, ⟨hG2, hF⟩, fun x w' hO => ⟨x, rfl, ?_⟩⟩
    rw [if_neg (by omega), if_neg (by omega), if_pos hr]
    exact hO2.trans hO
  refine bcase_mk (fun h72 => ?_) (fun h72 => bcase_mk (fun h74 => ?_) (fun h74 => bcase_mk (fun h109 => wr rfl (beq_iff_eq.1 h109)) (fun h109 => ⟨A, rfl, ?_⟩)))
  · rw [if_pos (beq_iff_eq.1 h72)]
    intro w12 hd
    have hG3 := hG2.ext hd.ext
    have hO3 := hO2.trans (GlOut.ext hG2 hd.ext)
    have hbox3 := Ext.heap hd.ext hbox
    refine ⟨g.h, (cell_of_heap hG2.box 1).trans rfl, ⟨b, A.na, A.nc, g.num, 0⟩, rfl, ⟨hbox3, hG3.num.cells⟩, ?_⟩
    rintro x w' ⟨rfl, hW⟩
    replace hW := hW.symm; subst hW
    have n0 := nm_le hF 0
    have n1 := nm_le hF 1
    dsimp only
    refine ⟨Ext.refl _, inr_i64 (by split <;> omega) (by split <;> omega), rfl, hG3.old (k := 5) (by decide), hG3.free 5, fun w13 hs13 w14 hd14 => ?_⟩
    rw [clampG_eq] at hs13
    have hO4 := gl_put (g' := { g with y := clampG (nmL g.num 0) g.h }) hG3 hs13 rfl rfl rfl
    have hbox4 : w13.heap[b]? = some (.cells #[.slice A.na g.num.length A.nc] 62) := (hs13.other hbA).trans hbox3
    have hG4 := hO4.is
    have hG5 := hG4.ext hd14.ext
    have hO5 := hO4.trans (GlOut.ext hG4 hd14.ext)
    have hbox5 := Ext.heap hd14.ext hbox4
    refine ⟨g.w, (cell_of_heap hG4.box 0).trans rfl, ⟨b, A.na, A.nc, g.num, 1⟩, rfl, ⟨hbox5, hG5.num.cells⟩, ?_⟩
    rintro x w' ⟨rfl, hW⟩
    replace hW := hW.symm; subst hW
    dsimp only
    refine ⟨Ext.refl _, inr_i64 (by split <;> omega) (by split <;> omega), rfl, hG5.old (k := 4) (by decide), hG5.free 4, fun w15 hs15 => ⟨A, rfl, ?_⟩⟩
    rw [clampG_eq] at hs15
    exact hO3.trans (hO5.trans (gl_put hG5 hs15 rfl rfl rfl))
  · have h74 := beq_iff_eq.1 h74
    refine ⟨⟨b, A.na, A.nc, g.num, 0⟩, rfl, ⟨hbox, hG2.num.cells⟩, ?_⟩
    rintro x w' ⟨rfl, rfl⟩
    dsimp only
    refine bcase_mk (fun h2 => ?_) (fun h2 => bcase_mk (fun h109 => wr rfl (beq_iff_eq.1 h109)) (fun h109 => ⟨A, rfl, ?_⟩))
    · have h2 := beq_iff_eq.1 h2
      rw [if_neg (by omega), if_pos ⟨h74, h2⟩]
      have hF' : fitG { g with cs := List.replicate g.cs.length (blkC 0) } := ⟨hF.w, hF.h, by rw [List.length_replicate]; exact hF.len, hF.x, hF.y, hF.sty, fun c hc => by rw [(List.mem_replicate.1 hc).2]; decide, hF.num, hF.numl, by rw [List.length_replicate]; exact hF.last⟩
      refine ⟨A.ca, g.cs.length, A.cc, (cell_of_heap hG2.box 3).trans rfl, ?_⟩
      by_cases h0 : g.cs.length = 0
      · have hcs : g.cs = [] := List.eq_nil_of_length_eq_zero h0
        have e2 : ({ g with cs := List.replicate g.cs.length (blkC 0) } : Gs) = g := by rw [h0, List.replicate_zero, ← hcs]
        refine ⟨_, clear_zero _ _ _ h0, KOE.refl _ _, ⟨A, g⟩, rfl, ⟨hG2, hF⟩, fun x w' hO => ⟨x, rfl, ?_⟩⟩
        rw [e2]; exact hO2.trans hO
      · obtain ⟨q, hq⟩ := row_some hG2.row (by omega)
        have hrow := hG2.row
        rw [hq] at hrow
        obtain ⟨w3, hc, hk, hr, hf⟩ := clear_row (k := 0) (m := g.cs.length) (cx := A.cc) (ty := 0) (t := 25) elemCe.und zeroCe rfl hrow (Nat.zero_add _)
        rw [Nat.zero_mul, ← hq] at hc
        rw [List.take_zero, List.nil_append, ← hq] at hr
        have hO3 := gl_cells hG2 hr (hf.mono fun y _ hy => by rw [hq, hy]; rfl)
        refine ⟨w3, hc, hk, ⟨A, { g with cs := List.replicate g.cs.length (blkC 0) }⟩, rfl, ⟨hO3.is, hF'⟩, fun x w' hO => ⟨x, rfl, hO2.trans (hO3.trans hO)⟩⟩
    · have h2 := beq_eq_false_iff_ne.1 h2
      have h109 := beq_eq_false_iff_ne.1 h109
      rw [if_neg (by omega), if_neg (fun hh => h2 hh.2), if_neg h109]
      exact hO2
  · have h72 := beq_eq_false_iff_ne.1 h72
    have h74 := beq_eq_false_iff_ne.1 h74
    have h109 := beq_eq_false_iff_ne.1 h109
    rw [if_neg h72, if_neg (fun hh => h74 hh.1), if_neg h109]
    exact hO2
end Go.Proofs.YtjdohhididpomaaDoor
end

section
namespace Go.Proofs.YtjdohhididpomaaDoor
open Go Go.RowKit Vc Ut Tb Cl
def sttG (g : Gs) (s : Nat) : Gs := { g with stt := s }
structure GTak where
  A : GlP
  g : Gs
  r : Int
  m : Nat
def tkIn (w : World) (A : GlP) (g : Gs) (m : Nat) : Prop := GlIn w A g ∧ okG g m ∧ m ≤ 549755813888
def spJoinG : List (Nat × CallSpec) := [(19, sTextW), (18, sPlainW), (53, sLayG)]
def sJoinG : CallSpec where
  G := GTak
  args := fun g => #[.pointer (some ⟨g.A.p, 0, none⟩), .int .i32 g.r]
  pre := fun g w => tkIn w g.A g.g g.m
  X := GlP × Bool
  res := fun x => .bool x.2
  post := fun g w x w' => x.2 = (joinG g.g g.r).isSome ∧ GlOut w w' g.A x.1 ((joinG g.g g.r).getD g.g)
def spPutG : List (Nat × CallSpec) := [(52, sJoinG), (31, sTextC), (18, sPlainW), (41, sDownG), (53, sLayG)]
def sPutG : CallSpec where
  G := GTak
  args := fun g => #[.pointer (some ⟨g.A.p, 0, none⟩), .int .i32 g.r]
  pre := fun g w => tkIn w g.A g.g g.m ∧ g.g.stt = 0
  X := GlP
  res := fun _ => .tuple #[]
  post := fun g w x w' => GlOut w w' g.A x (putG g.g g.r)
def wrapG (g : Gs) (n : Nat) : Gs := if g.w < g.x + n then downG { g with last := 0, x := 0 } else { g with last := 0 }
def txG (g : Gs) (r : Int) : ByteArray := (textC (enc1 r) 0 (lkW g.wd)).1
structure ptI (g : GTak) (w00 : World) (x : GlP) (w : World) (s n : Value) : Prop where
  out : GlOut w00 w g.A x (wrapG g.g (plN (txG g.g g.r) g.g.wd))
  s : s = .string (txG g.g g.r)
  n : n = .int .i64 (plN (txG g.g g.r) g.g.wd : Int)
  put : putG g.g g.r = layG (wrapG g.g (plN (txG g.g g.r) g.g.wd)) (txG g.g g.r) (plN (txG g.g g.r) g.g.wd)
  has : ¬ (plN (txG g.g g.r) g.g.wd = 0 ∨ g.g.w < plN (txG g.g g.r) g.g.wd ∨ g.g.h = 0)
def annPutG (g : GTak) (w00 : World) : Ann where
  sp := spPutG
  cuts := [(5, 7, { X := GlP, sh := fun _ _ => [], inv := fun e _ x w => ptI g w00 x w (gv e 4) (gv e 6) })]
def spTakeG : List (Nat × CallSpec) := [(36, sHoldG), (37, sDoesG), (38, sRuneX .i8 kindR), (39, sPutG), (40, sBackG), (41, sDownG)]
def sTakeG : CallSpec where
  G := GTak
  args := fun g => #[.pointer (some ⟨g.A.p, 0, none⟩), .int .i32 g.r]
  pre := fun g w => tkIn w g.A g.g g.m
  X := GlP
  res := fun _ => .tuple #[]
  post := fun g w x w' => GlOut w w' g.A x (takeG g.g g.r)
def annTakeG (g : GTak) (w00 : World) : Ann where
  sp := spTakeG
  jumps := [(0, {
    X := GlP
    sh := fun _ _ => []
    inv := fun _ _ x w => GlOut w00 w g.A x (sttG (heldG g.g) 0) ∧ takeG g.g g.r = freeG (sttG (heldG g.g) 0) g.r ∧ okG (sttG (heldG g.g) 0) g.m
    mu := fun _ _ _ _ => 0 })]
end Go.Proofs.YtjdohhididpomaaDoor
end

section
set_option linter.unusedVariables false
namespace Go.Proofs.YtjdohhididpomaaDoor
open Go Go.RowKit Vc Ut Tb Cl
set_option maxRecDepth 1000000 in
theorem joinG_vc (hsp : SpecsOk Tryd.prog spJoinG) (h : ∀ (g : GTak) (w : World), tkIn w g.A g.g g.m → ∃ (n : Int), w.cell? ⟨g.A.p, 8, none⟩ = some (Value.int .i64 n) ∧ bcase (n == (0 : Int)) (∃ (x : GlP × Bool), Value.bool false = Value.bool x.snd ∧ x.snd = (joinG g.g g.r).isSome ∧ GlOut w w g.A x.fst ((joinG g.g g.r).getD g.g)) (∃ (n1 : Int), w.cell? ⟨g.A.p, 8, none⟩ = some (Value.int .i64 n1) ∧ InR .i64 (n1 - (1 : Int)) ∧ ∃ (a1 : Option Addr) (n2 : Nat) (c : Nat), w.cell? ⟨g.A.p, 3, none⟩ = some (Value.slice a1 n2 c) ∧ ∃ (k : Nat), n1 - (1 : Int) = (↑k : Int) ∧ k < n2 ∧ ptrE a1 fun (b o : Nat) => ∃ (s : ByteArray), w.cell? ⟨b, o + k * 6, none⟩ = some (Value.string s) ∧ ∃ (n3 : Int), w.cell? ⟨b, o + k * 6 + 1, none⟩ = some (Value.int .i8 n3) ∧ ∃ (n4 : Int), w.cell? ⟨b, o + k * 6 + 2, none⟩ = some (Value.int .i64 n4) ∧ ∃ (n5 : Int), w.cell? ⟨b, o + k * 6 + 3, none⟩ = some (Value.int .i64 n5) ∧ ∃ (b1 : Bool), w.cell? ⟨b, o + k * 6 + 4, none⟩ = some (Value.bool b1) ∧ ∃ (n6 : Int), w.cell? ⟨b, o + k * 6 + 5, none⟩ = some (Value.int .u16 n6) ∧ ∃ (g1 : Ce), #[Value.agg #[Value.string s, Value.int .i8 n3, Value.int .i64 n4, Value.int .i64 n5, Value.bool b1, Value.int .u16 n6]] = #[Value.agg #[Value.string g1.t, Value.int .i8 g1.p, Value.int .i64 g1.a, Value.int .i64 g1.n, Value.bool g1.r, Value.int .u16 (↑g1.st : Int)]] ∧ True ∧ ∀ (x : ByteArray) (w' : World), x = txC g1 ∧ Ext w w' → ∃ (b2 : Bool), w'.cell? ⟨g.A.p, 2, none⟩ = some (Value.bool b2) ∧ ∃ (g2 : ByteArray × Bool), #[Value.string x, Value.bool b2] = #[Value.string g2.fst, Value.bool g2.snd] ∧ (UD w' ∧ g2.fst.size ≤ 67108864) ∧ ∀ (x1 : Nat) (w'1 : World), x1 = plN g2.fst g2.snd ∧ Ext w' w'1 → x.size + (Utf8.encode g.r).size ≤ 9223372036854775807 ∧ ∃ (b3 : Bool), w'1.cell? ⟨g.A.p, 2, none⟩ = some (Value.bool b3) ∧ ∃ (g3 : ByteArray × Bool), #[Value.string (x ++ Utf8.encode g.r), Value.bool b3] = #[Value.string g3.fst, Value.bool g3.snd] ∧ (UD w'1 ∧ g3.fst.size ≤ 67108864) ∧ ∀ (x2 : Nat) (w'2 : World), x2 = plN g3.fst g3.snd ∧ Ext w'1 w'2 → bcase (decide ((↑x2 : Int) < (↑x1 : Int))) (∃ (x3 : GlP × Bool), Value.bool false = Value.bool x3.snd ∧ x3.snd = (joinG g.g g.r).isSome ∧ GlOut w w'2 g.A x3.fst ((joinG g.g g.r).getD g.g)) (bcase (decide ((↑x2 : Int) > (↑x1 : Int))) (InR .i64 (n1 - (1 : Int) + (1 : Int)) ∧ ∃ (n7 : Int), w'2.cell? ⟨g.A.p, 0, none⟩ = some (Value.int .i64 n7) ∧ (0 : Int) ≤ n1 - (1 : Int) + (1 : Int) ∧ (0 : Int) < n7 ∧ bcase ((n1 - (1 : Int) + (1 : Int)) % n7 == (0 : Int)) (true = true ∧ (∃ (old : Value), w'2.cell? ⟨g.A.p, 8, none⟩ = some old) ∧ w'2.frozen? ⟨g.A.p, 8, none⟩ = false ∧ ∀ (w1 : World), Stored w'2 ⟨g.A.p, 8, none⟩ (Value.int .i64 0) w1 → ∃ (x3 : GlP × Bool), Value.bool true = Value.bool x3.snd ∧ x3.snd = (joinG g.g g.r).isSome ∧ GlOut w w1 g.A x3.fst ((joinG g.g g.r).getD g.g)) (InR .i64 (n1 - (1 : Int) + (1 : Int)) ∧ ∃ (a5 : Option Addr) (n8 : Nat) (c1 : Nat), w'2.cell? ⟨g.A.p, 3, none⟩ = some (Value.slice a5 n8 c1) ∧ ∃ (k1 : Nat), n1 - (1 : Int) = (↑k1 : Int) ∧
 k1 < n8 ∧ ptrE a5 fun (b4 o1 : Nat) => ∃ (n9 : Int), w'2.cell? ⟨b4, o1 + k1 * 6 + 5, none⟩ = some (Value.int .u16 n9) ∧ ∃ (g4 : GLy), #[Value.pointer (some ⟨g.A.p, 0, none⟩), Value.int .i64 (n1 - (1 : Int) + (1 : Int)), Value.agg #[Value.string (ByteArray.mk #[]), Value.int .i8 1, Value.int .i64 0, Value.int .i64 0, Value.bool false, Value.int .u16 n9]] = #[Value.pointer (some ⟨g4.A.p, 0, none⟩), Value.int .i64 (↑g4.i : Int), Value.agg #[Value.string g4.c.t, Value.int .i8 g4.c.p, Value.int .i64 g4.c.a, Value.int .i64 g4.c.n, Value.bool g4.c.r, Value.int .u16 (↑g4.c.st : Int)]] ∧ (GlIn w'2 g4.A g4.g ∧ fitG g4.g ∧ layOk g4.g g4.i) ∧ ∀ (x3 : GlP) (w'3 : World), GlOut w'2 w'3 g4.A x3 (layS g4.g g4.i g4.c) → ∃ (n10 : Int), w'3.cell? ⟨g.A.p, 4, none⟩ = some (Value.int .i64 n10) ∧ InR .i64 (n10 + (1 : Int)) ∧ true = true ∧ (∃ (old : Value), w'3.cell? ⟨g.A.p, 4, none⟩ = some old) ∧ w'3.frozen? ⟨g.A.p, 4, none⟩ = false ∧ ∀ (w1 : World), Stored w'3 ⟨g.A.p, 4, none⟩ (Value.int .i64 (n10 + (1 : Int))) w1 → ∃ (a8 : Option Addr) (n11 : Nat) (c2 : Nat), w1.cell? ⟨g.A.p, 3, none⟩ = some (Value.slice a8 n11 c2) ∧ x.size + (Utf8.encode g.r).size ≤ 9223372036854775807 ∧ ∃ (k2 : Nat), n1 - (1 : Int) = (↑k2 : Int) ∧ k2 < n11 ∧ ptrE a8 fun (b5 o2 : Nat) => true = true ∧ (∃ (old : Value), w1.cell? ⟨b5, o2 + k2 * 6, none⟩ = some old) ∧ w1.frozen? ⟨b5, o2 + k2 * 6, none⟩ = false ∧ ∀ (w11 : World), Stored w1 ⟨b5, o2 + k2 * 6, none⟩ (Value.string (x ++ Utf8.encode g.r)) w11 → ∃ (x4 : GlP × Bool), Value.bool true = Value.bool x4.snd ∧ x4.snd = (joinG g.g g.r).isSome ∧ GlOut w w11 g.A x4.fst ((joinG g.g g.r).getD g.g))) (∃ (a5 : Option Addr) (n7 : Nat) (c1 : Nat), w'2.cell? ⟨g.A.p, 3, none⟩ = some (Value.slice a5 n7 c1) ∧ x.size + (Utf8.encode g.r).size ≤ 9223372036854775807 ∧ ∃ (k1 : Nat), n1 - (1 : Int) = (↑k1 : Int) ∧ k1 < n7 ∧ ptrE a5 fun (b4 o1 : Nat) => true = true ∧ (∃ (old : Value), w'2.cell? ⟨b4, o1 + k1 * 6, none⟩ = some old) ∧ w'2.frozen? ⟨b4, o1 + k1 * 6, none⟩ = false ∧ ∀ (w1 : World), Stored w'2 ⟨b4, o1 + k1 * 6, none⟩ (Value.string (x ++ Utf8.encode g.r)) w1 → ∃ (x3 : GlP × Bool), Value.bool true = Value.bool x3.snd ∧ x3.snd = (joinG g.g g.r).isSome ∧ GlOut w w1 g.A x3.fst ((joinG g.g g.r).getD g.g))))) :
    (sJoinG).Ok Tryd.prog 52 :=
  ok_of_vc sJoinG (annOf spJoinG) spJoinG (fun _ _ => rfl) (fun _ _ => rfl) hsp Tryd.func52 rfl (n := 2) (fun _ => rfl) (by kernel_rfl) (vcast (by kernel_rfl) h)
set_option maxRecDepth 1000000 in
theorem putG_vc (hsp : SpecsOk Tryd.prog spPutG) (h : ∀ (g : GTak) (w : World), tkIn w g.A g.g g.m ∧ g.g.stt = (0 : Nat) → ∃ (g1 : GTak), #[Value.pointer (some ⟨g.A.p, 0, none⟩), Value.int .i32 g.r] = #[Value.pointer (some ⟨g1.A.p, 0, none⟩), Value.int .i32 g1.r] ∧ tkIn w g1.A g1.g g1.m ∧ ∀ (x : GlP × Bool) (w' : World), x.snd = (joinG g1.g g1.r).isSome ∧ GlOut w w' g1.A x.fst ((joinG g1.g g1.r).getD g1.g) → bcase x.snd (∃ (x1 : GlP), Value.tuple #[] = Value.tuple #[] ∧ GlOut w w' g.A x1 (putG g.g g.r)) (true = true ∧ (∃ (old : Value), w'.cell? ⟨g.A.p, 8, none⟩ = some old) ∧ w'.frozen? ⟨g.A.p, 8, none⟩ = false ∧ ∀ (w1 : World), Stored w' ⟨g.A.p, 8, none⟩ (Value.int .i64 0) w1 → ∃ (b : Bool), w1.cell? ⟨g.A.p, 2, none⟩ = some (Value.bool b) ∧ ∃ (g2 : GT6), #[Value.string (Utf8.encode g.r), Value.int .i64 0, Value.agg #[Value.int .i64 0, Value.bool b, Value.int .i8 0, Value.bool false, Value.bool false]] = #[Value.string g2.s, Value.int .i64 g2.col, Value.agg #[Value.int .i64 g2.l.tab, Value.bool g2.l.wide, Value.int .i8 g2.l.want, Value.bool g2.l.join, Value.bool g2.l.raw]] ∧ (U8 w1 ∧ DB w1 ∧ g2.s.size ≤ 67108864) ∧ ∀ (x1 : ByteArray × Nat) (w'1 : World), x1 = textC g2.s g2.col g2.l ∧ Ext w1 w'1 → ∃ (b1 : Bool), w'1.cell? ⟨g.A.p, 2, none⟩ = some (Value.bool b1) ∧ ∃ (g3 : ByteArray × Bool), #[Value.string x1.fst, Value.bool b1] = #[Value.string g3.fst, Value.bool g3.snd] ∧ (UD w'1 ∧ g3.fst.size ≤ 67108864) ∧ ∀ (x2 : Nat) (w'2 : World), x2 = plN g3.fst g3.snd ∧ Ext w'1 w'2 → bcase ((↑x2 : Int) == (0 : Int)) (∃ (x3 : GlP), Value.tuple #[] = Value.tuple #[] ∧ GlOut w w'2 g.A x3 (putG g.g g.r)) (∃ (n : Int), w'2.cell? ⟨g.A.p, 0, none⟩ = some (Value.int .i64 n) ∧ bcase (decide ((↑x2 : Int) > n)) (∃ (x3 : GlP), Value.tuple #[] = Value.tuple #[] ∧ GlOut w w'2 g.A x3 (putG g.g g.r)) (∃ (n1 : Int), w'2.cell? ⟨g.A.p, 1, none⟩ = some (Value.int .i64 n1) ∧ bcase (n1 == (0 : Int)) (∃ (x3 : GlP), Value.tuple #[] = Value.tuple #[] ∧ GlOut w w'2 g.A x3 (putG g.g g.r)) ((∀ (w11 : World), Drew w'2 w11 → ∃ (n2 : Int), w'2.cell? ⟨g.A.p, 4, none⟩ = some (Value.int .i64 n2) ∧ InR .i64 (n2 + (↑x2 : Int)) ∧ ∃ (n3 : Int), w'2.cell? ⟨g.A.p, 0, none⟩ = some (Value.int .i64 n3) ∧ bcase (decide (n2 + (↑x2 : Int) > n3)) (true = true ∧ (∃ (old : Value), w11.cell? ⟨g.A.p, 4, none⟩ = some old) ∧ w11.frozen? ⟨g.A.p, 4, none⟩ = false ∧ ∀ (w12 : World), Stored w11 ⟨g.A.p, 4, none⟩ (Value.int .i64 0) w12 → ∃ (g4 : GGl), #[Value.pointer (some ⟨g.A.p, 0, none⟩)] = #[Value.pointer (some ⟨g4.A.p, 0, none⟩)] ∧ (GlIn w12 g4.A g4.g ∧ fitG g4.g) ∧ ∀ (x3 : GlP) (w'3 : World), GlOut w12 w'3 g4.A x3 (downG g4.g) → ∃ (c : GlP), ptI g w c w'3 (Value.string x1.fst) (Value.int .i64 (↑x2 : Int))) (∃ (c : GlP), ptI g w c w11 (Value.string x1.fst) (Value.int .i64 (↑x2 : Int)))) ∧ ∀ (u : Nat → Value) (c : GlP) (w'3 : World), ptI g w c w'3 (Value.string x1.fst) (Value.int .i64 (↑x2 : Int)) → ∀ (w11 : World), Drew w'3 w11 → ∃ (n2 : Int), w'3.cell? ⟨g.A.p, 5, none⟩ = some (Value.int .i64 n2) ∧ ∃ (n3 : Int),
 w'3.cell? ⟨g.A.p, 0, none⟩ = some (Value.int .i64 n3) ∧ InR .i64 (n2 * n3) ∧ ∃ (n4 : Int), w'3.cell? ⟨g.A.p, 4, none⟩ = some (Value.int .i64 n4) ∧ InR .i64 (n2 * n3 + n4) ∧ bcase ((↑x2 : Int) == (2 : Int)) (InR .i64 (n2 * n3 + n4 + (1 : Int)) ∧ ∃ (n5 : Int), w11.cell? ⟨g.A.p, 7, none⟩ = some (Value.int .u16 n5) ∧ ∃ (g4 : GLy), #[Value.pointer (some ⟨g.A.p, 0, none⟩), Value.int .i64 (n2 * n3 + n4 + (1 : Int)), Value.agg #[Value.string (ByteArray.mk #[]), Value.int .i8 0, Value.int .i64 0, Value.int .i64 0, Value.bool false, Value.int .u16 n5]] = #[Value.pointer (some ⟨g4.A.p, 0, none⟩), Value.int .i64 (↑g4.i : Int), Value.agg #[Value.string g4.c.t, Value.int .i8 g4.c.p, Value.int .i64 g4.c.a, Value.int .i64 g4.c.n, Value.bool g4.c.r, Value.int .u16 (↑g4.c.st : Int)]] ∧ (GlIn w11 g4.A g4.g ∧ fitG g4.g ∧ layOk g4.g g4.i) ∧ ∀ (x3 : GlP) (w'4 : World), GlOut w11 w'4 g4.A x3 (layS g4.g g4.i g4.c) → ∃ (n6 : Int), w'4.cell? ⟨g.A.p, 7, none⟩ = some (Value.int .u16 n6) ∧ ∃ (g5 : GLy), #[Value.pointer (some ⟨g.A.p, 0, none⟩), Value.int .i64 (n2 * n3 + n4), Value.agg #[Value.string x1.fst, Value.int .i8 0, Value.int .i64 0, Value.int .i64 0, Value.bool false, Value.int .u16 n6]] = #[Value.pointer (some ⟨g5.A.p, 0, none⟩), Value.int .i64 (↑g5.i : Int), Value.agg #[Value.string g5.c.t, Value.int .i8 g5.c.p, Value.int .i64 g5.c.a, Value.int .i64 g5.c.n, Value.bool g5.c.r, Value.int .u16 (↑g5.c.st : Int)]] ∧ (GlIn w'4 g5.A g5.g ∧ fitG g5.g ∧ layOk g5.g g5.i) ∧ ∀ (x4 : GlP) (w'5 : World), GlOut w'4 w'5 g5.A x4 (layS g5.g g5.i g5.c) → bcase ((↑x2 : Int) == (2 : Int)) (∃ (a9 : Option Addr) (n7 : Nat) (c1 : Nat), w'5.cell? ⟨g.A.p, 3, none⟩ = some (Value.slice a9 n7 c1) ∧ InR .i64 (n2 * n3 + n4 + (1 : Int)) ∧ ∃ (k : Nat), n2 * n3 + n4 + (1 : Int) = (↑k : Int) ∧ k < n7 ∧ ptrE a9 fun (b2 o : Nat) => true = true ∧ (∃ (old : Value), w'5.cell? ⟨b2, o + k * 6 + 1, none⟩ = some old) ∧ w'5.frozen? ⟨b2, o + k * 6 + 1, none⟩ = false ∧ ∀ (w12 : World), Stored w'5 ⟨b2, o + k * 6 + 1, none⟩ (Value.int .i8 1) w12 → ∃ (n8 : Int), w12.cell? ⟨g.A.p, 4, none⟩ = some (Value.int .i64 n8) ∧ InR .i64 (n8 + (↑x2 : Int)) ∧ true = true ∧ (∃ (old : Value), w12.cell? ⟨g.A.p, 4, none⟩ = some old) ∧ w12.frozen? ⟨g.A.p, 4, none⟩ = false ∧ ∀ (w13 : World), Stored w12 ⟨g.A.p, 4, none⟩ (Value.int .i64 (n8 + (↑x2 : Int))) w13 → InR .i64 (n2 * n3 + n4 + (1 : Int)) ∧ true = true ∧ (∃ (old : Value), w13.cell? ⟨g.A.p, 8, none⟩ = some old) ∧ w13.frozen? ⟨g.A.p, 8, none⟩ = false ∧ ∀ (w14 : World), Stored w13 ⟨g.A.p, 8, none⟩ (Value.int .i64 (n2 * n3 + n4 + (1 : Int))) w14 → ∃ (x5 : GlP), Value.tuple #[] = Value.tuple #[] ∧ GlOut w w14 g.A x5 (putG g.g g.r)) (∃ (n7 : Int), w'5.cell? ⟨g.A.p, 4, none⟩ = some (Value.int .i64 n7) ∧ InR .i64 (n7 + (↑x2 : Int)) ∧ true = true ∧ (∃ (old : Value), w'5.cell? ⟨g.A.p, 4, none⟩ = some old) ∧ w'5.frozen? ⟨g.A.p, 4, none⟩ = false ∧ ∀ (w12 : World), Stored w'5 ⟨g.A.p, 4, none⟩ (Value.int .i64 (n7 + (↑x2 : Int))) w12 → InR .i64 (n2 * n3 + n4 + (1 : Int)) ∧ true = true ∧
 (∃ (old : Value), w12.cell? ⟨g.A.p, 8, none⟩ = some old) ∧ w12.frozen? ⟨g.A.p, 8, none⟩ = false ∧ ∀ (w13 : World), Stored w12 ⟨g.A.p, 8, none⟩ (Value.int .i64 (n2 * n3 + n4 + (1 : Int))) w13 → ∃ (x5 : GlP), Value.tuple #[] = Value.tuple #[] ∧ GlOut w w13 g.A x5 (putG g.g g.r))) (∃ (n5 : Int), w11.cell? ⟨g.A.p, 7, none⟩ = some (Value.int .u16 n5) ∧ ∃ (g4 : GLy), #[Value.pointer (some ⟨g.A.p, 0, none⟩), Value.int .i64 (n2 * n3 + n4), Value.agg #[Value.string x1.fst, Value.int .i8 0, Value.int .i64 0, Value.int .i64 0, Value.bool false, Value.int .u16 n5]] = #[Value.pointer (some ⟨g4.A.p, 0, none⟩), Value.int .i64 (↑g4.i : Int), Value.agg #[Value.string g4.c.t, Value.int .i8 g4.c.p, Value.int .i64 g4.c.a, Value.int .i64 g4.c.n, Value.bool g4.c.r, Value.int .u16 (↑g4.c.st : Int)]] ∧ (GlIn w11 g4.A g4.g ∧ fitG g4.g ∧ layOk g4.g g4.i) ∧ ∀ (x3 : GlP) (w'4 : World), GlOut w11 w'4 g4.A x3 (layS g4.g g4.i g4.c) → bcase ((↑x2 : Int) == (2 : Int)) (∃ (a8 : Option Addr) (n6 : Nat) (c1 : Nat), w'4.cell? ⟨g.A.p, 3, none⟩ = some (Value.slice a8 n6 c1) ∧ InR .i64 (n2 * n3 + n4 + (1 : Int)) ∧ ∃ (k : Nat), n2 * n3 + n4 + (1 : Int) = (↑k : Int) ∧ k < n6 ∧ ptrE a8 fun (b2 o : Nat) => true = true ∧ (∃ (old : Value), w'4.cell? ⟨b2, o + k * 6 + 1, none⟩ = some old) ∧ w'4.frozen? ⟨b2, o + k * 6 + 1, none⟩ = false ∧ ∀ (w12 : World), Stored w'4 ⟨b2, o + k * 6 + 1, none⟩ (Value.int .i8 1) w12 → ∃ (n7 : Int), w12.cell? ⟨g.A.p, 4, none⟩ = some (Value.int .i64 n7) ∧ InR .i64 (n7 + (↑x2 : Int)) ∧ true = true ∧ (∃ (old : Value), w12.cell? ⟨g.A.p, 4, none⟩ = some old) ∧ w12.frozen? ⟨g.A.p, 4, none⟩ = false ∧ ∀ (w13 : World), Stored w12 ⟨g.A.p, 4, none⟩ (Value.int .i64 (n7 + (↑x2 : Int))) w13 → InR .i64 (n2 * n3 + n4 + (1 : Int)) ∧ true = true ∧ (∃ (old : Value), w13.cell? ⟨g.A.p, 8, none⟩ = some old) ∧ w13.frozen? ⟨g.A.p, 8, none⟩ = false ∧ ∀ (w14 : World), Stored w13 ⟨g.A.p, 8, none⟩ (Value.int .i64 (n2 * n3 + n4 + (1 : Int))) w14 → ∃ (x4 : GlP), Value.tuple #[] = Value.tuple #[] ∧ GlOut w w14 g.A x4 (putG g.g g.r)) (∃ (n6 : Int), w'4.cell? ⟨g.A.p, 4, none⟩ = some (Value.int .i64 n6) ∧ InR .i64 (n6 + (↑x2 : Int)) ∧ true = true ∧ (∃ (old : Value), w'4.cell? ⟨g.A.p, 4, none⟩ = some old) ∧ w'4.frozen? ⟨g.A.p, 4, none⟩ = false ∧ ∀ (w12 : World), Stored w'4 ⟨g.A.p, 4, none⟩ (Value.int .i64 (n6 + (↑x2 : Int))) w12 → InR .i64 (n2 * n3 + n4 + (1 : Int)) ∧ true = true ∧ (∃ (old : Value), w12.cell? ⟨g.A.p, 8, none⟩ = some old) ∧ w12.frozen? ⟨g.A.p, 8, none⟩ = false ∧ ∀ (w13 : World), Stored w12 ⟨g.A.p, 8, none⟩ (Value.int .i64 (n2 * n3 + n4 + (1 : Int))) w13 → ∃ (x4 : GlP), Value.tuple #[] = Value.tuple #[] ∧ GlOut w w13 g.A x4 (putG g.g g.r)))))))) :
    (sPutG).Ok Tryd.prog 39 :=
  ok_of_vc sPutG annPutG spPutG (fun _ _ => rfl) (fun _ _ => rfl) hsp Tryd.func39 rfl (n := 2) (fun _ => rfl) (by kernel_rfl) (vcast (by kernel_rfl) h)
set_option maxRecDepth 1000000 in
theorem takeG_vc (hsp : SpecsOk Tryd.prog spTakeG) (h : ∀ (g : GTak) (w : World), tkIn w g.A g.g g.m → (∃ (n : Int), w.cell? ⟨g.A.p, 10, none⟩ = some (Value.int .i64 n) ∧ bcase (n == (1 : Int)) (true = true ∧ (∃ (old : Value), w.cell? ⟨g.A.p, 10, none⟩ = some old) ∧ w.frozen? ⟨g.A.p, 10, none⟩ = false ∧ ∀ (w1 : World), Stored w ⟨g.A.p, 10, none⟩ (Value.int .i64 0) w1 → bcase (g.r == (91 : Int)) (true = true ∧ (∃ (old : Value), w1.cell? ⟨g.A.p, 10, none⟩ = some old) ∧ w1.frozen? ⟨g.A.p, 10, none⟩ = false ∧ ∀ (w11 : World), Stored w1 ⟨g.A.p, 10, none⟩ (Value.int .i64 2) w11 → true = true ∧ (∃ (old : Value), w11.cell? ⟨g.A.p, 11, none⟩ = some old) ∧ w11.frozen? ⟨g.A.p, 11, none⟩ = false ∧ ∀ (w12 : World), Stored w11 ⟨g.A.p, 11, none⟩ (Value.slice none (0 : Nat) (0 : Nat)) w12 → true = true ∧ (∃ (old : Value), w12.cell? ⟨g.A.p, 12, none⟩ = some old) ∧ w12.frozen? ⟨g.A.p, 12, none⟩ = false ∧ ∀ (w13 : World), Stored w12 ⟨g.A.p, 12, none⟩ (Value.bool false) w13 → true = true ∧ (∃ (old : Value), w13.cell? ⟨g.A.p, 13, none⟩ = some old) ∧ w13.frozen? ⟨g.A.p, 13, none⟩ = false ∧ ∀ (w14 : World), Stored w13 ⟨g.A.p, 13, none⟩ (Value.bool false) w14 → ∃ (x : GlP), Value.tuple #[] = Value.tuple #[] ∧ GlOut w w14 g.A x (takeG g.g g.r)) (∃ (x : GlP), Value.tuple #[] = Value.tuple #[] ∧ GlOut w w1 g.A x (takeG g.g g.r))) (bcase (n == (2 : Int)) (∃ (a1 : Option Addr) (n1 : Nat) (c : Nat), w.cell? ⟨g.A.p, 11, none⟩ = some (Value.slice a1 n1 c) ∧ bcase a1.isNone (∀ (b : Nat) (w1 : World), New w (Obj.cells #[Value.int .i64 (-1 : Int)] (3 : Nat)) b w1 → true = true ∧ (∃ (old : Value), w1.cell? ⟨g.A.p, 11, none⟩ = some old) ∧ w1.frozen? ⟨g.A.p, 11, none⟩ = false ∧ ∀ (w11 : World), Stored w1 ⟨g.A.p, 11, none⟩ (Value.slice (some ⟨b, 0, none⟩) (1 : Nat) (1 : Nat)) w11 → bcase (decide (g.r ≥ (32 : Int)) && decide (g.r ≤ (63 : Int))) (∃ (g1 : GHo), #[Value.pointer (some ⟨g.A.p, 11, none⟩), Value.int .i32 g.r, Value.bool a1.isNone] = #[Value.pointer (some ⟨g1.A.p, 11, none⟩), Value.int .i32 g1.r, Value.bool g1.f] ∧ (GlIn w11 g1.A g1.g ∧ fitG g1.g ∧ g1.g.num ≠ []) ∧ ∀ (x : GlP) (w' : World), GlOut w11 w' g1.A x (holdG g1.g g1.r g1.f) → ∃ (x1 : GlP), Value.tuple #[] = Value.tuple #[] ∧ GlOut w w' g.A x1 (takeG g.g g.r)) (bcase (decide (g.r ≥ (64 : Int)) && decide (g.r ≤ (126 : Int))) (true = true ∧ (∃ (old : Value), w11.cell? ⟨g.A.p, 10, none⟩ = some old) ∧ w11.frozen? ⟨g.A.p, 10, none⟩ = false ∧ ∀ (w12 : World), Stored w11 ⟨g.A.p, 10, none⟩ (Value.int .i64 0) w12 → ∃ (g1 : GDs), #[Value.pointer (some ⟨g.A.p, 0, none⟩), Value.int .i32 g.r] = #[Value.pointer (some ⟨g1.A.p, 0, none⟩), Value.int .i32 g1.r] ∧ (GlIn w12 g1.A g1.g ∧ fitG g1.g) ∧ ∀ (x : GlP) (w' : World), GlOut w12 w' g1.A x (doesG g1.g g1.r) → ∃ (x1 : GlP), Value.tuple #[] = Value.tuple #[] ∧ GlOut w w' g.A x1 (takeG g.g g.r)) (true = true ∧ (∃ (old : Value), w11.cell? ⟨g.A.p, 10, none⟩ = some old) ∧ w11.frozen? ⟨g.A.p, 10, none⟩ = false ∧ ∀ (w12 : World), Stored w11 ⟨g.A.p, 10, none⟩ (Value.int .i64 0) w12 →
 ∃ (y : GlP), GlOut w w12 g.A y (sttG (heldG g.g) (0 : Nat)) ∧ takeG g.g g.r = freeG (sttG (heldG g.g) (0 : Nat)) g.r ∧ okG (sttG (heldG g.g) (0 : Nat)) g.m))) (bcase (decide (g.r ≥ (32 : Int)) && decide (g.r ≤ (63 : Int))) (∃ (g1 : GHo), #[Value.pointer (some ⟨g.A.p, 11, none⟩), Value.int .i32 g.r, Value.bool a1.isNone] = #[Value.pointer (some ⟨g1.A.p, 11, none⟩), Value.int .i32 g1.r, Value.bool g1.f] ∧ (GlIn w g1.A g1.g ∧ fitG g1.g ∧ g1.g.num ≠ []) ∧ ∀ (x : GlP) (w' : World), GlOut w w' g1.A x (holdG g1.g g1.r g1.f) → ∃ (x1 : GlP), Value.tuple #[] = Value.tuple #[] ∧ GlOut w w' g.A x1 (takeG g.g g.r)) (bcase (decide (g.r ≥ (64 : Int)) && decide (g.r ≤ (126 : Int))) (true = true ∧ (∃ (old : Value), w.cell? ⟨g.A.p, 10, none⟩ = some old) ∧ w.frozen? ⟨g.A.p, 10, none⟩ = false ∧ ∀ (w1 : World), Stored w ⟨g.A.p, 10, none⟩ (Value.int .i64 0) w1 → ∃ (g1 : GDs), #[Value.pointer (some ⟨g.A.p, 0, none⟩), Value.int .i32 g.r] = #[Value.pointer (some ⟨g1.A.p, 0, none⟩), Value.int .i32 g1.r] ∧ (GlIn w1 g1.A g1.g ∧ fitG g1.g) ∧ ∀ (x : GlP) (w' : World), GlOut w1 w' g1.A x (doesG g1.g g1.r) → ∃ (x1 : GlP), Value.tuple #[] = Value.tuple #[] ∧ GlOut w w' g.A x1 (takeG g.g g.r)) (true = true ∧ (∃ (old : Value), w.cell? ⟨g.A.p, 10, none⟩ = some old) ∧ w.frozen? ⟨g.A.p, 10, none⟩ = false ∧ ∀ (w1 : World), Stored w ⟨g.A.p, 10, none⟩ (Value.int .i64 0) w1 → ∃ (y : GlP), GlOut w w1 g.A y (sttG (heldG g.g) (0 : Nat)) ∧ takeG g.g g.r = freeG (sttG (heldG g.g) (0 : Nat)) g.r ∧ okG (sttG (heldG g.g) (0 : Nat)) g.m)))) (∃ (g1 : Int), #[Value.int .i32 g.r] = #[Value.int .i32 g1] ∧ True ∧ ∀ (x : Int) (w' : World), x = kindR g1 ∧ Ext w w' → bcase (x != (0 : Int)) (∃ (g2 : GTak), #[Value.pointer (some ⟨g.A.p, 0, none⟩), Value.int .i32 g.r] = #[Value.pointer (some ⟨g2.A.p, 0, none⟩), Value.int .i32 g2.r] ∧ (tkIn w' g2.A g2.g g2.m ∧ g2.g.stt = (0 : Nat)) ∧ ∀ (x1 : GlP) (w'1 : World), GlOut w' w'1 g2.A x1 (putG g2.g g2.r) → ∃ (x2 : GlP), Value.tuple #[] = Value.tuple #[] ∧ GlOut w w'1 g.A x2 (takeG g.g g.r)) (true = true ∧ (∃ (old : Value), w'.cell? ⟨g.A.p, 8, none⟩ = some old) ∧ w'.frozen? ⟨g.A.p, 8, none⟩ = false ∧ ∀ (w1 : World), Stored w' ⟨g.A.p, 8, none⟩ (Value.int .i64 0) w1 → bcase (g.r == (27 : Int)) (true = true ∧ (∃ (old : Value), w1.cell? ⟨g.A.p, 10, none⟩ = some old) ∧ w1.frozen? ⟨g.A.p, 10, none⟩ = false ∧ ∀ (w11 : World), Stored w1 ⟨g.A.p, 10, none⟩ (Value.int .i64 1) w11 → ∃ (x1 : GlP), Value.tuple #[] = Value.tuple #[] ∧ GlOut w w11 g.A x1 (takeG g.g g.r)) (bcase (g.r == (13 : Int)) (true = true ∧ (∃ (old : Value), w1.cell? ⟨g.A.p, 4, none⟩ = some old) ∧ w1.frozen? ⟨g.A.p, 4, none⟩ = false ∧ ∀ (w11 : World), Stored w1 ⟨g.A.p, 4, none⟩ (Value.int .i64 0) w11 → ∃ (x1 : GlP), Value.tuple #[] = Value.tuple #[] ∧ GlOut w w11 g.A x1 (takeG g.g g.r)) (bcase (g.r == (10 : Int)) (∃ (g2 : GGl), #[Value.pointer (some ⟨g.A.p, 0, none⟩)] = #[Value.pointer (some ⟨g2.A.p, 0, none⟩)] ∧ (GlIn w1 g2.A g2.g ∧ fitG g2.g) ∧ ∀ (x1 : GlP) (w'1 : World),
 GlOut w1 w'1 g2.A x1 (backG g2.g) → ∃ (g3 : GGl), #[Value.pointer (some ⟨g.A.p, 0, none⟩)] = #[Value.pointer (some ⟨g3.A.p, 0, none⟩)] ∧ (GlIn w'1 g3.A g3.g ∧ fitG g3.g) ∧ ∀ (x2 : GlP) (w'2 : World), GlOut w'1 w'2 g3.A x2 (downG g3.g) → ∃ (x3 : GlP), Value.tuple #[] = Value.tuple #[] ∧ GlOut w w'2 g.A x3 (takeG g.g g.r)) (∃ (x1 : GlP), Value.tuple #[] = Value.tuple #[] ∧ GlOut w w1 g.A x1 (takeG g.g g.r)))))))) ∧ (∀ (u : Nat → Value) (x : GlP) (w' : World), GlOut w w' g.A x (sttG (heldG g.g) (0 : Nat)) ∧ takeG g.g g.r = freeG (sttG (heldG g.g) (0 : Nat)) g.r ∧ okG (sttG (heldG g.g) (0 : Nat)) g.m → ∃ (n : Int), w'.cell? ⟨g.A.p, 10, none⟩ = some (Value.int .i64 n) ∧ bcase (n == (1 : Int)) (true = true ∧ (∃ (old : Value), w'.cell? ⟨g.A.p, 10, none⟩ = some old) ∧ w'.frozen? ⟨g.A.p, 10, none⟩ = false ∧ ∀ (w1 : World), Stored w' ⟨g.A.p, 10, none⟩ (Value.int .i64 0) w1 → bcase (g.r == (91 : Int)) (true = true ∧ (∃ (old : Value), w1.cell? ⟨g.A.p, 10, none⟩ = some old) ∧ w1.frozen? ⟨g.A.p, 10, none⟩ = false ∧ ∀ (w11 : World), Stored w1 ⟨g.A.p, 10, none⟩ (Value.int .i64 2) w11 → true = true ∧ (∃ (old : Value), w11.cell? ⟨g.A.p, 11, none⟩ = some old) ∧ w11.frozen? ⟨g.A.p, 11, none⟩ = false ∧ ∀ (w12 : World), Stored w11 ⟨g.A.p, 11, none⟩ (Value.slice none (0 : Nat) (0 : Nat)) w12 → true = true ∧ (∃ (old : Value), w12.cell? ⟨g.A.p, 12, none⟩ = some old) ∧ w12.frozen? ⟨g.A.p, 12, none⟩ = false ∧ ∀ (w13 : World), Stored w12 ⟨g.A.p, 12, none⟩ (Value.bool false) w13 → true = true ∧ (∃ (old : Value), w13.cell? ⟨g.A.p, 13, none⟩ = some old) ∧ w13.frozen? ⟨g.A.p, 13, none⟩ = false ∧ ∀ (w14 : World), Stored w13 ⟨g.A.p, 13, none⟩ (Value.bool false) w14 → ∃ (x1 : GlP), Value.tuple #[] = Value.tuple #[] ∧ GlOut w w14 g.A x1 (takeG g.g g.r)) (∃ (x1 : GlP), Value.tuple #[] = Value.tuple #[] ∧ GlOut w w1 g.A x1 (takeG g.g g.r))) (bcase (n == (2 : Int)) (∃ (a2 : Option Addr) (n1 : Nat) (c : Nat), w'.cell? ⟨g.A.p, 11, none⟩ = some (Value.slice a2 n1 c) ∧ bcase a2.isNone (∀ (b : Nat) (w1 : World), New w' (Obj.cells #[Value.int .i64 (-1 : Int)] (3 : Nat)) b w1 → true = true ∧ (∃ (old : Value), w1.cell? ⟨g.A.p, 11, none⟩ = some old) ∧ w1.frozen? ⟨g.A.p, 11, none⟩ = false ∧ ∀ (w11 : World), Stored w1 ⟨g.A.p, 11, none⟩ (Value.slice (some ⟨b, 0, none⟩) (1 : Nat) (1 : Nat)) w11 → bcase (decide (g.r ≥ (32 : Int)) && decide (g.r ≤ (63 : Int))) (∃ (g1 : GHo), #[Value.pointer (some ⟨g.A.p, 11, none⟩), Value.int .i32 g.r, Value.bool a2.isNone] = #[Value.pointer (some ⟨g1.A.p, 11, none⟩), Value.int .i32 g1.r, Value.bool g1.f] ∧ (GlIn w11 g1.A g1.g ∧ fitG g1.g ∧ g1.g.num ≠ []) ∧ ∀ (x1 : GlP) (w'1 : World), GlOut w11 w'1 g1.A x1 (holdG g1.g g1.r g1.f) → ∃ (x2 : GlP), Value.tuple #[] = Value.tuple #[] ∧ GlOut w w'1 g.A x2 (takeG g.g g.r)) (bcase (decide (g.r ≥ (64 : Int)) && decide (g.r ≤ (126 : Int))) (true = true ∧ (∃ (old : Value), w11.cell? ⟨g.A.p, 10, none⟩ = some old) ∧ w11.frozen? ⟨g.A.p, 10, none⟩ = false ∧ ∀ (w12 : World), Stored w11 ⟨g.A.p, 10, none⟩ (Value.int .i64 0) w12 →
 ∃ (g1 : GDs), #[Value.pointer (some ⟨g.A.p, 0, none⟩), Value.int .i32 g.r] = #[Value.pointer (some ⟨g1.A.p, 0, none⟩), Value.int .i32 g1.r] ∧ (GlIn w12 g1.A g1.g ∧ fitG g1.g) ∧ ∀ (x1 : GlP) (w'1 : World), GlOut w12 w'1 g1.A x1 (doesG g1.g g1.r) → ∃ (x2 : GlP), Value.tuple #[] = Value.tuple #[] ∧ GlOut w w'1 g.A x2 (takeG g.g g.r)) (true = true ∧ (∃ (old : Value), w11.cell? ⟨g.A.p, 10, none⟩ = some old) ∧ w11.frozen? ⟨g.A.p, 10, none⟩ = false ∧ ∀ (w12 : World), Stored w11 ⟨g.A.p, 10, none⟩ (Value.int .i64 0) w12 → ∃ (y : GlP), (GlOut w w12 g.A y (sttG (heldG g.g) (0 : Nat)) ∧ takeG g.g g.r = freeG (sttG (heldG g.g) (0 : Nat)) g.r ∧ okG (sttG (heldG g.g) (0 : Nat)) g.m) ∧ (0 : Nat) < 0))) (bcase (decide (g.r ≥ (32 : Int)) && decide (g.r ≤ (63 : Int))) (∃ (g1 : GHo), #[Value.pointer (some ⟨g.A.p, 11, none⟩), Value.int .i32 g.r, Value.bool a2.isNone] = #[Value.pointer (some ⟨g1.A.p, 11, none⟩), Value.int .i32 g1.r, Value.bool g1.f] ∧ (GlIn w' g1.A g1.g ∧ fitG g1.g ∧ g1.g.num ≠ []) ∧ ∀ (x1 : GlP) (w'1 : World), GlOut w' w'1 g1.A x1 (holdG g1.g g1.r g1.f) → ∃ (x2 : GlP), Value.tuple #[] = Value.tuple #[] ∧ GlOut w w'1 g.A x2 (takeG g.g g.r)) (bcase (decide (g.r ≥ (64 : Int)) && decide (g.r ≤ (126 : Int))) (true = true ∧ (∃ (old : Value), w'.cell? ⟨g.A.p, 10, none⟩ = some old) ∧ w'.frozen? ⟨g.A.p, 10, none⟩ = false ∧ ∀ (w1 : World), Stored w' ⟨g.A.p, 10, none⟩ (Value.int .i64 0) w1 → ∃ (g1 : GDs), #[Value.pointer (some ⟨g.A.p, 0, none⟩), Value.int .i32 g.r] = #[Value.pointer (some ⟨g1.A.p, 0, none⟩), Value.int .i32 g1.r] ∧ (GlIn w1 g1.A g1.g ∧ fitG g1.g) ∧ ∀ (x1 : GlP) (w'1 : World), GlOut w1 w'1 g1.A x1 (doesG g1.g g1.r) → ∃ (x2 : GlP), Value.tuple #[] = Value.tuple #[] ∧ GlOut w w'1 g.A x2 (takeG g.g g.r)) (true = true ∧ (∃ (old : Value), w'.cell? ⟨g.A.p, 10, none⟩ = some old) ∧ w'.frozen? ⟨g.A.p, 10, none⟩ = false ∧ ∀ (w1 : World), Stored w' ⟨g.A.p, 10, none⟩ (Value.int .i64 0) w1 → ∃ (y : GlP), (GlOut w w1 g.A y (sttG (heldG g.g) (0 : Nat)) ∧ takeG g.g g.r = freeG (sttG (heldG g.g) (0 : Nat)) g.r ∧ okG (sttG (heldG g.g) (0 : Nat)) g.m) ∧ (0 : Nat) < 0)))) (∃ (g1 : Int), #[Value.int .i32 g.r] = #[Value.int .i32 g1] ∧ True ∧ ∀ (x1 : Int) (w'1 : World), x1 = kindR g1 ∧ Ext w' w'1 → bcase (x1 != (0 : Int)) (∃ (g2 : GTak), #[Value.pointer (some ⟨g.A.p, 0, none⟩), Value.int .i32 g.r] = #[Value.pointer (some ⟨g2.A.p, 0, none⟩), Value.int .i32 g2.r] ∧ (tkIn w'1 g2.A g2.g g2.m ∧ g2.g.stt = (0 : Nat)) ∧ ∀ (x2 : GlP) (w'2 : World), GlOut w'1 w'2 g2.A x2 (putG g2.g g2.r) → ∃ (x3 : GlP), Value.tuple #[] = Value.tuple #[] ∧ GlOut w w'2 g.A x3 (takeG g.g g.r)) (true = true ∧ (∃ (old : Value), w'1.cell? ⟨g.A.p, 8, none⟩ = some old) ∧ w'1.frozen? ⟨g.A.p, 8, none⟩ = false ∧ ∀ (w1 : World), Stored w'1 ⟨g.A.p, 8, none⟩ (Value.int .i64 0) w1 → bcase (g.r == (27 : Int)) (true = true ∧ (∃ (old : Value), w1.cell? ⟨g.A.p, 10, none⟩ = some old) ∧ w1.frozen? ⟨g.A.p, 10, none⟩ = false ∧ ∀ (w11 : World), Stored w1 ⟨g.A.p, 10, none⟩ (Value.int .i64 1) w11 →
 ∃ (x2 : GlP), Value.tuple #[] = Value.tuple #[] ∧ GlOut w w11 g.A x2 (takeG g.g g.r)) (bcase (g.r == (13 : Int)) (true = true ∧ (∃ (old : Value), w1.cell? ⟨g.A.p, 4, none⟩ = some old) ∧ w1.frozen? ⟨g.A.p, 4, none⟩ = false ∧ ∀ (w11 : World), Stored w1 ⟨g.A.p, 4, none⟩ (Value.int .i64 0) w11 → ∃ (x2 : GlP), Value.tuple #[] = Value.tuple #[] ∧ GlOut w w11 g.A x2 (takeG g.g g.r)) (bcase (g.r == (10 : Int)) (∃ (g2 : GGl), #[Value.pointer (some ⟨g.A.p, 0, none⟩)] = #[Value.pointer (some ⟨g2.A.p, 0, none⟩)] ∧ (GlIn w1 g2.A g2.g ∧ fitG g2.g) ∧ ∀ (x2 : GlP) (w'2 : World), GlOut w1 w'2 g2.A x2 (backG g2.g) → ∃ (g3 : GGl), #[Value.pointer (some ⟨g.A.p, 0, none⟩)] = #[Value.pointer (some ⟨g3.A.p, 0, none⟩)] ∧ (GlIn w'2 g3.A g3.g ∧ fitG g3.g) ∧ ∀ (x3 : GlP) (w'3 : World), GlOut w'2 w'3 g3.A x3 (downG g3.g) → ∃ (x4 : GlP), Value.tuple #[] = Value.tuple #[] ∧ GlOut w w'3 g.A x4 (takeG g.g g.r)) (∃ (x2 : GlP), Value.tuple #[] = Value.tuple #[] ∧ GlOut w w1 g.A x2 (takeG g.g g.r)))))))) ∧ True) :
    (sTakeG).Ok Tryd.prog 28 :=
  ok_of_vc sTakeG annTakeG spTakeG (fun _ _ => rfl) (fun _ _ => rfl) hsp Tryd.func28 rfl (n := 2) (fun _ => rfl) (by kernel_rfl) (vcast (by kernel_rfl) h)
end Go.Proofs.YtjdohhididpomaaDoor
end

section
namespace Go.Proofs.YtjdohhididpomaaDoor
open Go Vc Ut Tb Cl Orb
theorem okCe_blk {st : Nat} (h : st < 65536) : okCe (blkC st) := ⟨h, rfl, rfl, rfl⟩
theorem okG.mono {g : Gs} {m n : Nat} (h : okG g m) (hm : m ≤ n) : okG g n := ⟨h.w, h.h, h.len, h.ok, h.x, h.y, h.sty, h.st, h.num, Nat.le_trans h.numl (by omega), h.stt, h.sl, h.last⟩
theorem ok_new {w h : Nat} (hw : w ≤ 1024) (hh : h ≤ 1024) (wd : Bool) : okG (newG w h wd) 0 :=
  ⟨hw, hh, List.length_replicate, okL_rep _ _ _ _, Nat.zero_le _, .inr rfl, by show (0 : Nat) < 65536; decide, fun c hc => by rw [(List.mem_replicate.1 hc).2]; exact okCe_blk (by decide), fun _ h => (by cases h), by show (0 : Nat) ≤ 1; decide, by show (0 : Nat) ≤ 2; decide, fun _ => rfl, fun h => absurd rfl h⟩
theorem ceG_mem {l : List Ce} {i : Nat} (h : i < l.length) : ceG l i ∈ l := by rw [ceG_lt h]; exact List.getElem_mem h
theorem st_set {l : List Ce} {i : Nat} {c : Ce} (h : ∀ c ∈ l, okCe c) (hc : okCe c) : ∀ d ∈ l.set i c, okCe d := fun d hd => (List.mem_or_eq_of_mem_set hd).elim (h d) (fun e => by rw [e]; exact hc)
theorem st_ce {l : List Ce} (h : ∀ c ∈ l, okCe c) (i : Nat) : okCe (ceG l i) := by
  by_cases hi : i < l.length
  · exact h _ (ceG_mem hi)
  · rw [ceG_out (by omega)]; exact okCe_blk (by decide)
theorem st_lay {l : List Ce} {w i : Nat} {c : Ce} (h : ∀ c ∈ l, okCe c) (hc : okCe c) : ∀ d ∈ layL l w i c, okCe d := by
  unfold layL
  split
  · exact st_set (st_set h (okCe_blk (st_ce h _).1)) hc
  split
  · exact st_set (st_set h (okCe_blk (st_ce h _).1)) hc
  · exact st_set h hc
theorem ok_last0 {g : Gs} {m : Nat} (h : okG g m) : okG { g with last := 0 } m := ⟨h.w, h.h, h.len, h.ok, h.x, h.y, h.sty, h.st, h.num, h.numl, h.stt, fun _ => rfl, fun h => absurd rfl h⟩
theorem ok_x0 {g : Gs} {m : Nat} (h : okG g m) : okG { g with last := 0, x := 0 } m := ⟨h.w, h.h, h.len, h.ok, Nat.zero_le _, h.y, h.sty, h.st, h.num, h.numl, h.stt, fun _ => rfl, fun h => absurd rfl h⟩
theorem ok_back {g : Gs} {m : Nat} (h : okG g m) (h0 : g.last = 0) : okG (backG g) m := by
  unfold backG; split
  · exact ⟨h.w, h.h, h.len, h.ok, by show g.w - 1 ≤ g.w; omega, h.y, h.sty, h.st, h.num, h.numl, h.stt, fun _ => h0, fun h => absurd h0 h⟩
  · exact h
theorem back_last (g : Gs) : (backG g).last = g.last := by unfold backG; split <;> rfl
theorem down_last (g : Gs) : (downG g).last = g.last := by unfold downG; split <;> rfl
theorem ok_down {g : Gs} {m : Nat} (h : okG g m) (h0 : g.last = 0) : okG (downG g) m := by
  unfold downG; split
  · rename_i hy
    exact ⟨h.w, h.h, h.len, h.ok, h.x, .inl hy, h.sty, h.st, h.num, h.numl, h.stt, fun _ => h0, fun h => absurd h0 h⟩
  · have hl := h.len
    by_cases hw : g.w ≤ g.cs.length
    · refine ⟨h.w, h.h, ?_, okL_down h.ok hw _, h.x, h.y, h.sty, ?_, h.num, h.numl, h.stt, fun _ => h0, fun h => absurd h0 h⟩
      · show (g.cs.drop g.w ++ List.replicate (min g.w g.cs.length) (blkC 0)).length = g.w * g.h
        rw [List.length_append, List.length_drop, List.length_replicate]; omega
      · intro c hc
        rcases List.mem_append.1 hc with hc | hc
        · exact h.st c (List.mem_of_mem_drop hc)
        · rw [(List.mem_replicate.1 hc).2]; exact okCe_blk (by decide)
    · have hc0 : g.cs = [] := by
        have : g.h = 0 := by
          rcases Nat.eq_zero_or_pos g.h with e | e
          · exact e
          · have := Nat.le_mul_of_pos_right g.w e; omega
        rw [this, Nat.mul_zero] at hl
        exact List.eq_nil_of_length_eq_zero hl
      have e : ({ g with cs := g.cs.drop g.w ++ List.replicate (min g.w g.cs.length) (blkC 0) } : Gs) = g := by
        rw [show g.cs.drop g.w ++ List.replicate (min g.w g.cs.length) (blkC 0) = g.cs from by rw [hc0]; simp]
      rw [e]; exact h
theorem okAt_two {l : List Ce} {w i : Nat} {wd : Bool} (h : okL l w wd) (hi : i < l.length) (hp : (ceG l i).p = 0) : plN (txC (ceG l i)) wd = 1 ∨ plN (txC (ceG l i)) wd = 2 ∧ (i + 1) % w ≠ 0 ∧ i + 1 < l.length ∧ (ceG l (i + 1)).p = 1 ∧ (ceG l (i + 1)).st = (ceG l i).st ∧ (ceG l (i + 1)).t.size = 0 := by
  have := h i hi
  unfold okAt at this
  rw [if_neg (by rw [hp]; decide)] at this
  exact this.2
theorem enc1_len (r : Int) : (enc1 r).size ≤ 4 := by
  have h := congrArg List.length (encode_eq r)
  rw [List.length_map] at h
  have h2 := (encN_len (encC r)).2
  show (Utf8.encode r).data.size ≤ 4
  rw [← Array.length_toList]
  omega
theorem okL_text {l : List Ce} {w i : Nat} {wd : Bool} {s : ByteArray} (h : okL l w wd) (hi : i < l.length) (hp : (ceG l i).p = 0) (hs : plN s wd = plN (txC (ceG l i)) wd) : okL (l.set i { ceG l i with t := s }) w wd := by
  have h2 := okAt_two h hi hp
  have hn : plN s wd ≠ 0 := by rcases h2 with h2 | h2 <;> omega
  have ht : txC { ceG l i with t := s } = s := tx_pl hp hn
  have hg : ∀ j, ceG (l.set i { ceG l i with t := s }) j = if j = i then { ceG l i with t := s } else ceG l j := fun j => ceG_set hi
  intro j hj
  rw [List.length_set] at hj
  have hoj := h j hj
  unfold okAt at hoj ⊢
  have hpp : ∀ k, (ceG (l.set i { ceG l i with t := s }) k).p = (ceG l k).p := fun k => by
    rw [hg]; split
    · rename_i e; rw [e]
    · rfl
  have hst : ∀ k, (ceG (l.set i { ceG l i with t := s }) k).st = (ceG l k).st := fun k => by
    rw [hg]; split
    · rename_i e; rw [e]
    · rfl
  have hpl : ∀ k, plN (txC (ceG (l.set i { ceG l i with t := s }) k)) wd = plN (txC (ceG l k)) wd := fun k => by
    rw [hg]; split
    · rename_i e; rw [ht, e, hs]
    · rfl
  rw [hpp, hpp, hpl, hpl, hpp, hst, hst, List.length_set]
  by_cases h1 : (ceG l j).p = 1
  · rw [if_pos h1] at hoj ⊢; exact hoj
  · rw [if_neg h1] at hoj ⊢
    refine ⟨hoj.1, hoj.2.imp id fun ⟨a1, a2, a3, a4, a5, a6⟩ => ⟨a1, a2, a3, a4, a5, ?_⟩⟩
    rw [hg, if_neg (fun e => by rw [e, hp] at a4; cases a4)]
    exact a6
theorem ok_join {g g' : Gs} {m : Nat} {r : Int} (h : okG g m) (hj : joinG g r = some g') : okG g' m := by
  unfold joinG at hj
  split at hj
  · cases hj
  rename_i hl
  have hL := h.last hl
  have hlt : g.last - 1 < g.cs.length := by have := hL.le; omega
  have hst0 : g.stt = 0 := by
    rcases Nat.eq_zero_or_pos g.stt with e | e
    · exact e
    · exact absurd (h.sl (by omega)) hl
  split at hj
  · cases hj
  rename_i hn1
  split at hj
  · rename_i hn2
    split at hj
    · injection hj with hj; subst hj; exact ok_last0 h
    · rename_i hm
      injection hj with hj; subst hj
      have h2 := okAt_two h.ok hlt hL.p
      have hb := pl_le2 (txC (ceG g.cs (g.last - 1)) ++ enc1 r) g.wd
      have h21 : plN (txC (ceG g.cs (g.last - 1))) g.wd = 1 := by rcases h2 with h2 | h2 <;> omega
      have h22 : plN (txC (ceG g.cs (g.last - 1)) ++ enc1 r) g.wd = 2 := by omega
      have hat := hL.at_
      rw [h21] at hat
      have hxw : g.x < g.w := by
        rcases Nat.lt_or_ge g.x g.w with e | e
        · exact e
        · have e2 : g.x = g.w := Nat.le_antisymm h.x e
          rw [show g.last = g.y * g.w + g.w by omega, Nat.add_mod_right, Nat.mul_mod_left] at hm
          exact absurd rfl hm
      have hyh : g.y < g.h := by
        rcases h.y with e | e
        · exact e
        · rcases Nat.eq_zero_or_pos g.h with e2 | e2
          · have := h.len; rw [e2, Nat.mul_zero] at this; have := hL.le; omega
          · omega
      have hll : g.last < g.cs.length := by
        rw [h.len]
        have : (g.y + 1) * g.w ≤ g.h * g.w := Nat.mul_le_mul_right _ hyh
        rw [Nat.add_mul, Nat.one_mul, Nat.mul_comm g.h] at this
        omega
      have hi1 : g.last - 1 + 1 = g.last := by omega
      have hp1 : ¬ (ceG g.cs g.last).p = 1 := fun e => by
        have := h.ok g.last hll
        unfold okAt at this
        rw [if_pos e] at this
        omega
      have hgl := ceG_lay (w := g.w) (c := hlfC (ceG g.cs (g.last - 1)).st) hll (fun e => absurd e hp1)
      have e1 : ceG (layL g.cs g.w g.last (hlfC (ceG g.cs (g.last - 1)).st)) (g.last - 1) = ceG g.cs (g.last - 1) := by
        rw [hgl, if_neg (by omega), if_neg hp1, if_neg (by omega)]
      rw [e1]
      have hn : plN (txC (ceG g.cs (g.last - 1)) ++ enc1 r) g.wd ≠ 0 := by omega
      have htx : txC { ceG g.cs (g.last - 1) with t := txC (ceG g.cs (g.last - 1)) ++ enc1 r } = txC (ceG g.cs (g.last - 1)) ++ enc1 r := tx_pl hL.p hn
      have hcell : okL ((layL g.cs g.w g.last (hlfC (ceG g.cs (g.last - 1)).st)).set (g.last - 1) { ceG g.cs (g.last - 1) with t := txC (ceG g.cs (g.last - 1)) ++ enc1 r }) g.w g.wd := by
        rw [← lay_set (c := blkC 0), List.set_comm _ _ (by omega)]
        have o1 := okL_lay h.ok hll (one_blk 0 g.wd)
        have hgb := ceG_lay (w := g.w) (c := blkC 0) hll (fun e => absurd e hp1)
        have := okL_pair (i := g.last - 1) (c := { ceG g.cs (g.last - 1) with t := txC (ceG g.cs (g.last - 1)) ++ enc1 r }) (d := hlfC (ceG g.cs (g.last - 1)).st) o1 (by rw [lay_len]; omega) (by rw [hi1]; exact hm)
          (by rw [hgb, if_neg (by omega), if_neg hp1, if_neg (by omega)]; exact ⟨hL.p, h21⟩) (by rw [hi1, hgb, if_pos rfl]; exact one_blk 0 _) hL.p (by rw [htx]; exact h22) rfl rfl rfl
        rw [hi1] at this
        exact this
      refine ⟨h.w, h.h, ?_, hcell, by show g.x + 1 ≤ g.w; omega, h.y, h.sty, ?_, h.num, h.numl, h.stt, fun e => absurd hst0 e, fun _ => ⟨?_, ?_, ?_⟩⟩
      · show (List.set _ _ _).length = _
        rw [List.length_set, lay_len]; exact h.len
      · exact st_set (st_lay h.st ⟨(st_ce h.st (g.last - 1)).1, rfl, rfl, rfl⟩) (st_ce h.st (g.last - 1))
      · show g.last ≤ (List.set _ _ _).length
        rw [List.length_set, lay_len]; exact hL.le
      · show (ceG (List.set _ _ _) (g.last - 1)).p = 0
        rw [ceG_set (by rw [lay_len]; exact hlt), if_pos rfl]; exact hL.p
      · show g.y * g.w + (g.x + 1) + 1 = g.last + plN (txC (ceG (List.set _ _ _) (g.last - 1))) g.wd
        rw [ceG_set (by rw [lay_len]; exact hlt), if_pos rfl, htx, h22]; omega
  · rename_i hn2
    injection hj with hj; subst hj
    have heq : plN (txC (ceG g.cs (g.last - 1)) ++ enc1 r) g.wd = plN (txC (ceG g.cs (g.last - 1))) g.wd := by omega
    have h2 := okAt_two h.ok hlt hL.p
    have hn : plN (txC (ceG g.cs (g.last - 1)) ++ enc1 r) g.wd ≠ 0 := by rcases h2 with h2 | h2 <;> omega
    have htx : txC { ceG g.cs (g.last - 1) with t := txC (ceG g.cs (g.last - 1)) ++ enc1 r } = txC (ceG g.cs (g.last - 1)) ++ enc1 r := tx_pl hL.p hn
    refine ⟨h.w, h.h, by rw [List.length_set]; exact h.len, okL_text h.ok hlt hL.p heq, h.x, h.y, h.sty, st_set h.st (st_ce h.st (g.last - 1)), h.num, h.numl, h.stt, h.sl, fun _ => ⟨?_, ?_, ?_⟩⟩
    · show g.last ≤ (List.set _ _ _).length
      rw [List.length_set]; exact hL.le
    · show (ceG (List.set _ _ _) (g.last - 1)).p = 0
      rw [ceG_set hlt, if_pos rfl]; exact hL.p
    · show g.y * g.w + g.x + 1 = g.last + plN (txC (ceG (List.set _ _ _) (g.last - 1))) g.wd
      rw [ceG_set hlt, if_pos rfl, htx, heq]; exact hL.at_
theorem join_stt {g g' : Gs} {r : Int} (hj : joinG g r = some g') : g'.stt = g.stt ∧ g'.w = g.w ∧ g'.h = g.h ∧ g'.wd = g.wd := by
  unfold joinG at hj
  split at hj
  · cases hj
  split at hj
  · cases hj
  split at hj
  · split at hj <;> (injection hj with hj; subst hj; exact ⟨rfl, rfl, rfl, rfl⟩)
  · injection hj with hj; subst hj; exact ⟨rfl, rfl, rfl, rfl⟩
theorem ok_lay {g : Gs} {m n : Nat} {s : ByteArray} (h : okG g m) (hs : g.stt = 0) (hn : plN s g.wd = n) (h0 : n ≠ 0) (hx : g.x + n ≤ g.w) (hh : g.h ≠ 0) : okG (layG g s n) m := by
  have h2 := pl_le2 s g.wd
  have hyh : g.y < g.h := by rcases h.y with e | e <;> omega
  have hi : g.y * g.w + g.x + n ≤ g.cs.length := by
    rw [h.len]
    have : (g.y + 1) * g.w ≤ g.h * g.w := Nat.mul_le_mul_right _ hyh
    rw [Nat.add_mul, Nat.one_mul, Nat.mul_comm g.h] at this
    omega
  have htx : txC ⟨s, 0, 0, 0, false, g.sty⟩ = s := tx_pl rfl (by show plN s g.wd ≠ 0; omega)
  have hp0 : ∀ {l : List Ce} {i}, okL l g.w g.wd → i < l.length → (ceG l i).p = 1 → 0 < i := fun ho hl hp => by have := ho _ hl; unfold okAt at this; rw [if_pos hp] at this; exact this.1
  rcases (show n = 1 ∨ n = 2 by omega) with e | e
  · subst e
    have el : layG g s 1 = { g with cs := layL g.cs g.w (g.y * g.w + g.x) ⟨s, 0, 0, 0, false, g.sty⟩, x := g.x + 1, last := g.y * g.w + g.x + 1 } := rfl
    rw [el]
    have hlt : g.y * g.w + g.x < g.cs.length := by omega
    have hce : ceG (layL g.cs g.w (g.y * g.w + g.x) ⟨s, 0, 0, 0, false, g.sty⟩) (g.y * g.w + g.x) = ⟨s, 0, 0, 0, false, g.sty⟩ := by rw [ceG_lay hlt (hp0 h.ok hlt), if_pos rfl]
    refine ⟨h.w, h.h, by rw [lay_len]; exact h.len, okL_lay h.ok hlt ⟨rfl, by rw [htx]; exact hn⟩, hx, h.y, h.sty, st_lay h.st ⟨h.sty, rfl, rfl, rfl⟩, h.num, h.numl, h.stt, fun e => absurd hs e, fun _ => ⟨?_, ?_, ?_⟩⟩
    · show _ + 1 ≤ (layL _ _ _ _).length; rw [lay_len]; omega
    · show (ceG (layL _ _ _ _) (g.y * g.w + g.x + 1 - 1)).p = 0
      rw [Nat.add_sub_cancel, hce]
    · show g.y * g.w + (g.x + 1) + 1 = g.y * g.w + g.x + 1 + plN (txC (ceG (layL _ _ _ _) (g.y * g.w + g.x + 1 - 1))) g.wd
      rw [Nat.add_sub_cancel, hce, htx, hn]; omega
  · subst e
    generalize hii : g.y * g.w + g.x = i at hi
    have hl1 : i + 1 < g.cs.length := by omega
    have hm : (i + 1) % g.w ≠ 0 := by
      rw [← hii, show g.y * g.w + g.x + 1 = g.x + 1 + g.y * g.w by omega, Nat.add_mul_mod_self_right, Nat.mod_eq_of_lt (by omega)]
      omega
    have hla : i < (layL g.cs g.w (i + 1) (blkC g.sty)).length := by rw [lay_len]; omega
    have o1 := okL_lay (c := blkC g.sty) h.ok hl1 (one_blk g.sty g.wd)
    have g1 : ceG (layL g.cs g.w (i + 1) (blkC g.sty)) (i + 1) = blkC g.sty := by rw [ceG_lay hl1 (fun _ => by omega), if_pos rfl]
    have hgl := ceG_lay (w := g.w) (c := ⟨s, 0, 0, 0, false, g.sty⟩) hla (hp0 o1 hla)
    have g2 : ceG (layL (layL g.cs g.w (i + 1) (blkC g.sty)) g.w i ⟨s, 0, 0, 0, false, g.sty⟩) (i + 1) = blkC g.sty := by
      rw [hgl, if_neg (by omega)]
      split
      · rw [if_neg (by omega), g1]
      · rw [if_neg (fun e => by rw [g1] at e; have e2 : (0 : Int) = 1 := e.2.1; cases e2), g1]
    have el : layG g s 2 = { g with cs := (layL (layL g.cs g.w (i + 1) (blkC g.sty)) g.w i ⟨s, 0, 0, 0, false, g.sty⟩).set (i + 1) (hlfC g.sty), x := g.x + 2, last := i + 1 } := by
      unfold layG
      dsimp only
      rw [hii, if_pos rfl, if_pos rfl, g2]
      rfl
    rw [el]
    have hce : ceG ((layL (layL g.cs g.w (i + 1) (blkC g.sty)) g.w i ⟨s, 0, 0, 0, false, g.sty⟩).set (i + 1) (hlfC g.sty)) i = ⟨s, 0, 0, 0, false, g.sty⟩ := by
      rw [ceG_set (by rw [lay_len, lay_len]; exact hl1), if_neg (by omega), hgl, if_pos rfl]
    refine ⟨h.w, h.h, by rw [List.length_set, lay_len, lay_len]; exact h.len, okL_two (c := ⟨s, 0, 0, 0, false, g.sty⟩) (d := hlfC g.sty) h.ok hl1 hm rfl (by rw [htx]; exact hn) rfl rfl rfl _, hx, h.y, h.sty, st_set (st_lay (st_lay h.st ⟨h.sty, rfl, rfl, rfl⟩) ⟨h.sty, rfl, rfl, rfl⟩) ⟨h.sty, rfl, rfl, rfl⟩, h.num, h.numl, h.stt, fun e => absurd hs e, fun _ => ⟨?_, ?_, ?_⟩⟩
    · show i + 1 ≤ (List.set _ _ _).length; rw [List.length_set, lay_len, lay_len]; omega
    · show (ceG (List.set _ _ _) (i + 1 - 1)).p = 0
      rw [Nat.add_sub_cancel, hce]
    · show g.y * g.w + (g.x + 2) + 1 = i + 1 + plN (txC (ceG (List.set _ _ _) (i + 1 - 1))) g.wd
      rw [Nat.add_sub_cancel, hce, htx, hn]; omega
theorem down_f (g : Gs) : (downG g).stt = g.stt ∧ (downG g).w = g.w ∧ (downG g).h = g.h ∧ (downG g).wd = g.wd ∧ (downG g).x = g.x ∧ (downG g).sty = g.sty := by
  unfold downG; split <;> exact ⟨rfl, rfl, rfl, rfl, rfl, rfl⟩
theorem ok_put {g : Gs} {m : Nat} {r : Int} (h : okG g m) (hs : g.stt = 0) : okG (putG g r) m := by
  unfold putG
  split
  · rename_i g' hj
    exact ok_join h hj
  · dsimp only
    split
    · exact ok_last0 h
    · rename_i hn
      split
      · have hd := down_f { g with last := 0, x := 0 }
        exact ok_lay (ok_down (ok_x0 h) rfl) (by rw [hd.1]; exact hs) (by rw [hd.2.2.2.1]) (by omega) (by rw [hd.2.2.2.2.1, hd.2.1]; show 0 + _ ≤ g.w; omega) (by rw [hd.2.2.1]; show g.h ≠ 0; omega)
      · exact ok_lay (ok_last0 h) hs rfl (by omega) (by show g.x + _ ≤ g.w; omega) (by show g.h ≠ 0; omega)
end Go.Proofs.YtjdohhididpomaaDoor
end

section
namespace Go.Proofs.YtjdohhididpomaaDoor
open Go Vc Ut Tb Cl Orb
theorem or16 {a b : Nat} (ha : a < 65536) (hb : b < 65536) : a ||| b < 65536 := Nat.or_lt_two_pow (n := 16) ha hb
theorem wear_lt : ∀ (f : Nat) (l : List Int) (st : Nat), st < 65536 → wearF f l st < 65536
  | 0, _, st, h => by simpa only [wearF] using h
  | f + 1, [], st, h => by simpa only [wearF] using h
  | f + 1, n :: l, st, h => by
    have ih := fun l st => wear_lt f l st
    simp only [wearF]
    split
    · exact ih _ _ (by decide)
    split
    · exact ih _ _ (or16 h (by decide))
    split
    · exact ih _ _ (or16 h (by decide))
    split
    · exact ih _ _ (or16 h (by decide))
    split
    · exact ih _ _ (or16 h (by decide))
    split
    · split
      · exact ih _ _ (or16 (by omega) (by omega))
      split
      · exact ih _ _ (or16 (by omega) (by omega))
      · exact ih _ _ h
    · exact ih _ _ h
theorem ok_sty {g : Gs} {m s : Nat} (h : okG g m) (hs : s < 65536) : okG { g with sty := s } m := ⟨h.w, h.h, h.len, h.ok, h.x, h.y, hs, h.st, h.num, h.numl, h.stt, h.sl, fun hl => ⟨(h.last hl).le, (h.last hl).p, (h.last hl).at_⟩⟩
theorem ok_hid {g : Gs} {m : Nat} {b : Bool} (h : okG g m) : okG { g with hid := b } m := ⟨h.w, h.h, h.len, h.ok, h.x, h.y, h.sty, h.st, h.num, h.numl, h.stt, h.sl, fun hl => ⟨(h.last hl).le, (h.last hl).p, (h.last hl).at_⟩⟩
theorem ok_held {g : Gs} {m n : Nat} {l : List Int} {a v : Bool} (h : okG g m) (hl : ∀ k ∈ l, -1 ≤ k ∧ k ≤ 9999) (hn : l.length ≤ n + 1) : okG { g with num := l, asked := a, void := v } n := ⟨h.w, h.h, h.len, h.ok, h.x, h.y, h.sty, h.st, hl, hn, h.stt, h.sl, fun hl => ⟨(h.last hl).le, (h.last hl).p, (h.last hl).at_⟩⟩
theorem ok_stt {g : Gs} {m s : Nat} (h : okG g m) (h0 : g.last = 0) (hs : s ≤ 2) : okG { g with stt := s } m := ⟨h.w, h.h, h.len, h.ok, h.x, h.y, h.sty, h.st, h.num, h.numl, hs, fun _ => h0, fun hl => absurd h0 hl⟩
theorem clamp_lt (n : Int) {m : Nat} : clampG n m < m ∨ clampG n m = 0 := by unfold clampG; omega
theorem ok_does {g : Gs} {m : Nat} {r : Int} (h : okG g m) (h0 : g.last = 0) : okG (doesG g r) m := by
  unfold doesG
  split
  · exact h
  split
  · split
    · exact ok_hid h
    · exact h
  split
  · refine ⟨h.w, h.h, h.len, h.ok, ?_, clamp_lt _, h.sty, h.st, h.num, h.numl, h.stt, h.sl, fun hl => absurd h0 hl⟩
    show clampG (nmL g.num 1) g.w ≤ g.w
    rcases clamp_lt (nmL g.num 1) (m := g.w) with e | e <;> omega
  split
  · refine ok_back ⟨h.w, h.h, ?_, okL_rep _ _ _ _, h.x, h.y, h.sty, fun c hc => ?_, h.num, h.numl, h.stt, h.sl, fun hl => absurd h0 hl⟩ h0
    · show (List.replicate _ _).length = _; rw [List.length_replicate]; exact h.len
    · rw [(List.mem_replicate.1 hc).2]; exact okCe_blk (by decide)
  split
  · exact ok_sty h (wear_lt _ _ _ h.sty)
  · exact h
theorem nm_bd {l : List Int} (h : ∀ n ∈ l, -1 ≤ n ∧ n ≤ 9999) (i : Nat) : -1 ≤ nmL l i ∧ nmL l i ≤ 9999 := by
  unfold nmL
  rw [List.getD_eq_getElem?_getD]
  by_cases hi : i < l.length
  · rw [List.getElem?_eq_getElem hi]; exact h _ (List.getElem_mem hi)
  · rw [List.getElem?_eq_none (by omega)]; exact ⟨by decide, by decide⟩
theorem ok_hold {g : Gs} {m : Nat} {r : Int} {f : Bool} (h : okG g m) : okG (holdG g r f) (m + 1) := by
  have hn := h.numl
  unfold holdG
  split
  · exact ok_held h h.num (by omega)
  split
  · refine ok_held h (fun k hk => ?_) (by rw [List.length_append]; show g.num.length + 1 ≤ _; omega)
    rcases List.mem_append.1 hk with hk | hk
    · exact h.num k hk
    · rw [List.mem_singleton.1 hk]; exact ⟨by decide, by decide⟩
  split
  · rename_i hr
    refine ok_held h (fun k hk => ?_) (by rw [List.length_set]; omega)
    have hb := nm_bd h.num (g.num.length - 1)
    rcases List.mem_or_eq_of_mem_set hk with hk | hk
    · exact h.num k hk
    · rw [hk]; omega
  · exact ok_held h h.num (by omega)
theorem ok_free {g : Gs} {m : Nat} {r : Int} (h : okG g m) (hs : g.stt = 0) : okG (freeG g r) m := by
  unfold freeG
  split
  · exact ok_put h hs
  split
  · exact ok_stt (ok_last0 h) rfl (by decide)
  split
  · exact ok_x0 h
  split
  · exact ok_down (ok_back (ok_last0 h) rfl) (by rw [back_last])
  · exact ok_last0 h
theorem held_f (g : Gs) : (heldG g).stt = g.stt ∧ (heldG g).last = g.last ∧ (heldG g).num ≠ [] ∧ (heldG g).w = g.w ∧ (heldG g).h = g.h ∧ (heldG g).wd = g.wd ∧ (heldG g).cs = g.cs := by
  unfold heldG; split
  · exact ⟨rfl, rfl, by simp, rfl, rfl, rfl, rfl⟩
  · rename_i h; exact ⟨rfl, rfl, h, rfl, rfl, rfl, rfl⟩
theorem ok_heldG {g : Gs} {m : Nat} (h : okG g m) : okG (heldG g) m := by
  unfold heldG; split
  · exact ok_held (a := g.asked) (v := g.void) h (fun k hk => by rw [List.mem_singleton.1 hk]; exact ⟨by decide, by decide⟩) (by show 1 ≤ m + 1; omega)
  · exact h
theorem ok_take {g : Gs} {m : Nat} {r : Int} (h : okG g m) : okG (takeG g r) (m + 1) := by
  unfold takeG
  have hh := held_f g
  split
  · rename_i h1
    have hl := h.sl (by omega)
    split
    · exact ok_held (g := { g with stt := 2 }) (ok_stt h hl (by decide)) (fun _ h => by cases h) (Nat.zero_le _)
    · exact (ok_stt h hl (by decide)).mono (by omega)
  split
  · rename_i h1 h2
    have hl := h.sl (by omega)
    show okG (if 32 ≤ r ∧ r ≤ 63 then holdG (heldG g) r (decide (g.num = [])) else if 64 ≤ r ∧ r ≤ 126 then doesG { heldG g with stt := 0 } r else freeG { heldG g with stt := 0 } r) (m + 1)
    have h3 := ok_heldG h
    have h4 : okG { heldG g with stt := 0 } m := ok_stt h3 (hh.2.1.trans hl) (by decide)
    split
    · exact ok_hold h3
    split
    · exact (ok_does h4 (hh.2.1.trans hl)).mono (by omega)
    · exact (ok_free h4 rfl).mono (by omega)
  · rename_i h1 h2
    have := h.stt
    exact (ok_free h (by omega)).mono (by omega)
theorem ok_feed : ∀ (l : List Int) {g : Gs} {m : Nat}, okG g m → okG (feedG g l) (m + l.length)
  | [], _, _, h => h
  | r :: l, _, m, h => by
    have := ok_feed l (ok_take (r := r) h)
    rw [List.length_cons, show m + (l.length + 1) = m + 1 + l.length by omega]
    exact this
theorem lay_f (g : Gs) (s : ByteArray) (n : Nat) : (layG g s n).w = g.w ∧ (layG g s n).h = g.h ∧ (layG g s n).wd = g.wd := ⟨rfl, rfl, rfl⟩
theorem put_f (g : Gs) (r : Int) : (putG g r).w = g.w ∧ (putG g r).h = g.h ∧ (putG g r).wd = g.wd := by
  unfold putG
  split
  · rename_i hj; exact (join_stt hj).2
  · dsimp only
    generalize (textC (enc1 r) 0 (lkW g.wd)).1 = s
    generalize plN s g.wd = n
    split
    · exact ⟨rfl, rfl, rfl⟩
    · split
      · have := down_f { g with last := 0, x := 0 }
        exact ⟨this.2.1, this.2.2.1, this.2.2.2.1⟩
      · exact ⟨rfl, rfl, rfl⟩
theorem back_f (g : Gs) : (backG g).w = g.w ∧ (backG g).h = g.h ∧ (backG g).wd = g.wd := by unfold backG; split <;> exact ⟨rfl, rfl, rfl⟩
theorem free_f (g : Gs) (r : Int) : (freeG g r).w = g.w ∧ (freeG g r).h = g.h ∧ (freeG g r).wd = g.wd := by
  unfold freeG
  split
  · exact put_f g r
  split
  · exact ⟨rfl, rfl, rfl⟩
  split
  · exact ⟨rfl, rfl, rfl⟩
  split
  · have h1 := down_f (backG { g with last := 0 })
    have h2 := back_f { g with last := 0 }
    exact ⟨h1.2.1.trans h2.1, h1.2.2.1.trans h2.2.1, h1.2.2.2.1.trans h2.2.2⟩
  · exact ⟨rfl, rfl, rfl⟩
theorem does_f (g : Gs) (r : Int) : (doesG g r).w = g.w ∧ (doesG g r).h = g.h ∧ (doesG g r).wd = g.wd := by
  unfold doesG
  split
  · exact ⟨rfl, rfl, rfl⟩
  split
  · split <;> exact ⟨rfl, rfl, rfl⟩
  split
  · exact ⟨rfl, rfl, rfl⟩
  split
  · exact back_f { g with cs := List.replicate g.cs.length (blkC 0) }
  split <;> exact ⟨rfl, rfl, rfl⟩
theorem hold_f (g : Gs) (r : Int) (f : Bool) : (holdG g r f).w = g.w ∧ (holdG g r f).h = g.h ∧ (holdG g r f).wd = g.wd := by
  unfold holdG
  split
  · exact ⟨rfl, rfl, rfl⟩
  split
  · exact ⟨rfl, rfl, rfl⟩
  split <;> exact ⟨rfl, rfl, rfl⟩
theorem take_f (g : Gs) (r : Int) : (takeG g r).w = g.w ∧ (takeG g r).h = g.h ∧ (takeG g r).wd = g.wd := by
  unfold takeG
  have hh := held_f g
  split
  · split <;> exact ⟨rfl, rfl, rfl⟩
  split
  · show (if 32 ≤ r ∧ r ≤ 63 then holdG (heldG g) r (decide (g.num = [])) else if 64 ≤ r ∧ r ≤ 126 then doesG { heldG g with stt := 0 } r else freeG { heldG g with stt := 0 } r).w = g.w ∧ (if 32 ≤ r ∧ r ≤ 63 then holdG (heldG g) r (decide (g.num = [])) else if 64 ≤ r ∧ r ≤ 126 then doesG { heldG g with stt := 0 } r else freeG { heldG g with stt := 0 } r).h = g.h ∧ (if 32 ≤ r ∧ r ≤ 63 then holdG (heldG g) r (decide (g.num = [])) else if 64 ≤ r ∧ r ≤ 126 then doesG { heldG g with stt := 0 } r else freeG { heldG g with stt := 0 } r).wd = g.wd
    split
    · have := hold_f (heldG g) r (decide (g.num = [])); exact ⟨this.1.trans hh.2.2.2.1, this.2.1.trans hh.2.2.2.2.1, this.2.2.trans hh.2.2.2.2.2.1⟩
    split
    · have := does_f { heldG g with stt := 0 } r; exact ⟨this.1.trans hh.2.2.2.1, this.2.1.trans hh.2.2.2.2.1, this.2.2.trans hh.2.2.2.2.2.1⟩
    · have := free_f { heldG g with stt := 0 } r; exact ⟨this.1.trans hh.2.2.2.1, this.2.1.trans hh.2.2.2.2.1, this.2.2.trans hh.2.2.2.2.2.1⟩
  · exact free_f g r
theorem feed_f : ∀ (l : List Int) (g : Gs), (feedG g l).w = g.w ∧ (feedG g l).h = g.h ∧ (feedG g l).wd = g.wd
  | [], _ => ⟨rfl, rfl, rfl⟩
  | r :: l, g => by
    have h1 := take_f g r
    have h2 := feed_f l (takeG g r)
    exact ⟨h2.1.trans h1.1, h2.2.1.trans h1.2.1, h2.2.2.trans h1.2.2⟩
end Go.Proofs.YtjdohhididpomaaDoor
end

section
namespace Go.Proofs.YtjdohhididpomaaDoor
open Go Vc Ut Tb Cl Orb
theorem okG.fit {g : Gs} {m : Nat} (h : okG g m) (hm : m ≤ 549755813888) : fitG g :=
  ⟨h.w, h.h, h.len, by have := h.x; have := h.w; omega, by have := h.h; rcases h.y with e | e <;> omega, h.sty, fun c hc => (h.st c hc).1, h.num, by have := h.numl; omega, by
    by_cases hl : g.last = 0
    · omega
    · exact (h.last hl).le⟩
theorem okG.lay {g : Gs} {m i : Nat} (h : okG g m) (hi : i < g.cs.length) : layOk g i := by
  have hl := h.len
  refine ⟨hi, ?_, fun hp => ?_, fun hm => ?_⟩
  · rcases Nat.eq_zero_or_pos g.w with e | e
    · rw [e, Nat.zero_mul] at hl; omega
    · exact e
  · have := h.ok i hi; unfold okAt at this; rw [if_pos hp] at this; exact this.1
  · rcases Nat.lt_or_ge (i + 1) g.cs.length with e | e
    · exact e
    · have e2 : i + 1 = g.w * g.h := by omega
      rw [e2, Nat.mul_mod_right] at hm
      exact absurd rfl hm
theorem okG.last_lt {g : Gs} {m : Nat} (h : okG g m) (hl : g.last ≠ 0) (h1 : plN (txC (ceG g.cs (g.last - 1))) g.wd = 1) (hm : g.last % g.w ≠ 0) : g.last < g.cs.length ∧ g.x < g.w := by
  have hL := h.last hl
  have hat := hL.at_
  rw [h1] at hat
  have hxw : g.x < g.w := by
    rcases Nat.lt_or_ge g.x g.w with e | e
    · exact e
    · have e2 : g.x = g.w := Nat.le_antisymm h.x e
      rw [show g.last = g.y * g.w + g.w by omega, Nat.add_mod_right, Nat.mul_mod_left] at hm
      exact absurd rfl hm
  have hyh : g.y < g.h := by
    rcases h.y with e | e
    · exact e
    · rcases Nat.eq_zero_or_pos g.h with e2 | e2
      · have := h.len; rw [e2, Nat.mul_zero] at this; have := hL.le; omega
      · omega
  refine ⟨?_, hxw⟩
  rw [h.len]
  have : (g.y + 1) * g.w ≤ g.h * g.w := Nat.mul_le_mul_right _ hyh
  rw [Nat.add_mul, Nat.one_mul, Nat.mul_comm g.h] at this
  omega
theorem okG.txt {g : Gs} {m : Nat} (h : okG g m) (hl : g.last ≠ 0) : 1 ≤ plN (txC (ceG g.cs (g.last - 1))) g.wd ∧ plN (txC (ceG g.cs (g.last - 1))) g.wd ≤ 2 ∧ (txC (ceG g.cs (g.last - 1))).size ≤ 128 := by
  have hL := h.last hl
  have h2 := okAt_two (i := g.last - 1) h.ok (by have := hL.le; omega) hL.p
  have h3 : plN (txC (ceG g.cs (g.last - 1))) g.wd ≠ 0 := by rcases h2 with h2 | h2 <;> omega
  exact ⟨by omega, by rcases h2 with h2 | h2 <;> omega, pl_size h3⟩
theorem wrap_f (g : Gs) (n : Nat) : (wrapG g n).w = g.w ∧ (wrapG g n).h = g.h ∧ (wrapG g n).wd = g.wd ∧ (wrapG g n).stt = g.stt ∧ (n ≤ g.w → (wrapG g n).x + n ≤ g.w) := by
  unfold wrapG
  split
  · have hd := down_f { g with last := 0, x := 0 }
    exact ⟨hd.2.1, hd.2.2.1, hd.2.2.2.1, hd.1, fun h => by rw [hd.2.2.2.2.1]; show 0 + n ≤ g.w; omega⟩
  · exact ⟨rfl, rfl, rfl, rfl, fun _ => by show g.x + n ≤ g.w; omega⟩
theorem ok_wrap {g : Gs} {m n : Nat} (h : okG g m) : okG (wrapG g n) m := by
  unfold wrapG
  split
  · exact ok_down (ok_x0 h) rfl
  · exact ok_last0 h
end Go.Proofs.YtjdohhididpomaaDoor
end
