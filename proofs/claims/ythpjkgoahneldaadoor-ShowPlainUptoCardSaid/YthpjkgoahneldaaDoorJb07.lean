/-
  Texts joined by program: Bl, SpBb, SpBd, Bw, SpBe, VgBe.
-/
import Derived.Test.YthpjkgoahneldaaDoorJb06
import Derived.Test.YthpjkgoahneldaaDoorProg
import Derived.KernelRfl
set_option linter.unusedVariables false
set_option linter.unusedSimpArgs false

section
/-
  Breaks in plain words, second part: a text's lines.
-/
namespace Go.Proofs.YthpjkgoahneldaaDoor
open Go Vc Ut Tb Cl Orb

/-- Clusters seen: where the line began that is under way, and the lines told. -/
def lnS (s : ByteArray) : Nat → Nat × List (Nat × Nat)
  | 0 => (0, [])
  | i + 1 =>
    if kc s i = 2 then (bp s (i + 1), if bp s (i + 1) - (lnS s i).1 > 65536 then (lnS s i).2 ++ [((lnS s i).1, bp s i), (bp s i, bp s (i + 1))] else (lnS s i).2 ++ [((lnS s i).1, bp s (i + 1))])
    else if bp s (i + 1) - (lnS s i).1 > 65536 then (bp s i, (lnS s i).2 ++ [((lnS s i).1, bp s i)]) else lnS s i
def lnA (s : ByteArray) : List (Nat × Nat) := (lnS s (ncl s)).2 ++ [((lnS s (ncl s)).1, s.size)]
def lnP (s : ByteArray) (p : Nat × Nat) : Nat × ByteArray := (p.1, s.extract p.1 p.2)
def lnL (s : ByteArray) : List (Nat × ByteArray) := (lnA s).map (lnP s)

def lnC (s : ByteArray) (k : Nat) : Nat := (lnS s k).2.length
def lnF (s : ByteArray) (k : Nat) : Nat := (lnS s k).1
theorem lnS_len (s : ByteArray) : ∀ i, (lnS s i).2.length ≤ 2 * i
  | 0 => Nat.le_refl _
  | i + 1 => by
    have := lnS_len s i
    simp only [lnS]
    split
    · split <;> simp <;> omega
    · split
      · simp; omega
      · omega
theorem lnL_len (s : ByteArray) : (lnL s).length = (lnS s (ncl s)).2.length + 1 := by simp [lnL, lnA]
theorem lnS_from (s : ByteArray) : ∀ i, (lnS s i).1 ≤ bp s i
  | 0 => Nat.zero_le _
  | i + 1 => by
    have := lnS_from s i
    have h := bp_mono s (show i ≤ i + 1 by omega)
    simp only [lnS]
    split
    · exact Nat.le_refl _
    · split
      · exact h
      · omega
/-- The lines told so far stay at the head. -/
theorem lnS_pre (s : ByteArray) {i j : Nat} (h : i ≤ j) : ∃ t, (lnS s j).2 = (lnS s i).2 ++ t := by
  induction h with
  | refl => exact ⟨[], by simp⟩
  | step _ ih =>
    obtain ⟨t, ht⟩ := ih
    simp only [lnS]
    split
    · split
      · exact ⟨t ++ [_, _], by rw [ht, List.append_assoc]⟩
      · exact ⟨t ++ [_], by rw [ht, List.append_assoc]⟩
    · split
      · exact ⟨t ++ [_], by rw [ht, List.append_assoc]⟩
      · exact ⟨t, ht⟩
theorem ln_at {s : ByteArray} {i m : Nat} {p : Nat × Nat} (hi : i ≤ ncl s) (h : (lnS s i).2[m]? = some p) : (lnL s)[m]? = some (lnP s p) := by
  obtain ⟨t, ht⟩ := lnS_pre s hi
  have hl := (List.getElem?_eq_some_iff.1 h).1
  unfold lnL lnA
  rw [List.getElem?_map, ht, List.append_assoc, List.getElem?_append_left hl, h]; rfl
theorem ln_last (s : ByteArray) : (lnL s)[(lnS s (ncl s)).2.length]? = some (lnP s ((lnS s (ncl s)).1, s.size)) := by
  unfold lnL lnA
  rw [List.getElem?_map, List.getElem?_append_right (Nat.le_refl _), Nat.sub_self]; rfl
theorem clu_small {s : ByteArray} {i : Nat} (hi : i < ncl s) : bp s (i + 1) ≤ bp s i + 128 := by
  have hk := bk_lt.1 hi
  have h1 := first_le s hk
  have h2 := bk_succ hi
  unfold bp
  rw [h2]
  generalize bk s i = k at hk h1
  have : ∀ n, pos s (k + n) ≤ pos s k + 4 * n := by
    intro n
    induction n with
    | zero => exact Nat.le_refl _
    | succ n ih =>
      by_cases h : pos s (k + n) < s.size
      · have e := pos_succ h
        have := dcN_le4 h
        rw [show k + (n + 1) = k + n + 1 from by omega, e]; omega
      · have := pos_le s (k + (n + 1))
        omega
  have := this (firstN s k)
  omega

end Go.Proofs.YthpjkgoahneldaaDoor
end

section
/-
  Specifications, chapter 13: a text's lines, the document's and the program's; what is told of them.
-/
namespace Go.Proofs.YthpjkgoahneldaaDoor
open Go Go.RowKit Vc Ut Tb Cl

def sPartL : CallSpec where
  G := ByteArray
  args := fun s => #[.string s]
  pre := fun s w => U8 w ∧ s.size ≤ 1048576
  X := Option Addr × Nat × Nat
  res := fun x => .slice x.1 x.2.1 x.2.2
  post := fun s w x w' => x.2.1 = (lnL s).length ∧ Made w w' 35 2 x.1 x.2.1 ((lnL s).flatMap encPc) x.2.2
def spRLines : List (Nat × CallSpec) := [(56, sRAllP), (19, sSL .i8 25 whereL)]
def annRLines (s : ByteArray) (_ : World) : Ann where
  sp := spRLines
  loops := [(6, {
    X := Nat × Option Addr × Nat
    sh := fun _ x => [(7, .int .i64 x.1), (6, .int .i64 (lnS s x.1).1), (5, .slice x.2.1 (lnS s x.1).2.length x.2.2)]
    inv := fun _ w0 x w => x.1 ≤ ncl s ∧ Made w0 w 35 2 x.2.1 (lnS s x.1).2.length ((lnS s x.1).2.flatMap fun p => encPc (lnP s p)) x.2.2
    mu := fun _ _ x _ => ncl s - x.1 })]

def itLn : IterSpec where
  G := ByteArray × Nat
  cap := fun g => [.pointer (some ⟨g.2, 0, none⟩)]
  xs := fun g => (lnL g.1).map encPc
  C := fun g q => q = g.2 ∨ q = 0 ∨ q = 1
  pre := fun g w => w.heap[g.2]? = some (.cells #[.string g.1] 9) ∧ U8 w ∧ g.1.size ≤ 1048576
def spItLn : List (Nat × CallSpec) := [(55, sIter 101), (60, sKindC)]
def annItLn (g : ByteArray × Nat) (i : ItG) (W : World) : Ann where
  sp := spItLn
  yl := some (ylOf (itLn.xs g) i W)
  ranges := [(3, {
    α := Nat × ByteArray
    enc := encPc
    exs := [.ret]
    J := fun e w0 xs k D W1 => ∃ Do : Nat → Prop, D = (fun q => q = ptrB (gv e 3) ∨ Do q) ∧ ¬ Do (ptrB (gv e 3)) ∧ i.J (lnC g.1 k) Do W1 ∧ W1.heap[ptrB (gv e 3)]? = some (.cells #[.int .i64 (lnF g.1 k)] 3)
    Jx := fun e w0 _ _ D W1 => ∃ Do : Nat → Prop, D = (fun q => q = ptrB (gv e 3) ∨ Do q) ∧ ¬ Do (ptrB (gv e 3)) ∧ i.Jx Do W1 })]

structure GGo where
  it : GIt
  want : List (Nat × ByteArray)
  a : Option Addr
  c : Nat
  most : Int
def sGoes : CallSpec where
  G := GGo
  args := fun g => #[.func (.func g.it.f) #[] g.it.caps, .slice g.a g.want.length g.c, .int .i64 g.most]
  pre := fun g w => g.it.ok w ∧ CellsAt w g.a (g.want.flatMap encPc) ∧ g.it.xs = g.want
  X := Unit
  res := fun _ => .bool true
  post := fun _ w _ w' => Ext w w'
def annGoes (g : GGo) (_ : World) : Ann where
  sp := []
  ranges := [(5, {
    α := Nat × ByteArray
    enc := encPc
    exs := [.ret]
    J := fun e w0 xs k D W => D = ones [ptrB (gv e 6), ptrB (gv e 7)] ∧ W.heap[ptrB (gv e 7)]? = some (.cells #[.int .i64 (k : Int)] 3) ∧ (∃ v, W.heap[ptrB (gv e 6)]? = some (.cells #[.bool v] 4))
    Jx := fun e w0 _ _ D W => D = ones [ptrB (gv e 6), ptrB (gv e 7)] ∧ W.heap[ptrB (gv e 6)]? = some (.cells #[.bool true] 4) })]

--#vc rlines_vc 23 sPartL annRLines spRLines
--#vci itLn_vc 62 itLn annItLn spItLn
--#vc lines_vc 24 (sIter 62) (annOf []) []
--#vc goesL_vc 25 sGoes annGoes []

end Go.Proofs.YthpjkgoahneldaaDoor
end

section
/-
  Specifications, chapter 13: the laws BreaksWhere, BreaksLines.
-/
namespace Go.Proofs.YthpjkgoahneldaaDoor
open Go Go.RowKit Vc Ut Tb Cl

def sLawS : CallSpec where
  G := ByteArray
  args := fun s => #[.string s]
  pre := fun s w => U8 w ∧ s.size ≤ 1048576
  X := Unit
  res := fun _ => .bool true
  post := fun _ w _ w' => Ext w w'
def sLawSI : CallSpec where
  G := ByteArray × Int
  args := fun g => #[.string g.1, .int .i64 g.2]
  pre := fun g w => U8 w ∧ g.1.size ≤ 1048576 ∧ -9223372036854775808 ≤ g.2 ∧ g.2 ≤ 9223372036854775807
  X := Unit
  res := fun _ => .bool true
  post := fun _ w _ w' => Ext w w'

def wkN : Nat → Int
  | 0 => 0
  | 1 => 1
  | _ => 4
def wkS : Nat → ByteArray
  | 0 => ⟨#[]⟩
  | 1 => ⟨#[97, 10]⟩
  | _ => ⟨#[98]⟩
def spWakes : List (Nat × CallSpec) := [(20, sSL .i8 25 whereL), (24, sIter 62)]
def annWakes (_ : Unit) (_ : World) : Ann where
  sp := spWakes
  ranges := [(9, {
    α := Nat × ByteArray
    enc := encPc
    J := fun e w0 xs k D W => D = ones [ptrB (gv e 4), ptrB (gv e 5)] ∧ W.heap[ptrB (gv e 4)]? = some (.cells #[.int .i64 (wkN k)] 3) ∧ W.heap[ptrB (gv e 5)]? = some (.cells #[.string (wkS k)] 9)
    Jx := fun e w0 _ _ D W => (1 : Nat) = 0 })]

def adS : Value → Option Nat
  | .slice a _ _ => blk a
  | _ => none
def spLawWh : List (Nat × CallSpec) := [(19, sSL .i8 25 whereL), (20, sSL .i8 25 whereL), (21, sSame .i8), (22, sYes U8)]
structure GWh where
  j : Nat
  a : Option Addr
  c : Nat
def annLawWh (s : ByteArray) (_ : World) : Ann where
  sp := spLawWh
  loops := [(7, {
    X := Nat
    sh := fun _ i => [(6, .int .i64 i)]
    inv := fun e w0 i w => i ≤ ncl s ∧ Fr (fun q => adS (gv e 4) = some q) w0 w ∧ ∃ a c vs, gv e 4 = .slice a (ncl s) c ∧ Row w 25 1 a (ncl s) vs c
    mu := fun _ _ i _ => ncl s - i }), (11, {
    X := GWh
    sh := fun _ x => [(7, .int .i64 x.j), (4, .slice x.a (ncl s + x.j) x.c)]
    inv := fun e w0 x w => x.j ≤ 30 ∧ Fr (fun q => adS (gv e 4) = some q) w0 w ∧ (∃ vs, Row w 25 1 x.a (ncl s + x.j) vs x.c) ∧ (∀ q, blk x.a = some q → adS (gv e 4) = some q ∨ w0.heap.size ≤ q)
    mu := fun _ _ x _ => 30 - x.j })]

def spLawLn : List (Nat × CallSpec) := [(23, sPartL), (24, sIter 62), (25, sGoes), (22, sYes U8)]
def annLawLn (g : ByteArray × Int) (_ : World) : Ann where
  sp := spLawLn
  ranges := [(8, {
    α := Nat × ByteArray
    enc := encPc
    J := fun e w0 xs k D W => D = ones [ptrB (gv e 4), ptrB (gv e 8)] ∧ W.heap[ptrB (gv e 8)]? = some (.cells #[.int .i64 (k : Int)] 3) ∧ (∃ v, W.heap[ptrB (gv e 4)]? = some (.cells #[.bool v] 4))
    Jx := fun e w0 _ _ D W => (1 : Nat) = 0 })]

--#vc wakes_vc 22 (sYes U8) annWakes spWakes
--#vc sameD_vc 21 (sSame .i8) annSameI []
--#vc lawWh_vc 3 sLawS annLawWh spLawWh
--#vc lawLn_vc 4 sLawSI annLawLn spLawLn

end Go.Proofs.YthpjkgoahneldaaDoor
end

section
/-
  Breaks in plain words, third part: a piece of a text between borders; lines, each alone.
-/
namespace Go.Proofs.YthpjkgoahneldaaDoor
open Go Vc Ut Tb Cl Orb

theorem ext2 {s : ByteArray} {a b c d : Nat} (h : a + d ≤ b) : (s.extract a b).extract c d = s.extract (a + c) (a + d) := by
  rw [ByteArray.extract_extract, Nat.min_eq_left h]
/-- The piece from cluster f to cluster e. -/
def pieceS (s : ByteArray) (f e : Nat) : ByteArray := s.extract (bp s f) (bp s e)
theorem piece_eq {s : ByteArray} {f e : Nat} (hf : f ≤ e) (he : e ≤ ncl s) : pieceS s f e = (s.extract (bp s f) s.size).extract 0 (bp (s.extract (bp s f) s.size) (e - f)) := by
  have h1 := bp_drop (s := s) (k := f) (by omega) (e - f)
  have h2 := bp_le s e
  rw [show f + (e - f) = e from by omega] at h1
  rw [ext2 (by omega), Nat.add_zero, show bp s f + bp (s.extract (bp s f) s.size) (e - f) = bp s e from by omega]
  rfl
theorem piece_ncl {s : ByteArray} {f e : Nat} (hf : f ≤ e) (he : e ≤ ncl s) : ncl (pieceS s f e) = e - f := by
  rw [piece_eq hf he]
  have := ncl_drop (s := s) (k := f) (by omega)
  exact ncl_take (by omega)
theorem piece_bp {s : ByteArray} {f e i : Nat} (hf : f ≤ e) (he : e ≤ ncl s) (hi : i ≤ e - f) : bp (pieceS s f e) i + bp s f = bp s (f + i) := by
  rw [piece_eq hf he]
  have := ncl_drop (s := s) (k := f) (by omega)
  rw [bp_take (by omega) hi]
  exact bp_drop (by omega) i
theorem piece_size {s : ByteArray} {f e : Nat} (hf : f ≤ e) : (pieceS s f e).size + bp s f = bp s e := by
  have := bp_mono s hf
  unfold pieceS
  rw [size_ext (bp_le s e)]; omega
theorem piece_pc {s : ByteArray} {f e i : Nat} (hf : f ≤ e) (he : e ≤ ncl s) (hi : i < e - f) : (pcP (pieceS s f e) i).2 = (pcP s (f + i)).2 := by
  have h1 := piece_bp hf he (i := i) (by omega)
  have h2 := piece_bp hf he (i := i + 1) (by omega)
  have h3 := bp_mono s (show f + (i + 1) ≤ e by omega)
  unfold pcP
  show (pieceS s f e).extract _ _ = _
  generalize bp (pieceS s f e) i = x at h1
  generalize bp (pieceS s f e) (i + 1) = y at h2
  unfold pieceS
  rw [ext2 (by omega), show bp s f + x = bp s (f + i) from by omega, show bp s f + y = bp s (f + i + 1) from by rw [Nat.add_assoc]; omega]
theorem piece_kc {s : ByteArray} {f e i : Nat} (hf : f ≤ e) (he : e ≤ ncl s) (hi : i < e - f) : kc (pieceS s f e) i = kc s (f + i) := by
  unfold kc; rw [piece_pc hf he hi]

/-- What is said hangs on the solid one, the cluster and the next one. -/
theorem where_local {s : ByteArray} {f k e : Nat} (hfk : f ≤ k) (hk : k < ncl s) (he : e = if ncl s ≤ k + 2 then ncl s else k + 2) (hsp : ∀ j, f < j → j ≤ k → kc s j = 1) (hso : f = 0 ∨ kc s f ≠ 1) : whereI (pieceS s f e) (k - f) = whereI s k := by
  have hfe : f ≤ e := by rw [he]; split <;> omega
  have hen : e ≤ ncl s := by rw [he]; split <;> omega
  have hke : k < e := by rw [he]; split <;> omega
  have hk1 : k + 1 < e ↔ k + 1 < ncl s := by rw [he]; split <;> omega
  have hn := piece_ncl hfe hen
  have hkc : ∀ i, i < e - f → kc (pieceS s f e) i = kc s (f + i) := fun i hi => piece_kc hfe hen hi
  have hsol : ∀ i, i ≤ k - f → sol (pieceS s f e) (i + 1) = sol s (f + i + 1) := by
    intro i
    induction i with
    | zero =>
      intro _
      simp only [sol, Nat.add_zero]
      rw [hkc 0 (by omega), Nat.add_zero]
      rcases hso with h | h
      · subst h; rfl
      · rw [if_neg h, if_neg h]
    | succ i ih =>
      intro hi
      show (if kc (pieceS s f e) (i + 1) = 1 then sol (pieceS s f e) (i + 1) else kc (pieceS s f e) (i + 1)) = (if kc s (f + (i + 1)) = 1 then sol s (f + (i + 1)) else kc s (f + (i + 1)))
      rw [hkc (i + 1) (by omega), ih (by omega)]
      rfl
  unfold whereI
  rw [hn, hkc (k - f) (by omega), show f + (k - f) = k from by omega, hsol (k - f) (Nat.le_refl _), show f + (k - f) + 1 = k + 1 from by omega]
  by_cases h1 : k + 1 < ncl s
  · rw [if_pos (by have := hk1.2 h1; omega), if_pos h1, hkc (k - f + 1) (by have := hk1.2 h1; omega), show f + (k - f + 1) = k + 1 from by omega]
  · rw [if_neg (by intro h; exact h1 (hk1.1 (by omega))), if_neg h1]

/-! ### Lines, each alone -/

/-- A line: clusters a to b, no Must but at its end (m: there is one), not too long. -/
def LineIs (s : ByteArray) (p : Nat × Nat) (m : Bool) : Prop :=
  ∃ a b, a ≤ b ∧ b ≤ ncl s ∧ p = (bp s a, bp s b) ∧ bp s b ≤ bp s a + 65536 ∧ (∀ j, a ≤ j → j + 1 < b → kc s j ≠ 2) ∧ (m = true ↔ a < b ∧ kc s (b - 1) = 2)

theorem line_piece {s : ByteArray} {p : Nat × Nat} {m : Bool} (h : LineIs s p m) : ∃ a b, a ≤ b ∧ b ≤ ncl s ∧ p = (bp s a, bp s b) ∧ (lnP s p).2 = pieceS s a b ∧ bp s b ≤ bp s a + 65536 ∧ (∀ j, a ≤ j → j + 1 < b → kc s j ≠ 2) ∧ (m = true ↔ a < b ∧ kc s (b - 1) = 2) := by
  obtain ⟨a, b, h1, h2, rfl, h4, h5, h6⟩ := h
  exact ⟨a, b, h1, h2, rfl, rfl, h4, h5, h6⟩

/-- The lines of a line. -/
theorem line_alone {s : ByteArray} {p : Nat × Nat} {m : Bool} (h : LineIs s p m) : lnL (lnP s p).2 = if m = true then [(0, (lnP s p).2), ((lnP s p).2.size, ⟨#[]⟩)] else [(0, (lnP s p).2)] := by
  obtain ⟨a, b, hab, hbn, rfl, hp, hlen, hno, hm⟩ := line_piece h
  rw [hp]
  have hn := piece_ncl hab hbn
  have hz := piece_size (s := s) hab
  generalize ht : pieceS s a b = t at hn hz
  have hkc : ∀ i, i < b - a → kc t i = kc s (a + i) := fun i hi => by rw [← ht]; exact piece_kc hab hbn hi
  have hbt : ∀ i, bp t i ≤ 65536 := fun i => by have := bp_le t i; omega
  have hS : ∀ i, i + 1 ≤ b - a → lnS t i = (0, []) := by
    intro i
    induction i with
    | zero => intro _; rfl
    | succ i ih =>
      intro hi
      simp only [lnS]
      rw [ih (by omega), if_neg (by rw [hkc i (by omega)]; exact hno _ (by omega) (by omega)), if_neg (by have := hbt (i + 1); dsimp only; omega)]
  have hself : t.extract 0 t.size = t := ByteArray.extract_zero_size
  have hnil : t.extract t.size t.size = ⟨#[]⟩ := by apply ByteArray.ext; simp [ByteArray.data_extract]
  unfold lnL lnA
  rw [hn]
  by_cases hba : b = a
  · have hm0 : ¬ m = true := fun h => by have := hm.1 h; omega
    rw [show b - a = 0 from by omega, if_neg hm0]
    show [lnP t (0, t.size)] = _
    unfold lnP
    rw [hself]
  · obtain ⟨d, hd⟩ : ∃ d, b - a = d + 1 := ⟨b - a - 1, by omega⟩
    rw [hd]
    have hl := hS d (by omega)
    have hk : kc t d = kc s (b - 1) := by rw [hkc d (by omega), show a + d = b - 1 from by omega]
    have hend : bp t (d + 1) = t.size := by rw [← hd, ← hn, bp_end]
    simp only [lnS]
    rw [hl, hk]
    by_cases hmm : m = true
    · rw [if_pos (hm.1 hmm).2, if_neg (by have := hbt (d + 1); dsimp only; omega), if_pos hmm, hend]
      show [lnP t (0, t.size), lnP t (t.size, t.size)] = _
      unfold lnP
      rw [hself, hnil]
    · rw [if_neg (fun h => hmm (hm.2 ⟨by omega, h⟩)), if_neg (by have := hbt (d + 1); dsimp only; omega), if_neg hmm]
      show [lnP t (0, t.size)] = _
      unfold lnP
      rw [hself]
/-- What is said of a line. -/
theorem line_where {s : ByteArray} {p : Nat × Nat} {m : Bool} (h : LineIs s p m) : (∀ i, i + 1 < ncl (lnP s p).2 → whereI (lnP s p).2 i ≠ 2) ∧ (m = true ↔ 0 < ncl (lnP s p).2 ∧ whereI (lnP s p).2 (ncl (lnP s p).2 - 1) = 2) := by
  obtain ⟨a, b, hab, hbn, rfl, hp, hlen, hno, hm⟩ := line_piece h
  rw [hp]
  have hn := piece_ncl hab hbn
  have hkc : ∀ i, i < b - a → kc (pieceS s a b) i = kc s (a + i) := fun i hi => piece_kc hab hbn hi
  rw [hn]
  constructor
  · intro i hi h2
    have := whereI_must.1 h2
    rw [hkc i (by omega)] at this
    exact hno _ (by omega) (by omega) this
  · rw [whereI_must]
    constructor
    · intro h2
      have := hm.1 h2
      exact ⟨by omega, by rw [hkc _ (by omega), show a + (b - a - 1) = b - 1 from by omega]; exact this.2⟩
    · rintro ⟨h1, h2⟩
      rw [hkc _ (by omega), show a + (b - a - 1) = b - 1 from by omega] at h2
      exact hm.2 ⟨by omega, h2⟩

/-- Lines one behind the other. -/
def Chain : Nat → List (Nat × Nat) → Nat → Prop
  | a, [], e => a = e
  | a, p :: l, e => p.1 = a ∧ Chain p.2 l e
theorem Chain.snoc {e' : Nat} : ∀ {a : Nat} {l : List (Nat × Nat)} {e : Nat}, Chain a l e → Chain a (l ++ [(e, e')]) e'
  | a, [], e, h => ⟨h.symm, rfl⟩
  | a, p :: l, e, h => ⟨h.1, Chain.snoc h.2⟩
theorem Chain.at {a e : Nat} : ∀ {l : List (Nat × Nat)} {a : Nat} {k : Nat} {p : Nat × Nat}, Chain a l e → l[k]? = some p → p.1 = if k = 0 then a else (l.getD (k - 1) (0, 0)).2
  | [], _, k, p, _, h => by simp at h
  | q :: l, a, 0, p, hc, h => by simp at h; subst h; exact hc.1
  | q :: l, a, k + 1, p, hc, h => by
    simp only [List.getElem?_cons_succ] at h
    have := Chain.at (a := a) (e := e) hc.2 h
    rw [this]
    by_cases hk : k = 0
    · subst hk; rfl
    · obtain ⟨j, rfl⟩ : ∃ j, k = j + 1 := ⟨k - 1, by omega⟩
      rw [if_neg (by omega), if_neg (by omega)]
      rfl
/-- How far one has come. -/
structure LnInv (s : ByteArray) (i : Nat) : Prop where
  here : ∃ a, a ≤ i ∧ (lnS s i).1 = bp s a ∧ bp s i ≤ bp s a + 65536 ∧ ∀ j, a ≤ j → j < i → kc s j ≠ 2
  told : ∀ p ∈ (lnS s i).2, (∃ m, LineIs s p m) ∧ p.1 < p.2
  chain : Chain 0 (lnS s i).2 (lnS s i).1

theorem ln_inv (s : ByteArray) : ∀ i, i ≤ ncl s → LnInv s i
  | 0, _ => ⟨⟨0, Nat.le_refl _, rfl, by omega, fun j h1 h2 => by omega⟩, fun p hp => by simp [lnS] at hp, rfl⟩
  | i + 1, hi => by
    obtain ⟨⟨a, ha, hf, hl, hno⟩, ht, hc⟩ := ln_inv s i (by omega)
    have hsm := clu_small (s := s) (i := i) (by omega)
    have hst := bp_strict (s := s) (show i < i + 1 by omega) (by omega)
    have hai := bp_mono s ha
    rw [hf] at hc
    have cut : ∀ {m : Bool}, bp s (i + 1) - bp s a > 65536 → m = false → LineIs s (bp s a, bp s i) m ∧ bp s a < bp s i := fun ho hm => by
      refine ⟨⟨a, i, ha, by omega, rfl, hl, fun j h1 h2 => hno j h1 (by omega), ?_⟩, by omega⟩
      rw [hm]
      constructor
      · intro h; cases h
      · rintro ⟨h1, h2⟩; exact absurd h2 (hno (i - 1) (by omega) (by omega))
    by_cases hk : kc s i = 2
    · by_cases ho : bp s (i + 1) - (lnS s i).1 > 65536
      · have e : lnS s (i + 1) = (bp s (i + 1), (lnS s i).2 ++ [(bp s a, bp s i), (bp s i, bp s (i + 1))]) := by simp only [lnS]; rw [if_pos hk, if_pos ho, hf]
        rw [hf] at ho
        refine ⟨⟨i + 1, Nat.le_refl _, by rw [e], by omega, fun j h1 h2 => by omega⟩, ?_, ?_⟩
        · rw [e]
          intro p hp
          simp only [List.mem_append, List.mem_cons, List.not_mem_nil, or_false] at hp
          rcases hp with hp | rfl | rfl
          · exact ht p hp
          · have := cut (m := false) ho rfl; exact ⟨⟨_, this.1⟩, this.2⟩
          · exact ⟨⟨true, i, i + 1, by omega, hi, rfl, by omega, fun j h1 h2 => by omega, by simp [hk]⟩, hst⟩
        · rw [e]
          have := (hc.snoc (e' := bp s i)).snoc (e' := bp s (i + 1))
          rw [List.append_assoc] at this
          exact this
      · have e : lnS s (i + 1) = (bp s (i + 1), (lnS s i).2 ++ [(bp s a, bp s (i + 1))]) := by simp only [lnS]; rw [if_pos hk, if_neg ho, hf]
        rw [hf] at ho
        refine ⟨⟨i + 1, Nat.le_refl _, by rw [e], by omega, fun j h1 h2 => by omega⟩, ?_, ?_⟩
        · rw [e]
          intro p hp
          simp only [List.mem_append, List.mem_cons, List.not_mem_nil, or_false] at hp
          rcases hp with hp | rfl
          · exact ht p hp
          · exact ⟨⟨true, a, i + 1, by omega, hi, rfl, by omega, fun j h1 h2 => hno j h1 (by omega), by simp [hk]; omega⟩, by dsimp only; omega⟩
        · rw [e]; exact hc.snoc
    · by_cases ho : bp s (i + 1) - (lnS s i).1 > 65536
      · have e : lnS s (i + 1) = (bp s i, (lnS s i).2 ++ [(bp s a, bp s i)]) := by simp only [lnS]; rw [if_neg hk, if_pos ho, hf]
        rw [hf] at ho
        refine ⟨⟨i, by omega, by rw [e], by omega, fun j h1 h2 => by have : j = i := by omega
                                                                     subst this; exact hk⟩, ?_, ?_⟩
        · rw [e]
          intro p hp
          simp only [List.mem_append, List.mem_cons, List.not_mem_nil, or_false] at hp
          rcases hp with hp | rfl
          · exact ht p hp
          · have := cut (m := false) ho rfl; exact ⟨⟨_, this.1⟩, this.2⟩
        · rw [e]; exact hc.snoc
      · have e : lnS s (i + 1) = lnS s i := by simp only [lnS]; rw [if_neg hk, if_neg ho]
        rw [hf] at ho
        refine ⟨⟨a, by omega, by rw [e, hf], by omega, fun j h1 h2 => ?_⟩, by rw [e]; exact ht, by rw [e, hf]; exact hc⟩
        rcases Nat.lt_or_ge j i with h | h
        · exact hno j h1 h
        · have : j = i := by omega
          subst this; exact hk

def endAt (s : ByteArray) (k : Nat) : Nat := if k = 0 then 0 else ((lnA s).getD (k - 1) (0, 0)).2
theorem lnA_len (s : ByteArray) : (lnA s).length = (lnL s).length := by simp [lnL]
theorem ln_facts {s : ByteArray} {k : Nat} {p : Nat × Nat} (h : (lnA s)[k]? = some p) : (∃ m, LineIs s p m ∧ (k + 1 = (lnA s).length → m = false ∧ p.2 = s.size)) ∧ p.1 = endAt s k ∧ (k + 1 < (lnA s).length → p.1 < p.2) := by
  obtain ⟨⟨a, ha, hf, hl, hno⟩, ht, hc⟩ := ln_inv s (ncl s) (Nat.le_refl _)
  have hbe := bp_end s
  have hlen : (lnA s).length = (lnS s (ncl s)).2.length + 1 := by simp [lnA]
  have hkl := (List.getElem?_eq_some_iff.1 h).1
  have hch : Chain 0 (lnA s) s.size := hc.snoc
  refine ⟨?_, ?_, ?_⟩
  · by_cases hk : k < (lnS s (ncl s)).2.length
    · have h2 : (lnS s (ncl s)).2[k]? = some p := by unfold lnA at h; rwa [List.getElem?_append_left hk] at h
      obtain ⟨⟨m, hm⟩, _⟩ := ht p (List.mem_of_getElem? h2)
      exact ⟨m, hm, fun e => by omega⟩
    · have hk2 : k = (lnS s (ncl s)).2.length := by omega
      have h2 : p = (bp s a, bp s (ncl s)) := by
        unfold lnA at h
        rw [hk2, List.getElem?_append_right (Nat.le_refl _), Nat.sub_self] at h
        simp only [List.getElem?_cons_zero, Option.some.injEq] at h
        rw [← h, hf, hbe]
      subst h2
      refine ⟨false, ⟨a, ncl s, ha, Nat.le_refl _, rfl, hl, fun j h1 h2 => hno j h1 (by omega), ?_⟩, fun _ => ⟨rfl, hbe⟩⟩
      constructor
      · intro h; cases h
      · rintro ⟨h1, h2⟩; exact absurd h2 (hno _ (by omega) (by omega))
  · have := Chain.at (a := 0) (e := s.size) hch h
    rw [this]; rfl
  · intro hk
    have h2 : (lnS s (ncl s)).2[k]? = some p := by unfold lnA at h; rwa [List.getElem?_append_left (by omega)] at h
    exact (ht p (List.mem_of_getElem? h2)).2
def lmB (t : ByteArray) : Bool := decide (0 < ncl t) && decide (whereI t (ncl t - 1) = 2)
def lastB (s : ByteArray) (k : Nat) : Bool := if k = 0 then false else lmB ((lnL s).getD (k - 1) (0, ⟨#[]⟩)).2
theorem line_lm {s : ByteArray} {p : Nat × Nat} {m : Bool} (h : LineIs s p m) : m = lmB (lnP s p).2 := by
  have := (line_where h).2
  unfold lmB
  rw [Bool.eq_iff_iff, this]
  simp
theorem line_border {s : ByteArray} {p : Nat × Nat} {m : Bool} (h : LineIs s p m) : (∃ i, i ≤ ncl s ∧ bp s i = p.2) ∧ p.1 ≤ p.2 ∧ p.2 ≤ s.size ∧ p.2 ≤ p.1 + 65536 := by
  obtain ⟨a, b, h1, h2, rfl, h4, _, _⟩ := h
  have := bp_mono s h1
  exact ⟨⟨b, h2, rfl⟩, this, bp_le s b, h4⟩

end Go.Proofs.YthpjkgoahneldaaDoor
end

section
/-
  Specifications, chapter 13: the laws BreaksLocal, BreaksWhole.
-/
namespace Go.Proofs.YthpjkgoahneldaaDoor
open Go Go.RowKit Vc Ut Tb Cl

def strV (p : Nat × ByteArray) : Value := .string p.2
def sParts : CallSpec where
  G := ByteArray
  args := fun s => #[.string s]
  pre := fun s w => U8 w ∧ s.size ≤ 67108864
  X := Option Addr × Nat × Nat
  res := fun x => .tuple #[.slice x.1 x.2.1 x.2.2, .bool true]
  post := fun s w x w' => x.2.1 = ncl s ∧ Made w w' 9 1 x.1 x.2.1 ((pcL s).map strV) x.2.2
def spParts : List (Nat × CallSpec) := [(55, sIter 101)]
def annParts (s : ByteArray) (_ : World) : Ann where
  sp := spParts
  ranges := [(6, {
    α := Nat × ByteArray
    enc := encPc
    J := fun e w0 xs k D W => ∃ a c, D = (fun q => q = ptrB (gv e 5) ∨ blk a = some q) ∧ Grow W (ptrB (gv e 5)) 37 9 a c (((pcL s).take k).map strV)
    Jx := fun e w0 _ _ D W => (1 : Nat) = 0 })]

def minE (s : ByteArray) (k : Nat) : Nat := if ncl s ≤ k + 2 then ncl s else k + 2
def spLoc : List (Nat × CallSpec) := [(20, sSL .i8 25 whereL), (26, sParts), (27, sKindC), (22, sYes U8)]
def annLoc (g : ByteArray × Int) (_ : World) : Ann where
  sp := spLoc
  wraps := [12]
  cuts := [(13, 14, { X := Nat, sh := fun _ k => [(1, .int .i64 k)], inv := fun _ w0 k w => k < ncl g.1 ∧ Ext w0 w }),
    (16, 17, { X := Nat, sh := fun _ f => [(9, .int .i64 f)], inv := fun e w0 f w => (f : Int) ≤ gi e 1 ∧ (∀ j : Nat, f < j → (j : Int) ≤ gi e 1 → kc g.1 j = 1) ∧ (f = 0 ∨ kc g.1 f ≠ 1) ∧ Ext w0 w }),
    (19, 21, { X := Unit, sh := fun e _ => [(10, .string (pieceS g.1 (gi e 9).toNat (minE g.1 (gi e 1).toNat)))], inv := fun e w0 _ w => Ext w0 w })]
  loops := [(6, {
    X := Nat
    sh := fun _ i => [(8, .int .i64 i)]
    inv := fun _ w0 i w => i ≤ ncl g.1 ∧ Ext w0 w
    mu := fun _ _ i _ => ncl g.1 - i }), (16, {
    X := Nat
    sh := fun _ f => [(9, .int .i64 f)]
    inv := fun e w0 f w => (f : Int) ≤ gi e 1 ∧ (∀ j : Nat, f < j → (j : Int) ≤ gi e 1 → kc g.1 j = 1) ∧ Ext w0 w
    mu := fun _ _ f _ => f }), (20, {
    X := Nat
    sh := fun e i => [(11, .int .i64 i), (10, .string (pieceS g.1 (gi e 9).toNat i))]
    inv := fun e w0 i w => (gi e 9).toNat ≤ i ∧ i ≤ minE g.1 (gi e 1).toNat ∧ Ext w0 w
    mu := fun e _ i _ => minE g.1 (gi e 1).toNat - i })]

structure GOne where
  it : GIt
  t : ByteArray
  m : Bool
def oneB (xs : List (Nat × ByteArray)) (t : ByteArray) (m : Bool) : Prop := xs = if m = true then [(0, t), (t.size, ⟨#[]⟩)] else [(0, t)]
def sOne : CallSpec where
  G := GOne
  args := fun g => #[.func (.func g.it.f) #[] g.it.caps, .string g.t, .bool g.m]
  pre := fun g w => g.it.ok w ∧ oneB g.it.xs g.t g.m
  X := Unit
  res := fun _ => .bool true
  post := fun _ w _ w' => Ext w w'
def annOne (g : GOne) (_ : World) : Ann where
  sp := []
  ranges := [(3, {
    α := Nat × ByteArray
    enc := encPc
    J := fun e w0 xs k D W => D = ones [ptrB (gv e 6), ptrB (gv e 7)] ∧ W.heap[ptrB (gv e 7)]? = some (.cells #[.int .i64 (k : Int)] 3) ∧ (∃ v, W.heap[ptrB (gv e 6)]? = some (.cells #[.bool v] 4))
    Jx := fun e w0 _ _ D W => (1 : Nat) = 0 })]

def spWho : List (Nat × CallSpec) := [(20, sSL .i8 25 whereL), (24, sIter 62), (28, sIsB), (29, sOne), (22, sYes U8)]
def strOf : Value → ByteArray
  | .string s => s
  | _ => ⟨#[]⟩
def annWho (s : ByteArray) (_ : World) : Ann where
  sp := spWho
  cuts := [(10, 11, { X := Unit, sh := fun _ _ => [], inv := fun _ w0 _ w => Ext w0 w }),
    (13, 13, { X := Unit, sh := fun _ _ => [], inv := fun e w0 _ w => Fr (fun q => q = ptrB (gv e 6)) w0 w ∧ w.heap[ptrB (gv e 6)]? = some (.cells #[.bool (lmB (strOf (gv e 8)))] 4) }),
    (20, 21, { X := Unit, sh := fun _ _ => [], inv := fun _ w0 _ w => Ext w0 w })]
  loops := [(15, {
    X := Nat
    sh := fun _ i => [(10, .int .i64 i)]
    inv := fun _ w0 i w => i ≤ 67108864 ∧ Ext w0 w
    mu := fun _ _ i _ => 67108864 - i })]
  ranges := [(8, {
    α := Nat × ByteArray
    enc := encPc
    J := fun e w0 xs k D W => D = ones [ptrB (gv e 2), ptrB (gv e 4), ptrB (gv e 5), ptrB (gv e 6)] ∧ W.heap[ptrB (gv e 4)]? = some (.cells #[.int .i64 (endAt s k)] 3) ∧ W.heap[ptrB (gv e 5)]? = some (.cells #[.int .i64 (k : Int)] 3) ∧ W.heap[ptrB (gv e 6)]? = some (.cells #[.bool (lastB s k)] 4) ∧ (∃ v, W.heap[ptrB (gv e 2)]? = some (.cells #[.bool v] 4))
    Jx := fun e w0 _ _ D W => (1 : Nat) = 0 })]

--#vc parts_vc 26 sParts annParts spParts
--#vc lawLoc_vc 5 sLawSI annLoc spLoc
--#vc one_vc 29 sOne annOne []
--#vc lawWho_vc 6 sLawS annWho spWho

end Go.Proofs.YthpjkgoahneldaaDoor
end

section
/-
  Verification conditions, printed by a program out of the specifications beside this text: each theorem says that the condition suffices. (Lean's kernel compares the printed condition with what 'wpE' computes.)
-/
set_option linter.unusedVariables false
namespace Go.Proofs.YthpjkgoahneldaaDoor
open Go Go.RowKit Vc Ut Tb Cl

set_option maxRecDepth 1000000 in
theorem parts_vc (hsp : SpecsOk Tryd.prog spParts) (h : ∀ (g : ByteArray) (w : World), U8 w ∧ g.size ≤ (67108864 : Nat) → ∃ (g1 : ByteArray), #[Value.string g] = #[Value.string g1] ∧ True ∧ ∀ (x : Nat) (w' : World), w.heap.size ≤ x ∧ w'.heap[x]? = some (Obj.cells #[Value.string g1] (9 : TypeId)) ∧ Ext w w' → ∀ (b : Nat) (w1 : World), New w' (Obj.cells #[Value.slice none (0 : Nat) (0 : Nat)] (37 : Nat)) b w1 → ∃ (xs : List (Nat × ByteArray)), ∃ (C : Nat → Prop), ∃ (D0 : Nat → Prop), IterAt Tryd.prog (Value.func (Fn.func (101 : Nat)) #[] #[Value.pointer (some { block := x, off := (0 : Nat) })]) (List.map encPc xs) C w1 ∧ DomOk w1 C D0 ∧ (∃ (a3 : Option Addr), ∃ (c : Nat), (D0 = fun (q : Nat) => q = ptrB (Value.pointer (some { block := b, off := (0 : Nat) })) ∨ blk a3 = some q) ∧ Grow w1 (ptrB (Value.pointer (some { block := b, off := (0 : Nat) }))) (37 : TypeId) (9 : TypeId) a3 c (List.map strV (List.take (0 : Nat) (pcL g)))) ∧ (Stab w1.heap.size fun (k : Nat) (D : Nat → Prop) (W : World) => ∃ (a : Option Addr), ∃ (c : Nat), (D = fun (q : Nat) => q = ptrB (Value.pointer (some { block := b, off := (0 : Nat) })) ∨ blk a = some q) ∧ Grow W (ptrB (Value.pointer (some { block := b, off := (0 : Nat) }))) (37 : TypeId) (9 : TypeId) a c (List.map strV (List.take k (pcL g)))) ∧ (∀ (x1 : Exit), Stab w1.heap.size fun (x : Nat) (D : Nat → Prop) (W : World) => (1 : Nat) = (0 : Nat)) ∧ (∀ (k : Nat) (x1 : Nat × ByteArray) (D : Nat → Prop) (W : World), xs[k]? = some x1 → (∃ (a4 : Option Addr), ∃ (c : Nat), (D = fun (q : Nat) => q = ptrB (Value.pointer (some { block := b, off := (0 : Nat) })) ∨ blk a4 = some q) ∧ Grow W (ptrB (Value.pointer (some { block := b, off := (0 : Nat) }))) (37 : TypeId) (9 : TypeId) a4 c (List.map strV (List.take k (pcL g)))) → Mid w1 D0 D W → ∃ (a6 : Option Addr), ∃ (n : Nat), ∃ (c : Nat), W.cell? { block := b, off := (0 : Nat) } = some (Value.slice a6 n c) ∧ ∀ (b1 : Nat) (w11 : World), New W (Obj.cells #[Value.string x1.snd] (9 : Nat)) b1 w11 → ∃ (a' : Option Addr), ∃ (c' : Nat), ∃ (w'1 : World), AppRun Tryd.prog #[(37 : Nat), (37 : Nat)] (37 : Nat) (Value.slice a6 n c) (Value.slice (some { block := b1, off := (0 : Nat) }) (1 : Nat) (1 : Nat)) w11 a' (n + (1 : Nat)) c' w'1 ∧ KO w11 w'1 ∧ true = true ∧ (∃ (old : Value), w'1.cell? { block := b, off := (0 : Nat) } = some old) ∧ w'1.frozen? { block := b, off := (0 : Nat) } = false ∧ ∀ (w12 : World), Stored w'1 { block := b, off := (0 : Nat) } (Value.slice a' (n + (1 : Nat)) c') w12 → ∃ (D' : Nat → Prop), Step D W w12 D' ∧ ∃ (a9 : Option Addr), ∃ (c1 : Nat), (D' = fun (q : Nat) => q = ptrB (Value.pointer (some { block := b, off := (0 : Nat) })) ∨ blk a9 = some q) ∧ Grow w12 (ptrB (Value.pointer (some { block := b, off := (0 : Nat) }))) (37 : TypeId) (9 : TypeId) a9 c1 (List.map strV (List.take (k + (1 : Nat)) (pcL g)))) ∧ (∀ (D : Nat → Prop) (W : World), (∃ (a3 : Option Addr), ∃ (c : Nat),
 (D = fun (q : Nat) => q = ptrB (Value.pointer (some { block := b, off := (0 : Nat) })) ∨ blk a3 = some q) ∧ Grow W (ptrB (Value.pointer (some { block := b, off := (0 : Nat) }))) (37 : TypeId) (9 : TypeId) a3 c (List.map strV (List.take (lenX xs) (pcL g)))) → Mid w1 D0 D W → ∃ (a5 : Option Addr), ∃ (n : Nat), ∃ (c : Nat), W.cell? { block := b, off := (0 : Nat) } = some (Value.slice a5 n c) ∧ ∀ (w2 : World), Turn w.heap.size W w2 → ∃ (x1 : Option Addr × Nat × Nat), Value.tuple #[Value.slice a5 n c, Value.bool true] = Value.tuple #[Value.slice x1.fst x1.snd.fst x1.snd.snd, Value.bool true] ∧ x1.snd.fst = ncl g ∧ Made w w2 (9 : TypeId) (1 : Nat) x1.fst x1.snd.fst (List.map strV (pcL g)) x1.snd.snd) ∧ True) :
    (sParts).Ok Tryd.prog 26 :=
  ok_of_vc sParts annParts spParts (fun _ _ => rfl) (fun _ _ => rfl) hsp Tryd.func26 rfl (n := 1) (fun _ => rfl) (by kernel_rfl) (vcast (by kernel_rfl) h)

set_option maxRecDepth 1000000 in
theorem lawLoc_vc (hsp : SpecsOk Tryd.prog spLoc) (h : ∀ (g : ByteArray × Int) (w : World), U8 w ∧ g.fst.size ≤ (1048576 : Nat) ∧ (-9223372036854775808 : Int) ≤ g.snd ∧ g.snd ≤ (9223372036854775807 : Int) → ∃ (g1 : ByteArray), #[Value.string g.fst] = #[Value.string g1] ∧ (U8 w ∧ g1.size ≤ (67108864 : Nat)) ∧ ∀ (x : Option Addr × Nat × Nat) (w' : World), x.snd.fst = (whereL g1).length ∧ Made w w' (25 : TypeId) (1 : Nat) x.fst x.snd.fst (List.map (Value.int IntKind.i8) (whereL g1)) x.snd.snd → ∃ (g2 : ByteArray), #[Value.string g.fst] = #[Value.string g2] ∧ (U8 w' ∧ g2.size ≤ (67108864 : Nat)) ∧ ∀ (x1 : Option Addr × Nat × Nat) (w'1 : World), x1.snd.fst = ncl g2 ∧ Made w' w'1 (9 : TypeId) (1 : Nat) x1.fst x1.snd.fst (List.map strV (pcL g2)) x1.snd.snd → bcase ((↑x.snd.fst : Int) != (↑x1.snd.fst : Int)) (∃ (x2 : Unit), Value.bool false = Value.bool true ∧ Ext w w'1) ((∃ (x2 : Nat), Value.int IntKind.i64 (0 : Int) = Value.int IntKind.i64 (↑x2 : Int) ∧ x2 ≤ ncl g.fst ∧ Ext w'1 w'1) ∧ ∀ (u : Nat → Value) (x2 : Nat) (w'2 : World), x2 ≤ ncl g.fst ∧ Ext w'1 w'2 → bcase (decide ((↑x2 : Int) < (↑x1.snd.fst : Int))) (∀ (w1 : World), Drew w'2 w1 → ∃ (k : Nat), (↑x2 : Int) = (↑k : Int) ∧ k < x.snd.fst ∧ ptrE x.fst fun (b o : Nat) => ∃ (n : Int), w'2.cell? { block := b, off := o + k } = some (Value.int IntKind.i8 n) ∧ bcase (decide (n < (0 : Int))) (∃ (x3 : Unit), Value.bool false = Value.bool true ∧ Ext w w1) (∃ (k1 : Nat), (↑x2 : Int) = (↑k1 : Int) ∧ k1 < x.snd.fst ∧ ptrE x.fst fun (b1 o1 : Nat) => ∃ (n1 : Int), w'2.cell? { block := b1, off := o1 + k1 } = some (Value.int IntKind.i8 n1) ∧ bcase (decide (n1 > (2 : Int))) (∃ (x3 : Unit), Value.bool false = Value.bool true ∧ Ext w w1) (∃ (k2 : Nat), (↑x2 : Int) = (↑k2 : Int) ∧ k2 < x.snd.fst ∧ ptrE x.fst fun (b2 o2 : Nat) => ∃ (n2 : Int), w'2.cell? { block := b2, off := o2 + k2 } = some (Value.int IntKind.i8 n2) ∧ ∃ (k3 : Nat), (↑x2 : Int) = (↑k3 : Int) ∧ k3 < x1.snd.fst ∧ ptrE x1.fst fun (b3 o3 : Nat) => ∃ (s : ByteArray), w'2.cell? { block := b3, off := o3 + k3 } = some (Value.string s) ∧ ∃ (g3 : ByteArray), #[Value.string s] = #[Value.string g3] ∧ (U8 w1 ∧ g3.size ≤ (67108864 : Nat)) ∧ ∀ (x3 : Int) (w'3 : World), x3 = kindC g3 ∧ Ext w1 w'3 → Below w1.heap.size w1 w'3 ∧ bcase (!(n2 == (2 : Int)) == (x3 == (2 : Int))) (∃ (x4 : Unit), Value.bool false = Value.bool true ∧ Ext w w'3) (InR IntKind.i64 ((↑x2 : Int) + (1 : Int)) ∧ ∃ (y : Nat), Value.int IntKind.i64 ((↑x2 : Int) + (1 : Int)) = Value.int IntKind.i64 (↑y : Int) ∧ (y ≤ ncl g.fst ∧ Ext w'1 w'3) ∧ ncl g.fst - y < ncl g.fst - x2)))) (bcase ((↑x1.snd.fst : Int) == (0 : Int)) (∃ (g3 : Unit), (#[] : Array Value) = #[] ∧ U8 w'2 ∧ ∀ (x3 : Unit) (w'3 : World), Ext w'2 w'3 → ∃ (x4 : Unit), Value.bool true = Value.bool true ∧ Ext w w'3) ((↑x1.snd.fst : Int) ≠ (0 : Int) ∧ bcase (decide (g.snd.tmod (↑x1.snd.fst : Int) < (0 : Int))) (InR IntKind.i64 (g.snd.tmod (↑x1.snd.fst : Int) + (↑x1.snd.fst : Int)) ∧ ∃ (c : Nat),
 Value.int IntKind.i64 (g.snd.tmod (↑x1.snd.fst : Int) + (↑x1.snd.fst : Int)) = Value.int IntKind.i64 (↑c : Int) ∧ c < ncl g.fst ∧ Ext w'2 w'2) (∃ (c : Nat), Value.int IntKind.i64 (g.snd.tmod (↑x1.snd.fst : Int)) = Value.int IntKind.i64 (↑c : Int) ∧ c < ncl g.fst ∧ Ext w'2 w'2) ∧ ∀ (u1 : Nat → Value) (c : Nat) (w'3 : World), c < ncl g.fst ∧ Ext w'2 w'3 → ((∃ (x3 : Nat), Value.int IntKind.i64 (↑c : Int) = Value.int IntKind.i64 (↑x3 : Int) ∧ (↑x3 : Int) ≤ (↑c : Int) ∧ (∀ (j : Nat), x3 < j → (↑j : Int) ≤ (↑c : Int) → kc g.fst j = (1 : Int)) ∧ Ext w'3 w'3) ∧ ∀ (u2 : Nat → Value) (x3 : Nat) (w'4 : World), (↑x3 : Int) ≤ (↑c : Int) ∧ (∀ (j : Nat), x3 < j → (↑j : Int) ≤ (↑c : Int) → kc g.fst j = (1 : Int)) ∧ Ext w'3 w'4 → bcase (decide ((↑x3 : Int) > (0 : Int))) (∃ (k : Nat), (↑x3 : Int) = (↑k : Int) ∧ k < x1.snd.fst ∧ ptrE x1.fst fun (b o : Nat) => ∃ (s : ByteArray), w'4.cell? { block := b, off := o + k } = some (Value.string s) ∧ ∃ (g3 : ByteArray), #[Value.string s] = #[Value.string g3] ∧ (U8 w'4 ∧ g3.size ≤ (67108864 : Nat)) ∧ ∀ (x4 : Int) (w'5 : World), x4 = kindC g3 ∧ Ext w'4 w'5 → bcase (x4 == (1 : Int)) (InR IntKind.i64 ((↑x3 : Int) - (1 : Int)) ∧ ∃ (y : Nat), Value.int IntKind.i64 ((↑x3 : Int) - (1 : Int)) = Value.int IntKind.i64 (↑y : Int) ∧ ((↑y : Int) ≤ (↑c : Int) ∧ (∀ (j : Nat), y < j → (↑j : Int) ≤ (↑c : Int) → kc g.fst j = (1 : Int)) ∧ Ext w'3 w'5) ∧ y < x3) (∃ (c1 : Nat), Value.int IntKind.i64 (↑x3 : Int) = Value.int IntKind.i64 (↑c1 : Int) ∧ (↑c1 : Int) ≤ (↑c : Int) ∧ (∀ (j : Nat), c1 < j → (↑j : Int) ≤ (↑c : Int) → kc g.fst j = (1 : Int)) ∧ (c1 = (0 : Nat) ∨ kc g.fst c1 ≠ (1 : Int)) ∧ Ext w'3 w'5)) (∃ (c1 : Nat), Value.int IntKind.i64 (↑x3 : Int) = Value.int IntKind.i64 (↑c1 : Int) ∧ (↑c1 : Int) ≤ (↑c : Int) ∧ (∀ (j : Nat), c1 < j → (↑j : Int) ≤ (↑c : Int) → kc g.fst j = (1 : Int)) ∧ (c1 = (0 : Nat) ∨ kc g.fst c1 ≠ (1 : Int)) ∧ Ext w'3 w'4)) ∧ ∀ (u2 : Nat → Value) (c1 : Nat) (w'4 : World), (↑c1 : Int) ≤ (↑c : Int) ∧ (∀ (j : Nat), c1 < j → (↑j : Int) ≤ (↑c : Int) → kc g.fst j = (1 : Int)) ∧ (c1 = (0 : Nat) ∨ kc g.fst c1 ≠ (1 : Int)) ∧ Ext w'3 w'4 → ((∃ (x3 : Nat), Value.int IntKind.i64 (↑c1 : Int) = Value.int IntKind.i64 (↑x3 : Int) ∧ Value.string (ByteArray.mk #[]) = Value.string (pieceS g.fst (↑c1 : Int).toNat x3) ∧ (↑c1 : Int).toNat ≤ x3 ∧ x3 ≤ minE g.fst (↑c : Int).toNat ∧ Ext w'4 w'4) ∧ ∀ (u3 : Nat → Value) (x3 : Nat) (w'5 : World), (↑c1 : Int).toNat ≤ x3 ∧ x3 ≤ minE g.fst (↑c : Int).toNat ∧ Ext w'4 w'5 → bcase (decide ((↑x3 : Int) < (↑x1.snd.fst : Int))) (InR IntKind.i64 ((↑c : Int) + (1 : Int)) ∧ bcase (decide ((↑x3 : Int) ≤ (↑c : Int) + (1 : Int))) (∃ (k : Nat), (↑x3 : Int) = (↑k : Int) ∧ k < x1.snd.fst ∧ ptrE x1.fst fun (b o : Nat) => ∃ (s : ByteArray), w'5.cell? { block := b, off := o + k } = some (Value.string s) ∧ (pieceS g.fst (↑c1 : Int).toNat x3).size + s.size ≤ (9223372036854775807 : Nat) ∧ InR IntKind.i64 ((↑x3 : Int) + (1 : Int)) ∧ ∃ (y : Nat),
 Value.int IntKind.i64 ((↑x3 : Int) + (1 : Int)) = Value.int IntKind.i64 (↑y : Int) ∧ Value.string (pieceS g.fst (↑c1 : Int).toNat x3 ++ s) = Value.string (pieceS g.fst (↑c1 : Int).toNat y) ∧ ((↑c1 : Int).toNat ≤ y ∧ y ≤ minE g.fst (↑c : Int).toNat ∧ Ext w'4 w'5) ∧ minE g.fst (↑c : Int).toNat - y < minE g.fst (↑c : Int).toNat - x3) (∃ (c2 : Unit), Value.string (pieceS g.fst (↑c1 : Int).toNat x3) = Value.string (pieceS g.fst (↑c1 : Int).toNat (minE g.fst (↑c : Int).toNat)) ∧ Ext w'4 w'5)) (∃ (c2 : Unit), Value.string (pieceS g.fst (↑c1 : Int).toNat x3) = Value.string (pieceS g.fst (↑c1 : Int).toNat (minE g.fst (↑c : Int).toNat)) ∧ Ext w'4 w'5)) ∧ ∀ (u3 : Nat → Value) (c2 : Unit) (w'5 : World), Ext w'4 w'5 → ∃ (g3 : ByteArray), #[Value.string (pieceS g.fst (↑c1 : Int).toNat (minE g.fst (↑c : Int).toNat))] = #[Value.string g3] ∧ (U8 w'5 ∧ g3.size ≤ (67108864 : Nat)) ∧ ∀ (x3 : Option Addr × Nat × Nat) (w'6 : World), x3.snd.fst = ncl g3 ∧ Made w'5 w'6 (9 : TypeId) (1 : Nat) x3.fst x3.snd.fst (List.map strV (pcL g3)) x3.snd.snd → InR IntKind.i64 ((↑c : Int) + (2 : Int)) ∧ InR IntKind.i64 ((if (↑c : Int) + (2 : Int) < (↑x1.snd.fst : Int) then (↑c : Int) + (2 : Int) else (↑x1.snd.fst : Int)) - (↑c1 : Int)) ∧ bcase ((↑x3.snd.fst : Int) != (if (↑c : Int) + (2 : Int) < (↑x1.snd.fst : Int) then (↑c : Int) + (2 : Int) else (↑x1.snd.fst : Int)) - (↑c1 : Int)) (∃ (g4 : Unit), (#[] : Array Value) = #[] ∧ U8 w'6 ∧ ∀ (x4 : Unit) (w'7 : World), Ext w'6 w'7 → ∃ (x5 : Unit), Value.bool true = Value.bool true ∧ Ext w w'7) (∃ (g4 : ByteArray), #[Value.string (pieceS g.fst (↑c1 : Int).toNat (minE g.fst (↑c : Int).toNat))] = #[Value.string g4] ∧ (U8 w'6 ∧ g4.size ≤ (67108864 : Nat)) ∧ ∀ (x4 : Option Addr × Nat × Nat) (w'7 : World), x4.snd.fst = (whereL g4).length ∧ Made w'6 w'7 (25 : TypeId) (1 : Nat) x4.fst x4.snd.fst (List.map (Value.int IntKind.i8) (whereL g4)) x4.snd.snd → ∀ (w1 : World), Drew w'7 w1 → bcase ((↑x4.snd.fst : Int) == (↑x3.snd.fst : Int)) (InR IntKind.i64 ((↑c : Int) - (↑c1 : Int)) ∧ ∃ (k : Nat), (↑c : Int) - (↑c1 : Int) = (↑k : Int) ∧ k < x4.snd.fst ∧ ptrE x4.fst fun (b o : Nat) => ∃ (n : Int), w'7.cell? { block := b, off := o + k } = some (Value.int IntKind.i8 n) ∧ ∃ (k1 : Nat), (↑c : Int) = (↑k1 : Int) ∧ k1 < x.snd.fst ∧ ptrE x.fst fun (b1 o1 : Nat) => ∃ (n1 : Int), w'7.cell? { block := b1, off := o1 + k1 } = some (Value.int IntKind.i8 n1) ∧ bcase (n == n1) (∃ (g5 : Unit), (#[] : Array Value) = #[] ∧ U8 w1 ∧ ∀ (x5 : Unit) (w'8 : World), Ext w1 w'8 → ∃ (x6 : Unit), Value.bool true = Value.bool true ∧ Ext w w'8) (∃ (x5 : Unit), Value.bool false = Value.bool true ∧ Ext w w1)) (∃ (x5 : Unit), Value.bool false = Value.bool true ∧ Ext w w1)))))) :
    (sLawSI).Ok Tryd.prog 5 :=
  ok_of_vc sLawSI annLoc spLoc (fun _ _ => rfl) (fun _ _ => rfl) hsp Tryd.func5 rfl (n := 2) (fun _ => rfl) (by kernel_rfl) (vcast (by kernel_rfl) h)

set_option maxRecDepth 1000000 in
theorem one_vc (hsp : SpecsOk Tryd.prog []) (h : ∀ (g : GOne) (w : World), g.it.ok w ∧ oneB g.it.xs g.t g.m → ∀ (b : Nat) (w1 : World), New w (Obj.cells #[Value.string g.t] (9 : Nat)) b w1 → ∀ (b1 : Nat) (w11 : World), New w1 (Obj.cells #[Value.bool false] (4 : Nat)) b1 w11 → ∀ (b2 : Nat) (w12 : World), New w11 (Obj.cells #[Value.int IntKind.i64 (0 : Int)] (3 : Nat)) b2 w12 → true = true ∧ (∃ (old : Value), w12.cell? { block := b2, off := (0 : Nat) } = some old) ∧ w12.frozen? { block := b2, off := (0 : Nat) } = false ∧ ∀ (w13 : World), Stored w12 { block := b2, off := (0 : Nat) } (Value.int IntKind.i64 (0 : Int)) w13 → ∃ (xs : List (Nat × ByteArray)), ∃ (C : Nat → Prop), ∃ (D0 : Nat → Prop), IterAt Tryd.prog (Value.func (Fn.func g.it.f) #[] g.it.caps) (List.map encPc xs) C w13 ∧ DomOk w13 C D0 ∧ (D0 = ones [ptrB (Value.pointer (some { block := b1, off := (0 : Nat) })), ptrB (Value.pointer (some { block := b2, off := (0 : Nat) }))] ∧ w13.heap[ptrB (Value.pointer (some { block := b2, off := (0 : Nat) }))]? = some (Obj.cells #[Value.int IntKind.i64 (0 : Int)] (3 : TypeId)) ∧ ∃ (v : Bool), w13.heap[ptrB (Value.pointer (some { block := b1, off := (0 : Nat) }))]? = some (Obj.cells #[Value.bool v] (4 : TypeId))) ∧ (Stab w13.heap.size fun (k : Nat) (D : Nat → Prop) (W : World) => D = ones [ptrB (Value.pointer (some { block := b1, off := (0 : Nat) })), ptrB (Value.pointer (some { block := b2, off := (0 : Nat) }))] ∧ W.heap[ptrB (Value.pointer (some { block := b2, off := (0 : Nat) }))]? = some (Obj.cells #[Value.int IntKind.i64 (↑k : Int)] (3 : TypeId)) ∧ ∃ (v : Bool), W.heap[ptrB (Value.pointer (some { block := b1, off := (0 : Nat) }))]? = some (Obj.cells #[Value.bool v] (4 : TypeId))) ∧ (∀ (x : Exit), Stab w13.heap.size fun (x : Nat) (D : Nat → Prop) (W : World) => (1 : Nat) = (0 : Nat)) ∧ (∀ (k : Nat) (x : Nat × ByteArray) (D : Nat → Prop) (W : World), xs[k]? = some x → (D = ones [ptrB (Value.pointer (some { block := b1, off := (0 : Nat) })), ptrB (Value.pointer (some { block := b2, off := (0 : Nat) }))] ∧ W.heap[ptrB (Value.pointer (some { block := b2, off := (0 : Nat) }))]? = some (Obj.cells #[Value.int IntKind.i64 (↑k : Int)] (3 : TypeId)) ∧ ∃ (v : Bool), W.heap[ptrB (Value.pointer (some { block := b1, off := (0 : Nat) }))]? = some (Obj.cells #[Value.bool v] (4 : TypeId))) → Mid w13 D0 D W → ∃ (n : Int), W.cell? { block := b2, off := (0 : Nat) } = some (Value.int IntKind.i64 n) ∧ bcase (n == (0 : Int)) (bcase ((↑x.fst : Int) != (0 : Int)) (true = true ∧ (∃ (old : Value), W.cell? { block := b1, off := (0 : Nat) } = some old) ∧ W.frozen? { block := b1, off := (0 : Nat) } = false ∧ ∀ (w14 : World), Stored W { block := b1, off := (0 : Nat) } (Value.bool false) w14 → False) (∃ (s : ByteArray), W.cell? { block := b, off := (0 : Nat) } = some (Value.string s) ∧ bcase (!x.snd.toList == s.toList) (true = true ∧ (∃ (old : Value), W.cell? { block := b1, off := (0 : Nat) } = some old) ∧ W.frozen? { block := b1, off := (0 : Nat) } = false ∧
 ∀ (w14 : World), Stored W { block := b1, off := (0 : Nat) } (Value.bool false) w14 → False) (∃ (n1 : Int), W.cell? { block := b2, off := (0 : Nat) } = some (Value.int IntKind.i64 n1) ∧ bcase (n1 == (1 : Int)) (bcase (!x.snd.toList == (ByteArray.mk #[]).toList) (true = true ∧ (∃ (old : Value), W.cell? { block := b1, off := (0 : Nat) } = some old) ∧ W.frozen? { block := b1, off := (0 : Nat) } = false ∧ ∀ (w14 : World), Stored W { block := b1, off := (0 : Nat) } (Value.bool false) w14 → False) (∃ (s1 : ByteArray), W.cell? { block := b, off := (0 : Nat) } = some (Value.string s1) ∧ bcase ((↑x.fst : Int) != (↑s1.size : Int)) (true = true ∧ (∃ (old : Value), W.cell? { block := b1, off := (0 : Nat) } = some old) ∧ W.frozen? { block := b1, off := (0 : Nat) } = false ∧ ∀ (w14 : World), Stored W { block := b1, off := (0 : Nat) } (Value.bool false) w14 → False) (∃ (n2 : Int), W.cell? { block := b2, off := (0 : Nat) } = some (Value.int IntKind.i64 n2) ∧ InR IntKind.i64 (n2 + (1 : Int)) ∧ true = true ∧ (∃ (old : Value), W.cell? { block := b2, off := (0 : Nat) } = some old) ∧ W.frozen? { block := b2, off := (0 : Nat) } = false ∧ ∀ (w14 : World), Stored W { block := b2, off := (0 : Nat) } (Value.int IntKind.i64 (n2 + (1 : Int))) w14 → ∃ (D' : Nat → Prop), Step D W w14 D' ∧ D' = ones [ptrB (Value.pointer (some { block := b1, off := (0 : Nat) })), ptrB (Value.pointer (some { block := b2, off := (0 : Nat) }))] ∧ w14.heap[ptrB (Value.pointer (some { block := b2, off := (0 : Nat) }))]? = some (Obj.cells #[Value.int IntKind.i64 (↑(k + (1 : Nat)) : Int)] (3 : TypeId)) ∧ ∃ (v : Bool), w14.heap[ptrB (Value.pointer (some { block := b1, off := (0 : Nat) }))]? = some (Obj.cells #[Value.bool v] (4 : TypeId))))) (∃ (n2 : Int), W.cell? { block := b2, off := (0 : Nat) } = some (Value.int IntKind.i64 n2) ∧ InR IntKind.i64 (n2 + (1 : Int)) ∧ true = true ∧ (∃ (old : Value), W.cell? { block := b2, off := (0 : Nat) } = some old) ∧ W.frozen? { block := b2, off := (0 : Nat) } = false ∧ ∀ (w14 : World), Stored W { block := b2, off := (0 : Nat) } (Value.int IntKind.i64 (n2 + (1 : Int))) w14 → ∃ (D' : Nat → Prop), Step D W w14 D' ∧ D' = ones [ptrB (Value.pointer (some { block := b1, off := (0 : Nat) })), ptrB (Value.pointer (some { block := b2, off := (0 : Nat) }))] ∧ w14.heap[ptrB (Value.pointer (some { block := b2, off := (0 : Nat) }))]? = some (Obj.cells #[Value.int IntKind.i64 (↑(k + (1 : Nat)) : Int)] (3 : TypeId)) ∧ ∃ (v : Bool), w14.heap[ptrB (Value.pointer (some { block := b1, off := (0 : Nat) }))]? = some (Obj.cells #[Value.bool v] (4 : TypeId)))))) (∃ (n1 : Int), W.cell? { block := b2, off := (0 : Nat) } = some (Value.int IntKind.i64 n1) ∧ bcase (n1 == (1 : Int)) (bcase (!x.snd.toList == (ByteArray.mk #[]).toList) (true = true ∧ (∃ (old : Value), W.cell? { block := b1, off := (0 : Nat) } = some old) ∧ W.frozen? { block := b1, off := (0 : Nat) } = false ∧ ∀ (w14 : World), Stored W { block := b1, off := (0 : Nat) } (Value.bool false) w14 → False) (∃ (s : ByteArray),
 W.cell? { block := b, off := (0 : Nat) } = some (Value.string s) ∧ bcase ((↑x.fst : Int) != (↑s.size : Int)) (true = true ∧ (∃ (old : Value), W.cell? { block := b1, off := (0 : Nat) } = some old) ∧ W.frozen? { block := b1, off := (0 : Nat) } = false ∧ ∀ (w14 : World), Stored W { block := b1, off := (0 : Nat) } (Value.bool false) w14 → False) (∃ (n2 : Int), W.cell? { block := b2, off := (0 : Nat) } = some (Value.int IntKind.i64 n2) ∧ InR IntKind.i64 (n2 + (1 : Int)) ∧ true = true ∧ (∃ (old : Value), W.cell? { block := b2, off := (0 : Nat) } = some old) ∧ W.frozen? { block := b2, off := (0 : Nat) } = false ∧ ∀ (w14 : World), Stored W { block := b2, off := (0 : Nat) } (Value.int IntKind.i64 (n2 + (1 : Int))) w14 → ∃ (D' : Nat → Prop), Step D W w14 D' ∧ D' = ones [ptrB (Value.pointer (some { block := b1, off := (0 : Nat) })), ptrB (Value.pointer (some { block := b2, off := (0 : Nat) }))] ∧ w14.heap[ptrB (Value.pointer (some { block := b2, off := (0 : Nat) }))]? = some (Obj.cells #[Value.int IntKind.i64 (↑(k + (1 : Nat)) : Int)] (3 : TypeId)) ∧ ∃ (v : Bool), w14.heap[ptrB (Value.pointer (some { block := b1, off := (0 : Nat) }))]? = some (Obj.cells #[Value.bool v] (4 : TypeId))))) (∃ (n2 : Int), W.cell? { block := b2, off := (0 : Nat) } = some (Value.int IntKind.i64 n2) ∧ InR IntKind.i64 (n2 + (1 : Int)) ∧ true = true ∧ (∃ (old : Value), W.cell? { block := b2, off := (0 : Nat) } = some old) ∧ W.frozen? { block := b2, off := (0 : Nat) } = false ∧ ∀ (w14 : World), Stored W { block := b2, off := (0 : Nat) } (Value.int IntKind.i64 (n2 + (1 : Int))) w14 → ∃ (D' : Nat → Prop), Step D W w14 D' ∧ D' = ones [ptrB (Value.pointer (some { block := b1, off := (0 : Nat) })), ptrB (Value.pointer (some { block := b2, off := (0 : Nat) }))] ∧ w14.heap[ptrB (Value.pointer (some { block := b2, off := (0 : Nat) }))]? = some (Obj.cells #[Value.int IntKind.i64 (↑(k + (1 : Nat)) : Int)] (3 : TypeId)) ∧ ∃ (v : Bool), w14.heap[ptrB (Value.pointer (some { block := b1, off := (0 : Nat) }))]? = some (Obj.cells #[Value.bool v] (4 : TypeId))))) ∧ (∀ (D : Nat → Prop) (W : World), (D = ones [ptrB (Value.pointer (some { block := b1, off := (0 : Nat) })), ptrB (Value.pointer (some { block := b2, off := (0 : Nat) }))] ∧ W.heap[ptrB (Value.pointer (some { block := b2, off := (0 : Nat) }))]? = some (Obj.cells #[Value.int IntKind.i64 (↑(lenX xs) : Int)] (3 : TypeId)) ∧ ∃ (v : Bool), W.heap[ptrB (Value.pointer (some { block := b1, off := (0 : Nat) }))]? = some (Obj.cells #[Value.bool v] (4 : TypeId))) → Mid w13 D0 D W → bcase g.m (∃ (n : Int), W.cell? { block := b2, off := (0 : Nat) } = some (Value.int IntKind.i64 n) ∧ bcase (n == (2 : Int)) (true = true ∧ (∃ (old : Value), W.cell? { block := b1, off := (0 : Nat) } = some old) ∧ W.frozen? { block := b1, off := (0 : Nat) } = false ∧ ∀ (w14 : World), Stored W { block := b1, off := (0 : Nat) } (Value.bool true) w14 → ∃ (b3 : Bool), w14.cell? { block := b1, off := (0 : Nat) } = some (Value.bool b3) ∧
 ∀ (w2 : World), Turn w.heap.size w14 w2 → ∃ (x : Unit), Value.bool b3 = Value.bool true ∧ Ext w w2) (bcase (!g.m) (∃ (n1 : Int), W.cell? { block := b2, off := (0 : Nat) } = some (Value.int IntKind.i64 n1) ∧ true = true ∧ (∃ (old : Value), W.cell? { block := b1, off := (0 : Nat) } = some old) ∧ W.frozen? { block := b1, off := (0 : Nat) } = false ∧ ∀ (w14 : World), Stored W { block := b1, off := (0 : Nat) } (Value.bool (n1 == (1 : Int))) w14 → ∃ (b3 : Bool), w14.cell? { block := b1, off := (0 : Nat) } = some (Value.bool b3) ∧ ∀ (w2 : World), Turn w.heap.size w14 w2 → ∃ (x : Unit), Value.bool b3 = Value.bool true ∧ Ext w w2) (true = true ∧ (∃ (old : Value), W.cell? { block := b1, off := (0 : Nat) } = some old) ∧ W.frozen? { block := b1, off := (0 : Nat) } = false ∧ ∀ (w14 : World), Stored W { block := b1, off := (0 : Nat) } (Value.bool false) w14 → ∃ (b3 : Bool), w14.cell? { block := b1, off := (0 : Nat) } = some (Value.bool b3) ∧ ∀ (w2 : World), Turn w.heap.size w14 w2 → ∃ (x : Unit), Value.bool b3 = Value.bool true ∧ Ext w w2))) (bcase (!g.m) (∃ (n : Int), W.cell? { block := b2, off := (0 : Nat) } = some (Value.int IntKind.i64 n) ∧ true = true ∧ (∃ (old : Value), W.cell? { block := b1, off := (0 : Nat) } = some old) ∧ W.frozen? { block := b1, off := (0 : Nat) } = false ∧ ∀ (w14 : World), Stored W { block := b1, off := (0 : Nat) } (Value.bool (n == (1 : Int))) w14 → ∃ (b3 : Bool), w14.cell? { block := b1, off := (0 : Nat) } = some (Value.bool b3) ∧ ∀ (w2 : World), Turn w.heap.size w14 w2 → ∃ (x : Unit), Value.bool b3 = Value.bool true ∧ Ext w w2) (true = true ∧ (∃ (old : Value), W.cell? { block := b1, off := (0 : Nat) } = some old) ∧ W.frozen? { block := b1, off := (0 : Nat) } = false ∧ ∀ (w14 : World), Stored W { block := b1, off := (0 : Nat) } (Value.bool false) w14 → ∃ (b3 : Bool), w14.cell? { block := b1, off := (0 : Nat) } = some (Value.bool b3) ∧ ∀ (w2 : World), Turn w.heap.size w14 w2 → ∃ (x : Unit), Value.bool b3 = Value.bool true ∧ Ext w w2))) ∧ True) :
    (sOne).Ok Tryd.prog 29 :=
  ok_of_vc sOne annOne [] (fun _ _ => rfl) (fun _ _ => rfl) hsp Tryd.func29 rfl (n := 3) (fun _ => rfl) (by kernel_rfl) (vcast (by kernel_rfl) h)

set_option maxRecDepth 1000000 in
theorem lawWho_vc (hsp : SpecsOk Tryd.prog spWho) (h : ∀ (g : ByteArray) (w : World), U8 w ∧ g.size ≤ (1048576 : Nat) → ∀ (b : Nat) (w1 : World), New w (Obj.cells #[Value.string g] (9 : Nat)) b w1 → ∀ (b1 : Nat) (w11 : World), New w1 (Obj.cells #[Value.bool false] (4 : Nat)) b1 w11 → ∃ (s : ByteArray), w11.cell? { block := b, off := (0 : Nat) } = some (Value.string s) ∧ ∃ (g1 : ByteArray), #[Value.string s] = #[Value.string g1] ∧ True ∧ ∀ (x : Nat) (w' : World), w11.heap.size ≤ x ∧ w'.heap[x]? = some (Obj.cells #[Value.string g1] (9 : TypeId)) ∧ Ext w11 w' → ∀ (b2 : Nat) (w12 : World), New w' (Obj.cells #[Value.int IntKind.i64 (0 : Int)] (3 : Nat)) b2 w12 → true = true ∧ (∃ (old : Value), w12.cell? { block := b2, off := (0 : Nat) } = some old) ∧ w12.frozen? { block := b2, off := (0 : Nat) } = false ∧ ∀ (w13 : World), Stored w12 { block := b2, off := (0 : Nat) } (Value.int IntKind.i64 (0 : Int)) w13 → ∀ (b3 : Nat) (w14 : World), New w13 (Obj.cells #[Value.int IntKind.i64 (0 : Int)] (3 : Nat)) b3 w14 → true = true ∧ (∃ (old : Value), w14.cell? { block := b3, off := (0 : Nat) } = some old) ∧ w14.frozen? { block := b3, off := (0 : Nat) } = false ∧ ∀ (w15 : World), Stored w14 { block := b3, off := (0 : Nat) } (Value.int IntKind.i64 (0 : Int)) w15 → ∀ (b4 : Nat) (w16 : World), New w15 (Obj.cells #[Value.bool false] (4 : Nat)) b4 w16 → true = true ∧ (∃ (old : Value), w16.cell? { block := b4, off := (0 : Nat) } = some old) ∧ w16.frozen? { block := b4, off := (0 : Nat) } = false ∧ ∀ (w17 : World), Stored w16 { block := b4, off := (0 : Nat) } (Value.bool false) w17 → ∃ (xs : List (Nat × ByteArray)), ∃ (C : Nat → Prop), ∃ (D0 : Nat → Prop), IterAt Tryd.prog (Value.func (Fn.func (62 : Nat)) #[] #[Value.pointer (some { block := x, off := (0 : Nat) })]) (List.map encPc xs) C w17 ∧ DomOk w17 C D0 ∧ (D0 = ones [ptrB (Value.pointer (some { block := b1, off := (0 : Nat) })), ptrB (Value.pointer (some { block := b2, off := (0 : Nat) })), ptrB (Value.pointer (some { block := b3, off := (0 : Nat) })), ptrB (Value.pointer (some { block := b4, off := (0 : Nat) }))] ∧ w17.heap[ptrB (Value.pointer (some { block := b2, off := (0 : Nat) }))]? = some (Obj.cells #[Value.int IntKind.i64 (↑(endAt g (0 : Nat)) : Int)] (3 : TypeId)) ∧ w17.heap[ptrB (Value.pointer (some { block := b3, off := (0 : Nat) }))]? = some (Obj.cells #[Value.int IntKind.i64 (0 : Int)] (3 : TypeId)) ∧ w17.heap[ptrB (Value.pointer (some { block := b4, off := (0 : Nat) }))]? = some (Obj.cells #[Value.bool false] (4 : TypeId)) ∧ ∃ (v : Bool), w17.heap[ptrB (Value.pointer (some { block := b1, off := (0 : Nat) }))]? = some (Obj.cells #[Value.bool v] (4 : TypeId))) ∧ (Stab w17.heap.size fun (k : Nat) (D : Nat → Prop) (W : World) => D = ones [ptrB (Value.pointer (some { block := b1, off := (0 : Nat) })), ptrB (Value.pointer (some { block := b2, off := (0 : Nat) })), ptrB (Value.pointer (some { block := b3, off := (0 : Nat) })), ptrB (Value.pointer (some { block := b4, off := (0 : Nat) }))] ∧
 W.heap[ptrB (Value.pointer (some { block := b2, off := (0 : Nat) }))]? = some (Obj.cells #[Value.int IntKind.i64 (↑(endAt g k) : Int)] (3 : TypeId)) ∧ W.heap[ptrB (Value.pointer (some { block := b3, off := (0 : Nat) }))]? = some (Obj.cells #[Value.int IntKind.i64 (↑k : Int)] (3 : TypeId)) ∧ W.heap[ptrB (Value.pointer (some { block := b4, off := (0 : Nat) }))]? = some (Obj.cells #[Value.bool (lastB g k)] (4 : TypeId)) ∧ ∃ (v : Bool), W.heap[ptrB (Value.pointer (some { block := b1, off := (0 : Nat) }))]? = some (Obj.cells #[Value.bool v] (4 : TypeId))) ∧ (∀ (x1 : Exit), Stab w17.heap.size fun (x : Nat) (D : Nat → Prop) (W : World) => (1 : Nat) = (0 : Nat)) ∧ (∀ (k : Nat) (x1 : Nat × ByteArray) (D : Nat → Prop) (W : World), xs[k]? = some x1 → (D = ones [ptrB (Value.pointer (some { block := b1, off := (0 : Nat) })), ptrB (Value.pointer (some { block := b2, off := (0 : Nat) })), ptrB (Value.pointer (some { block := b3, off := (0 : Nat) })), ptrB (Value.pointer (some { block := b4, off := (0 : Nat) }))] ∧ W.heap[ptrB (Value.pointer (some { block := b2, off := (0 : Nat) }))]? = some (Obj.cells #[Value.int IntKind.i64 (↑(endAt g k) : Int)] (3 : TypeId)) ∧ W.heap[ptrB (Value.pointer (some { block := b3, off := (0 : Nat) }))]? = some (Obj.cells #[Value.int IntKind.i64 (↑k : Int)] (3 : TypeId)) ∧ W.heap[ptrB (Value.pointer (some { block := b4, off := (0 : Nat) }))]? = some (Obj.cells #[Value.bool (lastB g k)] (4 : TypeId)) ∧ ∃ (v : Bool), W.heap[ptrB (Value.pointer (some { block := b1, off := (0 : Nat) }))]? = some (Obj.cells #[Value.bool v] (4 : TypeId))) → Mid w17 D0 D W → (∃ (n : Int), W.cell? { block := b3, off := (0 : Nat) } = some (Value.int IntKind.i64 n) ∧ bcase (decide (n > (0 : Int))) (∃ (b5 : Bool), W.cell? { block := b4, off := (0 : Nat) } = some (Value.bool b5) ∧ bcase (!b5) (bcase (x1.snd.toList == (ByteArray.mk #[]).toList) (∃ (s1 : ByteArray), W.cell? { block := b, off := (0 : Nat) } = some (Value.string s1) ∧ bcase ((↑x1.fst : Int) != (↑s1.size : Int)) (true = true ∧ (∃ (old : Value), W.cell? { block := b1, off := (0 : Nat) } = some old) ∧ W.frozen? { block := b1, off := (0 : Nat) } = false ∧ ∀ (w18 : World), Stored W { block := b1, off := (0 : Nat) } (Value.bool false) w18 → False) (∃ (n1 : Int), W.cell? { block := b2, off := (0 : Nat) } = some (Value.int IntKind.i64 n1) ∧ bcase ((↑x1.fst : Int) != n1) (true = true ∧ (∃ (old : Value), W.cell? { block := b1, off := (0 : Nat) } = some old) ∧ W.frozen? { block := b1, off := (0 : Nat) } = false ∧ ∀ (w18 : World), Stored W { block := b1, off := (0 : Nat) } (Value.bool false) w18 → False) (InR IntKind.i64 ((↑x1.fst : Int) + (↑x1.snd.size : Int)) ∧ ∃ (s2 : ByteArray), W.cell? { block := b, off := (0 : Nat) } = some (Value.string s2) ∧ bcase (decide ((↑x1.fst : Int) + (↑x1.snd.size : Int) > (↑s2.size : Int))) (true = true ∧ (∃ (old : Value), W.cell? { block := b1, off := (0 : Nat) } = some old) ∧ W.frozen? { block := b1, off := (0 : Nat) } = false ∧
 ∀ (w18 : World), Stored W { block := b1, off := (0 : Nat) } (Value.bool false) w18 → False) (∃ (s3 : ByteArray), W.cell? { block := b, off := (0 : Nat) } = some (Value.string s3) ∧ InR IntKind.i64 ((↑x1.fst : Int) + (↑x1.snd.size : Int)) ∧ ∃ (k1 : Nat), (↑x1.fst : Int) = (↑k1 : Int) ∧ ∃ (k2 : Nat), (↑x1.fst : Int) + (↑x1.snd.size : Int) = (↑k2 : Int) ∧ k1 ≤ k2 ∧ k2 ≤ s3.size ∧ bcase (!(s3.extract k1 k2).toList == x1.snd.toList) (true = true ∧ (∃ (old : Value), W.cell? { block := b1, off := (0 : Nat) } = some old) ∧ W.frozen? { block := b1, off := (0 : Nat) } = false ∧ ∀ (w18 : World), Stored W { block := b1, off := (0 : Nat) } (Value.bool false) w18 → False) (bcase (decide ((↑x1.snd.size : Int) > (65536 : Int))) (true = true ∧ (∃ (old : Value), W.cell? { block := b1, off := (0 : Nat) } = some old) ∧ W.frozen? { block := b1, off := (0 : Nat) } = false ∧ ∀ (w18 : World), Stored W { block := b1, off := (0 : Nat) } (Value.bool false) w18 → False) (∃ (c : Unit), Ext W W)))))) (∃ (n1 : Int), W.cell? { block := b2, off := (0 : Nat) } = some (Value.int IntKind.i64 n1) ∧ bcase ((↑x1.fst : Int) != n1) (true = true ∧ (∃ (old : Value), W.cell? { block := b1, off := (0 : Nat) } = some old) ∧ W.frozen? { block := b1, off := (0 : Nat) } = false ∧ ∀ (w18 : World), Stored W { block := b1, off := (0 : Nat) } (Value.bool false) w18 → False) (InR IntKind.i64 ((↑x1.fst : Int) + (↑x1.snd.size : Int)) ∧ ∃ (s1 : ByteArray), W.cell? { block := b, off := (0 : Nat) } = some (Value.string s1) ∧ bcase (decide ((↑x1.fst : Int) + (↑x1.snd.size : Int) > (↑s1.size : Int))) (true = true ∧ (∃ (old : Value), W.cell? { block := b1, off := (0 : Nat) } = some old) ∧ W.frozen? { block := b1, off := (0 : Nat) } = false ∧ ∀ (w18 : World), Stored W { block := b1, off := (0 : Nat) } (Value.bool false) w18 → False) (∃ (s2 : ByteArray), W.cell? { block := b, off := (0 : Nat) } = some (Value.string s2) ∧ InR IntKind.i64 ((↑x1.fst : Int) + (↑x1.snd.size : Int)) ∧ ∃ (k1 : Nat), (↑x1.fst : Int) = (↑k1 : Int) ∧ ∃ (k2 : Nat), (↑x1.fst : Int) + (↑x1.snd.size : Int) = (↑k2 : Int) ∧ k1 ≤ k2 ∧ k2 ≤ s2.size ∧ bcase (!(s2.extract k1 k2).toList == x1.snd.toList) (true = true ∧ (∃ (old : Value), W.cell? { block := b1, off := (0 : Nat) } = some old) ∧ W.frozen? { block := b1, off := (0 : Nat) } = false ∧ ∀ (w18 : World), Stored W { block := b1, off := (0 : Nat) } (Value.bool false) w18 → False) (bcase (decide ((↑x1.snd.size : Int) > (65536 : Int))) (true = true ∧ (∃ (old : Value), W.cell? { block := b1, off := (0 : Nat) } = some old) ∧ W.frozen? { block := b1, off := (0 : Nat) } = false ∧ ∀ (w18 : World), Stored W { block := b1, off := (0 : Nat) } (Value.bool false) w18 → False) (∃ (c : Unit), Ext W W)))))) (∃ (n1 : Int), W.cell? { block := b2, off := (0 : Nat) } = some (Value.int IntKind.i64 n1) ∧ bcase ((↑x1.fst : Int) != n1) (true = true ∧ (∃ (old : Value), W.cell? { block := b1, off := (0 : Nat) } = some old) ∧ W.frozen? { block := b1, off := (0 : Nat) } = false ∧
 ∀ (w18 : World), Stored W { block := b1, off := (0 : Nat) } (Value.bool false) w18 → False) (InR IntKind.i64 ((↑x1.fst : Int) + (↑x1.snd.size : Int)) ∧ ∃ (s1 : ByteArray), W.cell? { block := b, off := (0 : Nat) } = some (Value.string s1) ∧ bcase (decide ((↑x1.fst : Int) + (↑x1.snd.size : Int) > (↑s1.size : Int))) (true = true ∧ (∃ (old : Value), W.cell? { block := b1, off := (0 : Nat) } = some old) ∧ W.frozen? { block := b1, off := (0 : Nat) } = false ∧ ∀ (w18 : World), Stored W { block := b1, off := (0 : Nat) } (Value.bool false) w18 → False) (∃ (s2 : ByteArray), W.cell? { block := b, off := (0 : Nat) } = some (Value.string s2) ∧ InR IntKind.i64 ((↑x1.fst : Int) + (↑x1.snd.size : Int)) ∧ ∃ (k1 : Nat), (↑x1.fst : Int) = (↑k1 : Int) ∧ ∃ (k2 : Nat), (↑x1.fst : Int) + (↑x1.snd.size : Int) = (↑k2 : Int) ∧ k1 ≤ k2 ∧ k2 ≤ s2.size ∧ bcase (!(s2.extract k1 k2).toList == x1.snd.toList) (true = true ∧ (∃ (old : Value), W.cell? { block := b1, off := (0 : Nat) } = some old) ∧ W.frozen? { block := b1, off := (0 : Nat) } = false ∧ ∀ (w18 : World), Stored W { block := b1, off := (0 : Nat) } (Value.bool false) w18 → False) (bcase (decide ((↑x1.snd.size : Int) > (65536 : Int))) (true = true ∧ (∃ (old : Value), W.cell? { block := b1, off := (0 : Nat) } = some old) ∧ W.frozen? { block := b1, off := (0 : Nat) } = false ∧ ∀ (w18 : World), Stored W { block := b1, off := (0 : Nat) } (Value.bool false) w18 → False) (∃ (c : Unit), Ext W W)))))) (∃ (n1 : Int), W.cell? { block := b2, off := (0 : Nat) } = some (Value.int IntKind.i64 n1) ∧ bcase ((↑x1.fst : Int) != n1) (true = true ∧ (∃ (old : Value), W.cell? { block := b1, off := (0 : Nat) } = some old) ∧ W.frozen? { block := b1, off := (0 : Nat) } = false ∧ ∀ (w18 : World), Stored W { block := b1, off := (0 : Nat) } (Value.bool false) w18 → False) (InR IntKind.i64 ((↑x1.fst : Int) + (↑x1.snd.size : Int)) ∧ ∃ (s1 : ByteArray), W.cell? { block := b, off := (0 : Nat) } = some (Value.string s1) ∧ bcase (decide ((↑x1.fst : Int) + (↑x1.snd.size : Int) > (↑s1.size : Int))) (true = true ∧ (∃ (old : Value), W.cell? { block := b1, off := (0 : Nat) } = some old) ∧ W.frozen? { block := b1, off := (0 : Nat) } = false ∧ ∀ (w18 : World), Stored W { block := b1, off := (0 : Nat) } (Value.bool false) w18 → False) (∃ (s2 : ByteArray), W.cell? { block := b, off := (0 : Nat) } = some (Value.string s2) ∧ InR IntKind.i64 ((↑x1.fst : Int) + (↑x1.snd.size : Int)) ∧ ∃ (k1 : Nat), (↑x1.fst : Int) = (↑k1 : Int) ∧ ∃ (k2 : Nat), (↑x1.fst : Int) + (↑x1.snd.size : Int) = (↑k2 : Int) ∧ k1 ≤ k2 ∧ k2 ≤ s2.size ∧ bcase (!(s2.extract k1 k2).toList == x1.snd.toList) (true = true ∧ (∃ (old : Value), W.cell? { block := b1, off := (0 : Nat) } = some old) ∧ W.frozen? { block := b1, off := (0 : Nat) } = false ∧ ∀ (w18 : World), Stored W { block := b1, off := (0 : Nat) } (Value.bool false) w18 → False) (bcase (decide ((↑x1.snd.size : Int) > (65536 : Int))) (true = true ∧ (∃ (old : Value), W.cell? { block := b1, off := (0 : Nat) } = some old) ∧
 W.frozen? { block := b1, off := (0 : Nat) } = false ∧ ∀ (w18 : World), Stored W { block := b1, off := (0 : Nat) } (Value.bool false) w18 → False) (∃ (c : Unit), Ext W W)))))) ∧ ∀ (u : Nat → Value) (c : Unit) (w'1 : World), Ext W w'1 → ∃ (g2 : ByteArray), #[Value.string x1.snd] = #[Value.string g2] ∧ (U8 w'1 ∧ g2.size ≤ (67108864 : Nat)) ∧ ∀ (x2 : Option Addr × Nat × Nat) (w'2 : World), x2.snd.fst = (whereL g2).length ∧ Made w'1 w'2 (25 : TypeId) (1 : Nat) x2.fst x2.snd.fst (List.map (Value.int IntKind.i8) (whereL g2)) x2.snd.snd → bcase (decide ((↑x2.snd.fst : Int) > (0 : Int))) (InR IntKind.i64 ((↑x2.snd.fst : Int) - (1 : Int)) ∧ ∃ (k1 : Nat), (↑x2.snd.fst : Int) - (1 : Int) = (↑k1 : Int) ∧ k1 < x2.snd.fst ∧ ptrE x2.fst fun (b5 o : Nat) => ∃ (n : Int), w'2.cell? { block := b5, off := o + k1 } = some (Value.int IntKind.i8 n) ∧ true = true ∧ (∃ (old : Value), w'2.cell? { block := b4, off := (0 : Nat) } = some old) ∧ w'2.frozen? { block := b4, off := (0 : Nat) } = false ∧ ∀ (w18 : World), Stored w'2 { block := b4, off := (0 : Nat) } (Value.bool (n == (2 : Int))) w18 → ∃ (c1 : Unit), Fr (fun (q : Nat) => q = ptrB (Value.pointer (some { block := b4, off := (0 : Nat) }))) w'2 w18 ∧ w18.heap[ptrB (Value.pointer (some { block := b4, off := (0 : Nat) }))]? = some (Obj.cells #[Value.bool (lmB (strOf (Value.string x1.snd)))] (4 : TypeId))) (true = true ∧ (∃ (old : Value), w'2.cell? { block := b4, off := (0 : Nat) } = some old) ∧ w'2.frozen? { block := b4, off := (0 : Nat) } = false ∧ ∀ (w18 : World), Stored w'2 { block := b4, off := (0 : Nat) } (Value.bool false) w18 → ∃ (c1 : Unit), Fr (fun (q : Nat) => q = ptrB (Value.pointer (some { block := b4, off := (0 : Nat) }))) w'2 w18 ∧ w18.heap[ptrB (Value.pointer (some { block := b4, off := (0 : Nat) }))]? = some (Obj.cells #[Value.bool (lmB (strOf (Value.string x1.snd)))] (4 : TypeId))) ∧ ∀ (u1 : Nat → Value) (c1 : Unit) (w'3 : World), Fr (fun (q : Nat) => q = ptrB (Value.pointer (some { block := b4, off := (0 : Nat) }))) w'2 w'3 ∧ w'3.heap[ptrB (Value.pointer (some { block := b4, off := (0 : Nat) }))]? = some (Obj.cells #[Value.bool (lmB (strOf (Value.string x1.snd)))] (4 : TypeId)) → (∃ (x3 : Nat), Value.int IntKind.i64 (0 : Int) = Value.int IntKind.i64 (↑x3 : Int) ∧ x3 ≤ (67108864 : Nat) ∧ Ext w'3 w'3) ∧ ∀ (u2 : Nat → Value) (x3 : Nat) (w'4 : World), x3 ≤ (67108864 : Nat) ∧ Ext w'3 w'4 → InR IntKind.i64 ((↑x3 : Int) + (1 : Int)) ∧ bcase (decide ((↑x3 : Int) + (1 : Int) < (↑x2.snd.fst : Int))) (∃ (k1 : Nat), (↑x3 : Int) = (↑k1 : Int) ∧ k1 < x2.snd.fst ∧ ptrE x2.fst fun (b5 o : Nat) => ∃ (n : Int), w'4.cell? { block := b5, off := o + k1 } = some (Value.int IntKind.i8 n) ∧ bcase (n == (2 : Int)) (true = true ∧ (∃ (old : Value), w'4.cell? { block := b1, off := (0 : Nat) } = some old) ∧ w'4.frozen? { block := b1, off := (0 : Nat) } = false ∧ ∀ (w18 : World), Stored w'4 { block := b1, off := (0 : Nat) } (Value.bool false) w18 → False) (InR IntKind.i64 ((↑x3 : Int) + (1 : Int)) ∧ ∃ (y : Nat),
 Value.int IntKind.i64 ((↑x3 : Int) + (1 : Int)) = Value.int IntKind.i64 (↑y : Int) ∧ (y ≤ (67108864 : Nat) ∧ Ext w'3 w'4) ∧ (67108864 : Nat) - y < (67108864 : Nat) - x3)) (InR IntKind.i64 ((↑x1.fst : Int) + (↑x1.snd.size : Int)) ∧ true = true ∧ (∃ (old : Value), w'4.cell? { block := b2, off := (0 : Nat) } = some old) ∧ w'4.frozen? { block := b2, off := (0 : Nat) } = false ∧ ∀ (w18 : World), Stored w'4 { block := b2, off := (0 : Nat) } (Value.int IntKind.i64 ((↑x1.fst : Int) + (↑x1.snd.size : Int))) w18 → (∃ (n : Int), w18.cell? { block := b2, off := (0 : Nat) } = some (Value.int IntKind.i64 n) ∧ ∃ (s1 : ByteArray), w18.cell? { block := b, off := (0 : Nat) } = some (Value.string s1) ∧ bcase (decide (n < (↑s1.size : Int))) (∃ (b5 : Bool), w18.cell? { block := b4, off := (0 : Nat) } = some (Value.bool b5) ∧ bcase (!b5) (∃ (s2 : ByteArray), w18.cell? { block := b, off := (0 : Nat) } = some (Value.string s2) ∧ ∃ (n1 : Int), w18.cell? { block := b2, off := (0 : Nat) } = some (Value.int IntKind.i64 n1) ∧ ∃ (g3 : ByteArray × Int), #[Value.string s2, Value.int IntKind.i64 n1] = #[Value.string g3.fst, Value.int IntKind.i64 g3.snd] ∧ (U8 w18 ∧ g3.fst.size ≤ (67108864 : Nat)) ∧ ∀ (x4 : Bool) (w'5 : World), x4 = isB g3.fst g3.snd ∧ Ext w18 w'5 → bcase (!x4) (true = true ∧ (∃ (old : Value), w'5.cell? { block := b1, off := (0 : Nat) } = some old) ∧ w'5.frozen? { block := b1, off := (0 : Nat) } = false ∧ ∀ (w19 : World), Stored w'5 { block := b1, off := (0 : Nat) } (Value.bool false) w19 → False) (∃ (c2 : Unit), Ext w18 w'5)) (∃ (c2 : Unit), Ext w18 w18)) (∃ (c2 : Unit), Ext w18 w18)) ∧ ∀ (u3 : Nat → Value) (c2 : Unit) (w'5 : World), Ext w18 w'5 → ∃ (g3 : ByteArray), #[Value.string x1.snd] = #[Value.string g3] ∧ True ∧ ∀ (x4 : Nat) (w'6 : World), w'5.heap.size ≤ x4 ∧ w'6.heap[x4]? = some (Obj.cells #[Value.string g3] (9 : TypeId)) ∧ Ext w'5 w'6 → ∃ (b5 : Bool), w'6.cell? { block := b4, off := (0 : Nat) } = some (Value.bool b5) ∧ ∃ (g4 : GOne), #[Value.func (Fn.func (62 : Nat)) #[] #[Value.pointer (some { block := x4, off := (0 : Nat) })], Value.string x1.snd, Value.bool b5] = #[Value.func (Fn.func g4.it.f) #[] g4.it.caps, Value.string g4.t, Value.bool g4.m] ∧ (g4.it.ok w'6 ∧ oneB g4.it.xs g4.t g4.m) ∧ ∀ (x5 : Unit) (w'7 : World), Ext w'6 w'7 → ∃ (n : Int), w'7.cell? { block := b3, off := (0 : Nat) } = some (Value.int IntKind.i64 n) ∧ InR IntKind.i64 (n + (1 : Int)) ∧ true = true ∧ (∃ (old : Value), w'7.cell? { block := b3, off := (0 : Nat) } = some old) ∧ w'7.frozen? { block := b3, off := (0 : Nat) } = false ∧ ∀ (w19 : World), Stored w'7 { block := b3, off := (0 : Nat) } (Value.int IntKind.i64 (n + (1 : Int))) w19 → ∃ (D' : Nat → Prop), Step D W w19 D' ∧ D' = ones [ptrB (Value.pointer (some { block := b1, off := (0 : Nat) })), ptrB (Value.pointer (some { block := b2, off := (0 : Nat) })), ptrB (Value.pointer (some { block := b3, off := (0 : Nat) })), ptrB (Value.pointer (some { block := b4, off := (0 : Nat) }))] ∧
 w19.heap[ptrB (Value.pointer (some { block := b2, off := (0 : Nat) }))]? = some (Obj.cells #[Value.int IntKind.i64 (↑(endAt g (k + (1 : Nat))) : Int)] (3 : TypeId)) ∧ w19.heap[ptrB (Value.pointer (some { block := b3, off := (0 : Nat) }))]? = some (Obj.cells #[Value.int IntKind.i64 (↑(k + (1 : Nat)) : Int)] (3 : TypeId)) ∧ w19.heap[ptrB (Value.pointer (some { block := b4, off := (0 : Nat) }))]? = some (Obj.cells #[Value.bool (lastB g (k + (1 : Nat)))] (4 : TypeId)) ∧ ∃ (v : Bool), w19.heap[ptrB (Value.pointer (some { block := b1, off := (0 : Nat) }))]? = some (Obj.cells #[Value.bool v] (4 : TypeId)))) ∧ (∀ (D : Nat → Prop) (W : World), (D = ones [ptrB (Value.pointer (some { block := b1, off := (0 : Nat) })), ptrB (Value.pointer (some { block := b2, off := (0 : Nat) })), ptrB (Value.pointer (some { block := b3, off := (0 : Nat) })), ptrB (Value.pointer (some { block := b4, off := (0 : Nat) }))] ∧ W.heap[ptrB (Value.pointer (some { block := b2, off := (0 : Nat) }))]? = some (Obj.cells #[Value.int IntKind.i64 (↑(endAt g (lenX xs)) : Int)] (3 : TypeId)) ∧ W.heap[ptrB (Value.pointer (some { block := b3, off := (0 : Nat) }))]? = some (Obj.cells #[Value.int IntKind.i64 (↑(lenX xs) : Int)] (3 : TypeId)) ∧ W.heap[ptrB (Value.pointer (some { block := b4, off := (0 : Nat) }))]? = some (Obj.cells #[Value.bool (lastB g (lenX xs))] (4 : TypeId)) ∧ ∃ (v : Bool), W.heap[ptrB (Value.pointer (some { block := b1, off := (0 : Nat) }))]? = some (Obj.cells #[Value.bool v] (4 : TypeId))) → Mid w17 D0 D W → ∃ (n : Int), W.cell? { block := b3, off := (0 : Nat) } = some (Value.int IntKind.i64 n) ∧ bcase (decide (n > (0 : Int))) (∃ (n1 : Int), W.cell? { block := b2, off := (0 : Nat) } = some (Value.int IntKind.i64 n1) ∧ ∃ (s1 : ByteArray), W.cell? { block := b, off := (0 : Nat) } = some (Value.string s1) ∧ bcase (n1 == (↑s1.size : Int)) (∃ (b5 : Bool), W.cell? { block := b4, off := (0 : Nat) } = some (Value.bool b5) ∧ bcase (!b5) (∃ (g2 : Unit), (#[] : Array Value) = #[] ∧ U8 W ∧ ∀ (x1 : Unit) (w'1 : World), Ext W w'1 → true = true ∧ (∃ (old : Value), w'1.cell? { block := b1, off := (0 : Nat) } = some old) ∧ w'1.frozen? { block := b1, off := (0 : Nat) } = false ∧ ∀ (w18 : World), Stored w'1 { block := b1, off := (0 : Nat) } (Value.bool true) w18 → ∃ (b6 : Bool), w18.cell? { block := b1, off := (0 : Nat) } = some (Value.bool b6) ∧ ∀ (w2 : World), Turn w.heap.size w18 w2 → ∃ (x2 : Unit), Value.bool b6 = Value.bool true ∧ Ext w w2) (true = true ∧ (∃ (old : Value), W.cell? { block := b1, off := (0 : Nat) } = some old) ∧ W.frozen? { block := b1, off := (0 : Nat) } = false ∧ ∀ (w18 : World), Stored W { block := b1, off := (0 : Nat) } (Value.bool false) w18 → ∃ (b6 : Bool), w18.cell? { block := b1, off := (0 : Nat) } = some (Value.bool b6) ∧ ∀ (w2 : World), Turn w.heap.size w18 w2 → ∃ (x1 : Unit), Value.bool b6 = Value.bool true ∧ Ext w w2)) (true = true ∧ (∃ (old : Value), W.cell? { block := b1, off := (0 : Nat) } = some old) ∧
 W.frozen? { block := b1, off := (0 : Nat) } = false ∧ ∀ (w18 : World), Stored W { block := b1, off := (0 : Nat) } (Value.bool false) w18 → ∃ (b5 : Bool), w18.cell? { block := b1, off := (0 : Nat) } = some (Value.bool b5) ∧ ∀ (w2 : World), Turn w.heap.size w18 w2 → ∃ (x1 : Unit), Value.bool b5 = Value.bool true ∧ Ext w w2)) (true = true ∧ (∃ (old : Value), W.cell? { block := b1, off := (0 : Nat) } = some old) ∧ W.frozen? { block := b1, off := (0 : Nat) } = false ∧ ∀ (w18 : World), Stored W { block := b1, off := (0 : Nat) } (Value.bool false) w18 → ∃ (b5 : Bool), w18.cell? { block := b1, off := (0 : Nat) } = some (Value.bool b5) ∧ ∀ (w2 : World), Turn w.heap.size w18 w2 → ∃ (x1 : Unit), Value.bool b5 = Value.bool true ∧ Ext w w2)) ∧ True) :
    (sLawS).Ok Tryd.prog 6 :=
  ok_of_vc sLawS annWho spWho (fun _ _ => rfl) (fun _ _ => rfl) hsp Tryd.func6 rfl (n := 1) (fun _ => rfl) (by kernel_rfl) (vcast (by kernel_rfl) h)

end Go.Proofs.YthpjkgoahneldaaDoor
end
