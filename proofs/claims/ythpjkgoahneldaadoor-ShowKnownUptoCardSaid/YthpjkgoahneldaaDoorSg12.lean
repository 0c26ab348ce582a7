/-
  Texts joined by program: Us, Sx, Sj, WkSa, SpSt, VgSt.
-/
import Derived.Test.YthpjkgoahneldaaDoorSg11
import Derived.Test.YthpjkgoahneldaaDoorSg06
import Derived.Shelf.Strings.Builder1
import Derived.Shelf.Strings.Builder2
import Derived.Shelf.Strings.BuilderF
import Derived.Shelf.Strings.BuilderK
import Derived.Shelf.LaysM
import Derived.Shelf.Strings.Repeat
import Derived.Test.YthpjkgoahneldaaDoorProg
import Derived.Test.YthpjkgoahneldaaDoorSg08
import Derived.Test.YthpjkgoahneldaaDoorSg10
import Derived.KernelRfl
set_option linter.unusedVariables false
set_option linter.unusedSimpArgs false

section
/-
  A text cut where a rune begins: its runes are those of the two parts; a cleaned text stays as it is.
-/
namespace Go.Proofs.YthpjkgoahneldaaDoor.Ut
open Go Vc

theorem runes_clean (s : ByteArray) : runes (runesBytes (runes s)) = runes s := by
  rw [text_runes]
  unfold runes
  rw [List.map_map]
  refine List.map_congr_left fun n _ => ?_
  exact encC_same (dcR_nonneg s _) (dcR_ok s _)

theorem runes_ext {xs ys : List Int} (hl : xs.length = ys.length) (h : ∀ i, i < xs.length → xs.getD i 0 = ys.getD i 0) : xs = ys := by
  refine List.ext_getElem hl fun i h1 h2 => ?_
  have := h i h1
  rw [List.getD_eq_getElem?_getD, List.getD_eq_getElem?_getD, List.getElem?_eq_getElem h1, List.getElem?_eq_getElem h2] at this
  exact this

theorem runes_split {s : ByteArray} {k : Nat} (hk : k ≤ cnt s) : runes (s.extract 0 (pos s k)) ++ runes (s.extract (pos s k) s.size) = runes s := by
  have l1 := cnt_take hk
  have l2 := cnt_drop hk
  refine runes_ext (by rw [List.length_append, runes_len, runes_len, runes_len]; omega) fun i hi => ?_
  rw [List.length_append, runes_len, runes_len] at hi
  rw [runes_at (by omega)]
  by_cases h : i < k
  · rw [List.getD_eq_getElem?_getD, List.getElem?_append_left (by rw [runes_len]; omega), ← List.getD_eq_getElem?_getD, runes_at (by omega), pos_take (by omega) hk]
    unfold dcR; rw [dc_take h hk]
  · rw [List.getD_eq_getElem?_getD, List.getElem?_append_right (by rw [runes_len]; omega), ← List.getD_eq_getElem?_getD, runes_len, l1, runes_at (by omega)]
    unfold dcR; rw [dc_drop]
    rw [show k + (i - k) = i by omega]

theorem drop_next {s : ByteArray} {k : Nat} (hk : k < cnt s) : nxN (s.extract (pos s k) s.size) = dcN s (pos s k) ∧ nxR (s.extract (pos s k) s.size) = dcR s (pos s k) := by
  have hp := cnt_lt.1 hk
  have hs := size_ext (s := s) (a := pos s k) (b := s.size) (Nat.le_refl _)
  have hd := decode_drop s (Nat.le_of_lt hp) 0
  rw [Nat.add_zero] at hd
  unfold nxN nxR
  rw [if_neg (by omega), if_neg (by omega)]
  unfold dcN dcR
  rw [hd]; exact ⟨rfl, rfl⟩

end Go.Proofs.YthpjkgoahneldaaDoor.Ut
end

section
/-
  A text that is one cluster: its bytes are its characters'; which ones are line ends; what is shown of it, case by case.
-/
namespace Go.Proofs.YthpjkgoahneldaaDoor
open Go Vc Ut Tb Cl Orb

theorem one_first {k : ByteArray} (h : ncl k = 1) : 0 < cnt k ∧ firstN k 0 = cnt k ∧ bp k 1 = k.size := by
  have h0 : (0 : Nat) < ncl k := by omega
  have hc : 0 < cnt k := Nat.lt_of_le_of_lt (Nat.zero_le _) (bk_lt.1 h0)
  refine ⟨hc, ?_, ?_⟩
  · have h1 := bk_succ h0
    have h2 := bk_end k
    rw [h] at h2
    rw [show bk k 0 = 0 from rfl] at h1
    simp only [Nat.zero_add] at h1
    omega
  · have := bp_end k; rwa [h] at this
theorem one_valid {k : ByteArray} (h : ncl k = 1) (hb : isBad k 0 = false) : validB k = true := by
  obtain ⟨h0, hf, _⟩ := one_first h
  unfold validB
  rw [List.all_eq_true]
  intro n hn
  rw [List.mem_range] at hn
  cases hbn : isBad k n with
  | false => rfl
  | true =>
    have := (bad_alone (s := k) (k := 0) (m := n) (by omega) (by rw [Nat.zero_add]; exact hbn)).1
    subst this; rw [hb] at hbn; cases hbn
theorem take_valid {k : ByteArray} (h : validB k = true) {m : Nat} (hm : m ≤ cnt k) : runesBytes ((runes k).take m) = k.extract 0 (pos k m) := by
  have hv : validB (k.extract 0 (pos k m)) = true := by
    unfold validB at h ⊢
    rw [List.all_eq_true] at h ⊢
    intro n hn
    rw [List.mem_range, cnt_take hm] at hn
    rw [bad_take hn hm]
    exact h n (List.mem_range.2 (by omega))
  have hs := runes_split hm
  have hl : (runes (k.extract 0 (pos k m))).length = m := by rw [runes_len, cnt_take hm]
  rw [← hs, List.take_left' hl, valid_text hv]
theorem ext_all (k : ByteArray) : k.extract 0 k.size = k := by
  exact ByteArray.extract_zero_size
theorem one_le {k : ByteArray} (h : ncl k = 1) : cnt k ≤ 32 := by
  obtain ⟨h0, hf, _⟩ := one_first h
  have := first_le k h0; omega
theorem cut_text {k : ByteArray} (h : ncl k = 1) (hb : isBad k 0 = false) {m : Nat} (hm : m = if 31 < cnt k then 31 else cnt k) : runesBytes ((runes k).take m) = cutS k := by
  have h32 := one_le h
  have hv := one_valid h hb
  unfold cutS
  by_cases hc : cnt k = 32
  · rw [if_pos hc, hm, if_pos (by omega), take_valid hv (by omega)]
  · rw [if_neg hc, hm, if_neg (by omega), take_valid hv (Nat.le_refl _), pos_cnt, ext_all]
theorem bytes_eq {a b : ByteArray} (hs : a.size = b.size) (h : ∀ i, i < a.size → bt a i = bt b i) : a = b := by
  apply ByteArray.ext
  apply Array.ext (h₁ := hs)
  intro i h1 h2
  have := h i h1
  unfold bt at this
  have e1 : a.data.toList.getD i 0 = a.data[i] := by rw [List.getD_eq_getElem?_getD, List.getElem?_eq_getElem (by rw [Array.length_toList]; exact h1), Array.getElem_toList]; rfl
  have e2 : b.data.toList.getD i 0 = b.data[i] := by rw [List.getD_eq_getElem?_getD, List.getElem?_eq_getElem (by rw [Array.length_toList]; exact h2), Array.getElem_toList]; rfl
  rw [e1, e2] at this
  exact UInt8.toNat_inj.1 this
theorem syl0 (a : Nat) : sylT a 0 = false := by unfold sylT; split <;> rfl
theorem takes10 (x z : Int) (n : Nat) : takesB x z 10 n = false := by
  have h1 : kindR 10 = 0 := by decide +kernel
  have h2 : partN 10 = 0 := by decide
  unfold takesB sylB picB
  rw [h1, h2, syl0]
  simp [joinB, regB]
theorem one_nl {k : ByteArray} (h : ncl k = 1) : (sg k 0 = 10 ∨ secR k = 10) ↔ (k = ⟨#[10]⟩ ∨ k = ⟨#[13, 10]⟩) := by
  obtain ⟨h0, hf, _⟩ := one_first h
  have hs0 : 0 < k.size := Nat.lt_of_lt_of_le h0 (cnt_le k)
  constructor
  · rintro (h10 | h10)
    · left
      obtain ⟨e1, e2⟩ := dc_low (s := k) (i := 0) (by show sg k 0 < 128; rw [h10]; decide)
      have e2 : (bt k 0 : Int) = 10 := by rw [← e2]; exact h10
      have hf1 : firstN k 0 = 1 := by
        unfold firstN
        split
        · rfl
        · rw [if_neg (by unfold crB; rw [h10]; simp), if_pos (by rw [h10]; decide +kernel)]
      have hsz : k.size = 1 := by
        rw [← pos_cnt k, ← hf, hf1, pos_succ (n := 0) hs0, show pos k 0 = 0 from rfl, e1]
      exact bytes_eq hsz fun i hi => by
        have : i = 0 := by omega
        subst this
        show bt k 0 = 10
        omega
    · right
      unfold secR at h10
      by_cases hc : 1 < cnt k
      · rw [if_pos hc] at h10
        have hf2 := hf
        unfold firstN at hf2
        by_cases hb : isBad k 0 = true
        · rw [if_pos hb] at hf2; omega
        · rw [if_neg hb] at hf2
          by_cases hcr : crB k 0 = true
          · rw [if_pos hcr] at hf2
            have h13 : sg k 0 = 13 := by unfold crB at hcr; rw [Bool.and_eq_true] at hcr; simpa using hcr.1
            obtain ⟨p1, hi, p2⟩ := cr_is hs0 h13
            obtain ⟨h1, b1⟩ := hi.1 hcr
            have p2 := p2 hcr
            obtain ⟨_, e2⟩ := dc_low (s := k) (i := 0) (by show sg k 0 < 128; rw [h13]; decide)
            have e2 : (bt k 0 : Int) = 13 := by rw [← e2]; exact h13
            have hsz : k.size = 2 := by rw [← pos_cnt k, ← hf2, p2]
            exact bytes_eq hsz fun i hi => by
              rcases (show i = 0 ∨ i = 1 by omega) with rfl | rfl
              · show bt k 0 = 13; omega
              · show bt k 1 = 10; exact b1
          · rw [if_neg hcr] at hf2
            split at hf2
            · omega
            · exfalso
              have hg := goN_mem (s := k) (k := 0) (f := 32) (n := 1) (m := 1) (Nat.le_refl _) (by omega)
              unfold goB at hg
              rw [show (0 : Nat) + 1 = 1 from rfl, h10, takes10] at hg
              simp at hg
      · rw [if_neg hc] at h10; exact absurd h10 (by decide)
  · rintro (rfl | rfl)
    · left; decide +kernel
    · right; decide +kernel

/-! ### Case by case -/
section cases
variable {k : ByteArray} {col : Int} {l : Lk}
theorem oneC_bad (hb : isBad k 0 = true) : oneC k col l = (badS (bt k 0), 4) := by unfold oneC; rw [if_pos hb]
theorem oneC_tab (hb : isBad k 0 = false) (h : sg k 0 = 9) : oneC k col l = (blankS (stopN col l.tab), stopN col l.tab) := by
  unfold oneC; rw [if_neg (by rw [hb]; decide), if_pos h]
theorem oneC_nl (hb : isBad k 0 = false) (h9 : ¬ sg k 0 = 9) (h : sg k 0 = 10 ∨ secR k = 10) : oneC k col l = (⟨#[]⟩, 0) := by
  unfold oneC; rw [if_neg (by rw [hb]; decide), if_neg h9, if_pos h]
theorem oneC_ctl (hb : isBad k 0 = false) (h9 : ¬ sg k 0 = 9) (hn : ¬ (sg k 0 = 10 ∨ secR k = 10)) (h : sg k 0 < 32 ∨ sg k 0 = 127) : oneC k col l = (ctlS (sg k 0), 2) := by
  unfold oneC; rw [if_neg (by rw [hb]; decide), if_neg h9, if_neg hn, if_pos h]
theorem oneC_raw (hb : isBad k 0 = false) (h9 : ¬ sg k 0 = 9) (hn : ¬ (sg k 0 = 10 ∨ secR k = 10)) (hc : ¬ (sg k 0 < 32 ∨ sg k 0 = 127)) (h : fmtB (sg k 0) = true) (hr : l.raw = true) : oneC k col l = (nameS (sg k 0).toNat, (nameS (sg k 0).toNat).size) := by
  unfold oneC; rw [if_neg (by rw [hb]; decide), if_neg h9, if_neg hn, if_neg hc, if_pos h, if_pos hr]
theorem oneC_fmt (hb : isBad k 0 = false) (h9 : ¬ sg k 0 = 9) (hn : ¬ (sg k 0 = 10 ∨ secR k = 10)) (hc : ¬ (sg k 0 < 32 ∨ sg k 0 = 127)) (h : fmtB (sg k 0) = true) (hr : l.raw = false) : oneC k col l = (⟨#[]⟩, 0) := by
  unfold oneC; rw [if_neg (by rw [hb]; decide), if_neg h9, if_neg hn, if_neg hc, if_pos h, if_neg (by rw [hr]; decide)]
theorem oneC_mark (hb : isBad k 0 = false) (h9 : ¬ sg k 0 = 9) (hn : ¬ (sg k 0 = 10 ∨ secR k = 10)) (hc : ¬ (sg k 0 < 32 ∨ sg k 0 = 127)) (hf : fmtB (sg k 0) = false) (h : kindR (sg k 0) = 2 ∨ joinB (sg k 0) = true) : oneC k col l = (⟨#[226, 151, 140]⟩ ++ cutS k, 1) := by
  unfold oneC; rw [if_neg (by rw [hb]; decide), if_neg h9, if_neg hn, if_neg hc, if_neg (by rw [hf]; decide), if_pos h]
theorem oneC_two (hb : isBad k 0 = false) (h9 : ¬ sg k 0 = 9) (hn : ¬ (sg k 0 = 10 ∨ secR k = 10)) (hc : ¬ (sg k 0 < 32 ∨ sg k 0 = 127)) (hf : fmtB (sg k 0) = false) (hm : ¬ (kindR (sg k 0) = 2 ∨ joinB (sg k 0) = true))
    (h : (regB (sg k 0) = true ∧ regB (secR k) = true) ∨ (kindR (sg k 0) = 7 ∧ wideR (sg k 0) l.wide = 1 ∧ secR k = 65039)) : oneC k col l = (k, 2) := by
  unfold oneC; rw [if_neg (by rw [hb]; decide), if_neg h9, if_neg hn, if_neg hc, if_neg (by rw [hf]; decide), if_neg hm, if_pos h]
theorem oneC_wid (hb : isBad k 0 = false) (h9 : ¬ sg k 0 = 9) (hn : ¬ (sg k 0 = 10 ∨ secR k = 10)) (hc : ¬ (sg k 0 < 32 ∨ sg k 0 = 127)) (hf : fmtB (sg k 0) = false) (hm : ¬ (kindR (sg k 0) = 2 ∨ joinB (sg k 0) = true))
    (h2 : ¬ ((regB (sg k 0) = true ∧ regB (secR k) = true) ∨ (kindR (sg k 0) = 7 ∧ wideR (sg k 0) l.wide = 1 ∧ secR k = 65039))) :
    oneC k col l = if wideR (sg k 0) l.wide = 0 then (⟨#[]⟩, 0) else (k, (wideR (sg k 0) l.wide).toNat) := by
  unfold oneC; rw [if_neg (by rw [hb]; decide), if_neg h9, if_neg hn, if_neg hc, if_neg (by rw [hf]; decide), if_neg hm, if_neg h2]
end cases
theorem tab_bd (t : Int) : 1 ≤ tabN t ∧ tabN t ≤ 16 := by unfold tabN; split <;> omega
theorem stop_bd (c t : Int) : 1 ≤ stopN c t ∧ stopN c t ≤ tabN t := by
  have h := tab_bd t
  have := Nat.mod_lt c.toNat (show 0 < tabN t by omega)
  unfold stopN; omega
theorem widR_nonneg (r : Int) : 0 ≤ widR r := by
  have h2 : (widL.all fun p => decide (0 ≤ p.2)) = true := by decide +kernel
  have : ∀ (l : List (List RC × Int)) (q : Int), l.all (fun p => decide (0 ≤ p.2)) = true → 0 ≤ lookC l 1 q := by
    intro l q hl
    induction l with
    | nil => simp [lookC]
    | cons a l ih =>
      rw [List.all_cons, Bool.and_eq_true] at hl
      obtain ⟨cs, v⟩ := a
      unfold lookC
      split
      · simpa using hl.1
      · exact ih hl.2
  exact this _ _ h2
theorem wideR_bd (r : Int) (b : Bool) : 0 ≤ wideR r b := by
  unfold wideR
  have : 0 ≤ widR r := widR_nonneg r
  split
  · exact this
  · split <;> decide
theorem one_bt {k : ByteArray} (h : ncl k = 1) : 0 < k.size := by
  obtain ⟨h0, _, _⟩ := one_first h
  exact Nat.lt_of_lt_of_le h0 (cnt_le k)
theorem ctl_byte : ∀ x : Fin 128, (x.val < 32 ∨ x.val = 127) → (ByteArray.mk #[94]) ++ runesBytes [IntKind.i32.wrap (↑(BitVec.ofInt IntKind.i32.bits (x.val : Int) ^^^ BitVec.ofInt IntKind.i32.bits (64 : Int)).toNat : Int)] = ctlS (x.val : Int) := by decide +kernel
theorem ctl_byte2 : ∀ x : Fin 32, (ByteArray.mk #[94]) ++ strL [UInt8.ofNat (x.val + 64)] = ctlS (x.val : Int) := by decide +kernel

end Go.Proofs.YthpjkgoahneldaaDoor
end

section
/-
  The contracts of strings.Repeat and (*strings.Builder).String at this program, laid by the shelf's commands in plain words (no walk: the kernel compares the bodies).
-/
namespace Go.Proofs
open Go.Shelf
def Tryd.lays169_ren : Go.Shelf.Ren := ⟨fun | 169 => 84 | n => n, fun | 70 => 93 | 9 => 9 | 0 => 0 | 72 => 95 | 37 => 64 | 127 => 114 | 3 => 3 | 5 => 5 | n => n, fun | n => n⟩
theorem Tryd.lays169 : Go.Proofs.Lays.n169 Tryd.prog Tryd.lays169_ren := {
  mixed := by kernel_rfl
  f169 := Tryd.func84.trans (congrArg some (by kernel_rfl))
  t0 := Tryd.underlying0
  a0 := Tryd.isAgg0
  z0 := Tryd.sizeOf0
  v0 := Tryd.zeroValue0
  t3 := Tryd.underlying3
  a3 := Tryd.isAgg3
  z3 := Tryd.sizeOf3
  v3 := Tryd.zeroValue3
  t9 := Tryd.underlying9
  a9 := Tryd.isAgg9
  z9 := Tryd.sizeOf9
  v9 := Tryd.zeroValue9
  t37 := Tryd.underlying64
  a37 := Tryd.isAgg64
  z37 := Tryd.sizeOf64
  v37 := Tryd.zeroValue64
  t70 := Tryd.underlying93
  a70 := Tryd.isAgg93
  z70 := Tryd.sizeOf93
  v70 := Tryd.zeroValue93
  t72 := Tryd.underlying95
  a72 := Tryd.isAgg95
  z72 := Tryd.sizeOf95
  v72 := Tryd.zeroValue95
  t127 := Tryd.underlying114
  a127 := Tryd.isAgg114
  z127 := Tryd.sizeOf114
  v127 := Tryd.zeroValue114 }
theorem Tryd.Builder_Extra_169 : Builder.Extra Tryd.prog Tryd.lays169_ren := {
  sizeBuilder := by kernel_rfl
  liesBuilder := by kernel_rfl
  t5 := Tryd.underlying5
  a5 := Tryd.isAgg5
  z5 := Tryd.sizeOf5
  v5 := Tryd.zeroValue5
  infoByte := by kernel_rfl
  cellsByte := by kernel_rfl
  sizeByte := by kernel_rfl
  neB5 := by decide }
open Go.RowKit in
theorem Tryd.Builder_String_any (B b : Nat) (l : List UInt8) (w : World) (h : Lib.IsBuilder 95 5 B b (Lib.byteCells l) w) (hBw : B ≤ w.heap.size) :
    Calls Tryd.prog 84 #[.pointer (some ⟨b, 0, none⟩)] w fun e w' => e = .returned (.string ⟨l.toArray⟩) ∧ Below B w w' := Any.Builder_String_any Tryd.lays169 Tryd.Builder_Extra_169 B b l w h hBw
def Tryd.lays105_ren : Go.Shelf.Ren := ⟨fun | 105 => 112 | 212 => 132 | 99 => 133 | 165 => 134 | 166 => 83 | 170 => 135 | 169 => 84 | 263 => 145 | 264 => 146 | 206 => 147 | 240 => 123 | 241 => 148 | 276 => 140 | 277 => 151 | n => n, fun | 9 => 9 | 3 => 3 | 4 => 4 | 20 => 20 | 0 => 0 | 46 => 86 | 109 => 126 | 5 => 5 | 72 => 95 | 76 => 98 | 51 => 141 | 146 => 142 | 53 => 144 | 148 => 145 | 70 => 93 | 37 => 64 | 75 => 97 | 127 => 114 | 164 => 132 | 80 => 100 | n => n, fun | n => n⟩
theorem Tryd.lays105 : Go.Proofs.Lays.n105 Tryd.prog Tryd.lays105_ren := {
  mixed := by kernel_rfl
  f99 := Tryd.func133.trans (congrArg some (by kernel_rfl))
  f105 := Tryd.func112.trans (congrArg some (by kernel_rfl))
  f165 := Tryd.func134.trans (congrArg some (by kernel_rfl))
  f166 := Tryd.func83.trans (congrArg some (by kernel_rfl))
  f169 := Tryd.func84.trans (congrArg some (by kernel_rfl))
  f170 := Tryd.func135.trans (congrArg some (by kernel_rfl))
  f206 := Tryd.func147.trans (congrArg some (by kernel_rfl))
  f212 := Tryd.func132.trans (congrArg some (by kernel_rfl))
  f240 := Tryd.func123.trans (congrArg some (by kernel_rfl))
  f241 := Tryd.func148.trans (congrArg some (by kernel_rfl))
  f263 := Tryd.func145.trans (congrArg some (by kernel_rfl))
  f264 := Tryd.func146.trans (congrArg some (by kernel_rfl))
  f276 := Tryd.func140.trans (congrArg some (by kernel_rfl))
  f277 := Tryd.func151.trans (congrArg some (by kernel_rfl))
  t0 := Tryd.underlying0
  a0 := Tryd.isAgg0
  z0 := Tryd.sizeOf0
  v0 := Tryd.zeroValue0
  t3 := Tryd.underlying3
  a3 := Tryd.isAgg3
  z3 := Tryd.sizeOf3
  v3 := Tryd.zeroValue3
  t4 := Tryd.underlying4
  a4 := Tryd.isAgg4
  z4 := Tryd.sizeOf4
  v4 := Tryd.zeroValue4
  t5 := Tryd.underlying5
  a5 := Tryd.isAgg5
  z5 := Tryd.sizeOf5
  v5 := Tryd.zeroValue5
  t9 := Tryd.underlying9
  a9 := Tryd.isAgg9
  z9 := Tryd.sizeOf9
  v9 := Tryd.zeroValue9
  t20 := Tryd.underlying20
  a20 := Tryd.isAgg20
  z20 := Tryd.sizeOf20
  v20 := Tryd.zeroValue20
  t37 := Tryd.underlying64
  a37 := Tryd.isAgg64
  z37 := Tryd.sizeOf64
  v37 := Tryd.zeroValue64
  t46 := Tryd.underlying86
  a46 := Tryd.isAgg86
  z46 := Tryd.sizeOf86
  v46 := Tryd.zeroValue86
  t51 := Tryd.underlying141
  a51 := Tryd.isAgg141
  z51 := Tryd.sizeOf141
  v51 := Tryd.zeroValue141
  t53 := Tryd.underlying144
  a53 := Tryd.isAgg144
  z53 := Tryd.sizeOf144
  v53 := Tryd.zeroValue144
  t70 := Tryd.underlying93
  a70 := Tryd.isAgg93
  z70 := Tryd.sizeOf93
  v70 := Tryd.zeroValue93
  t72 := Tryd.underlying95
  a72 := Tryd.isAgg95
  z72 := Tryd.sizeOf95
  v72 := Tryd.zeroValue95
  t75 := Tryd.underlying97
  a75 := Tryd.isAgg97
  z75 := Tryd.sizeOf97
  v75 := Tryd.zeroValue97
  t76 := Tryd.underlying98
  a76 := Tryd.isAgg98
  z76 := Tryd.sizeOf98
  v76 := Tryd.zeroValue98
  t109 := Tryd.underlying126
  a109 := Tryd.isAgg126
  z109 := Tryd.sizeOf126
  v109 := Tryd.zeroValue126
  t127 := Tryd.underlying114
  a127 := Tryd.isAgg114
  z127 := Tryd.sizeOf114
  v127 := Tryd.zeroValue114
  t146 := Tryd.underlying142
  a146 := Tryd.isAgg142
  z146 := Tryd.sizeOf142
  v146 := Tryd.zeroValue142
  t148 := Tryd.underlying145
  a148 := Tryd.isAgg145
  z148 := Tryd.sizeOf145
  v148 := Tryd.zeroValue145
  t164 := Tryd.underlying132
  a164 := Tryd.isAgg132
  z164 := Tryd.sizeOf132
  v164 := Tryd.zeroValue132 }
theorem Tryd.Builder_Extra_105 : Builder.Extra Tryd.prog Tryd.lays105_ren := {
  sizeBuilder := by kernel_rfl
  liesBuilder := by kernel_rfl
  t5 := Tryd.underlying5
  a5 := Tryd.isAgg5
  z5 := Tryd.sizeOf5
  v5 := Tryd.zeroValue5
  infoByte := by kernel_rfl
  cellsByte := by kernel_rfl
  sizeByte := by kernel_rfl
  neB5 := by decide }
open Go.RowKit Go.Lib in
theorem Tryd.strings_Repeat (s : ByteArray) (c : Nat) (w : World) (hc : c ≤ 9223372036854775807) (hlen : s.size * c ≤ 140737488355328) :
    Calls Tryd.prog 112 #[.string s, .int .i64 c] w fun e w' => e = .returned (.string ⟨(Lib.repeatL s.data.toList c).toArray⟩) ∧ Below w.heap.size w w' := Any.strings_Repeat Tryd.lays105 Tryd.Builder_Extra_105 s c w hc hlen
end Go.Proofs
end

section
/-
  Chapter 6: what is shown of a cluster: the program's walk.
-/
namespace Go.Proofs.YthpjkgoahneldaaDoor
open Go Go.RowKit Vc Ut Tb Cl

theorem look_at {w : World} {b : Nat} {t : TypeId} {l : Lk} (h : w.heap[b]? = some (.cells #[.int .i64 l.tab, .bool l.wide, .int .i8 l.want, .bool l.join, .bool l.raw] t)) :
    w.cell? ⟨b, 0, none⟩ = some (.int .i64 l.tab) ∧ w.cell? ⟨b, 1, none⟩ = some (.bool l.wide) ∧ w.cell? ⟨b, 2, none⟩ = some (.int .i8 l.want) ∧ w.cell? ⟨b, 3, none⟩ = some (.bool l.join) ∧ w.cell? ⟨b, 4, none⟩ = some (.bool l.raw) :=
  ⟨by rw [cell_of_heap h]; rfl, by rw [cell_of_heap h]; rfl, by rw [cell_of_heap h]; rfl, by rw [cell_of_heap h]; rfl, by rw [cell_of_heap h]; rfl⟩
theorem stop_is {c t : Int} (h1 : 0 ≤ c) (h : ¬ (t < 1 ∨ 16 < t)) : t - c % t = (stopN c t : Int) ∧ 0 ≤ c % t ∧ c % t < t := by
  have e : tabN t = t.toNat := by unfold tabN; rw [if_neg h]
  have h0 := Int.emod_nonneg c (show t ≠ 0 by omega)
  have h2 := Int.emod_lt_of_pos c (show 0 < t by omega)
  refine ⟨?_, h0, h2⟩
  unfold stopN
  rw [e]
  have hm : ((c.toNat % t.toNat : Nat) : Int) = c % t := by rw [Int.natCast_emod, Int.toNat_of_nonneg h1, Int.toNat_of_nonneg (by omega)]
  have hl : c.toNat % t.toNat < t.toNat := Nat.mod_lt _ (by omega)
  omega
theorem stop_is8 {c t : Int} (h1 : 0 ≤ c) (h : t < 1 ∨ 16 < t) : (8 : Int) - c % 8 = (stopN c t : Int) := by
  have e : tabN t = 8 := by unfold tabN; rw [if_pos h]
  unfold stopN
  rw [e]; omega
theorem stop_neg {c t : Int} (h1 : c < 0) : stopN c t = stopN 0 t := by
  unfold stopN
  rw [show c.toNat = 0 from by omega]; rfl
theorem stop_ok : sStop.Ok Tryd.prog 81 := by
  refine stop_vc trivial ?_
  rintro ⟨c, l⟩ w _ b w1 hn
  dsimp only
  obtain ⟨c0, _⟩ := look_at hn.heap
  have hc : stopN c l.tab = stopN (if (0 : Int) > c then 0 else c) l.tab := by
    split
    · rename_i h; exact stop_neg h
    · rfl
  have hp : 0 ≤ if (0 : Int) > c then 0 else c := by split <;> omega
  refine ⟨l.tab, c0, bcase_mk (fun h => ?_) (fun h => ?_)⟩
  · have h : l.tab < 1 ∨ 16 < l.tab := by simpa using h
    exact ⟨hp, by decide, inr_i64 (by omega) (by omega), stopN c l.tab, by rw [hc, stop_is8 hp h], rfl, hn.ext⟩
  · have h : ¬ (l.tab < 1 ∨ 16 < l.tab) := by simpa using h
    obtain ⟨e, h3, h4⟩ := stop_is hp h
    exact ⟨hp, by omega, inr_i64 (by omega) (by omega), stopN c l.tab, by rw [hc, e], rfl, hn.ext⟩
theorem tab_ok : sStop.Ok Tryd.prog 116 := by
  refine tab_vc trivial ?_
  rintro ⟨c, l⟩ w _ b w1 hn
  dsimp only
  obtain ⟨c0, _⟩ := look_at hn.heap
  refine ⟨l.tab, c0, bcase_mk (fun h => ?_) (fun h => ?_)⟩
  · have h : l.tab < 1 ∨ 16 < l.tab := by simpa using h
    refine bcase_mk (fun hc => ?_) (fun hc => ?_)
    · have hc : c < 0 := by simpa using hc
      exact ⟨by decide, by decide, inr_i64 (by decide) (by decide), stopN c l.tab, by rw [stop_neg hc, ← stop_is8 (by decide) h]; rfl, rfl, hn.ext⟩
    · have hc : 0 ≤ c := by simpa using hc
      exact ⟨hc, by decide, inr_i64 (by omega) (by omega), stopN c l.tab, by rw [stop_is8 hc h], rfl, hn.ext⟩
  · have h : ¬ (l.tab < 1 ∨ 16 < l.tab) := by simpa using h
    refine bcase_mk (fun hc => ?_) (fun hc => ?_)
    · have hc : c < 0 := by simpa using hc
      obtain ⟨e, h3, h4⟩ := stop_is (c := 0) (by decide) h
      exact ⟨by decide, by omega, inr_i64 (by omega) (by omega), stopN c l.tab, by rw [stop_neg hc, e], rfl, hn.ext⟩
    · have hc : 0 ≤ c := by simpa using hc
      obtain ⟨e, h3, h4⟩ := stop_is hc h
      exact ⟨hc, by omega, inr_i64 (by omega) (by omega), stopN c l.tab, by rw [e], rfl, hn.ext⟩
theorem flag_ok : (sRB regB).Ok Tryd.prog 115 := flag_vc trivial fun g w _ => ⟨_, rfl, rfl, Ext.refl w⟩
theorem rep_ok : sRep.Ok Tryd.prog 112 := by
  rintro (n : Nat) w h
  have h : n ≤ 16 := h
  refine (Tryd.strings_Repeat ⟨#[32]⟩ n w (by omega) (by show 1 * n ≤ _; omega)).mono ?_
  rintro e w' ⟨he, hb⟩
  refine ⟨blankS n, ?_, ⟨rfl, hb⟩, KO.below hb (Nat.le_refl _)⟩
  have e1 : Lib.repeatL [32] n = List.replicate n 32 := by
    have := Lib.repeatL_replicate 32 1 n
    rwa [Nat.mul_one] at this
  have e2 : (Lib.repeatL (ByteArray.mk #[32]).data.toList n).toArray = (List.replicate n 32).toArray := congrArg List.toArray e1
  rw [he, e2]; rfl

theorem oneF_ok : (sOneL false).Ok Tryd.prog 77 := by
  refine oneF_vc ⟨stop_ok, rep_ok, ckind_ok, named_ok, cwide_ok, flag_ok, trivial⟩ ?_
  rintro ⟨k, col, l, a, c⟩ w ⟨hlate, hD, hsz, h1, hb, hcap, hcells⟩ b w1 hn
  dsimp only at hlate hD hsz h1 hb hcap hcells ⊢
  obtain ⟨h0, hf, _⟩ := one_first h1
  obtain ⟨c0, c1, c2, c3, c4⟩ := look_at (l := l) hn.heap
  have hE : Ext w w1 := hn.ext
  have hcell1 := hcells.ext hE
  have hlen := runes_len k
  have r0 : (runes k).getD 0 0 = sg k 0 := runes_at h0
  have hsg0 : 0 ≤ sg k 0 := dcR_nonneg k _
  have hsg1 : sg k 0 ≤ 1114111 := dcR_le k _
  have hkl : k.size ≤ 67108864 := hsz
  refine ⟨0, rfl, h0, hcell1.int (i := 0) (by omega) fun b1 o hc1 => ⟨sg k 0, by rw [← r0]; exact hc1, ?_, ?_⟩⟩
  · refine bcase_mk (fun h => ?_) (fun h => ?_)
    · have h : 1 < cnt k := by have := of_decide_eq_true h; omega
      refine ⟨1, rfl, h, hcell1.int (i := 1) (by omega) fun b1 o hc1 => ⟨sg k 1, by rw [runes_at h] at hc1; exact hc1, (), ?_, rfl⟩⟩
      unfold secR; rw [if_pos h]
    · have h : ¬ 1 < cnt k := by have := of_decide_eq_false h; omega
      refine ⟨(), ?_, rfl⟩
      unfold secR; rw [if_neg h]
  rintro _ _ w2 hw2
  replace hw2 := hw2.symm
  subst hw2
  refine bcase_mk (fun h9 => ?_) (fun h9 => ?_)
  · have h9 : sg k 0 = 9 := by simpa using h9
    refine ⟨l.tab, c0, l.wide, c1, l.want, c2, l.join, c3, l.raw, c4, (col, l), rfl, trivial, ?_⟩
    rintro x w3 ⟨hx, e3⟩
    dsimp only at hx
    have hst := stop_bd col l.tab
    have htb := tab_bd l.tab
    refine ⟨stopN col l.tab, by rw [hx], by omega, ?_⟩
    rintro y w4 ⟨hy, e4⟩
    exact ⟨(blankS (stopN col l.tab), stopN col l.tab), by rw [hy, hx], (oneC_tab hb h9).symm, Ext.trans hE (Ext.trans e3 e4)⟩
  have h9 : ¬ sg k 0 = 9 := by simpa using h9
  refine bcase_mk (fun hnl => ⟨(⟨#[]⟩, 0), rfl, (oneC_nl hb h9 (by simpa using hnl)).symm, hE⟩) (fun hnl => ?_)
  have hnl : ¬ (sg k 0 = 10 ∨ secR k = 10) := by simpa using hnl
  refine bcase_mk (fun hct => ?_) (fun hct => ?_)
  · have hct : sg k 0 < 32 ∨ sg k 0 = 127 := by simpa using hct
    intro b2 w3 hn2
    have hx := ctl_byte ⟨(sg k 0).toNat, by omega⟩ (by dsimp only; omega)
    dsimp only at hx
    rw [Int.toNat_of_nonneg hsg0] at hx
    generalize IntKind.i32.wrap (↑(BitVec.ofInt IntKind.i32.bits (sg k 0) ^^^ BitVec.ofInt IntKind.i32.bits (64 : Int)).toNat : Int) = z at hx hn2
    refine ⟨[z], runesIn_of (.inr ⟨b2, 0, rfl, fun j v hv => ?_⟩), ?_, (ctlS (sg k 0), 2), by rw [hx]; rfl, (oneC_ctl hb h9 hnl hct).symm, Ext.trans hE hn2.ext⟩
    · rw [cell_of_heap hn2.heap, Nat.zero_add, show (#[Value.int .i32 z] : Array Value) = [Value.int .i32 z].toArray from rfl, List.getElem?_toArray]; exact hv
    · have e := congrArg ByteArray.size hx
      rw [ByteArray.size_append] at e
      rw [e]
      exact Nat.le_trans (Nat.le_of_eq (by unfold ctlS; rw [strL_size]; rfl)) (show (2 : Nat) ≤ 9223372036854775807 by decide)
  have hct : ¬ (sg k 0 < 32 ∨ sg k 0 = 127) := by simpa using hct
  have hnat : ((sg k 0).toNat : Int) = sg k 0 := Int.toNat_of_nonneg hsg0
  have fmt : ∀ (w3 : World), Ext w1 w3 → fmtB (sg k 0) = true → ∃ b2 : Bool, w3.cell? ⟨b, 4, none⟩ = some (.bool b2) ∧ bcase (!b2) (∃ x : ByteArray × Nat, Value.tuple #[.string (ByteArray.mk #[]), .int .i64 0] = Value.tuple #[.string x.1, .int .i64 x.2] ∧ x = oneC k col l ∧ Ext w w3)
      (∃ g1 : Nat, (#[.int .i32 (sg k 0)] : Array Value) = #[.int .i32 (g1 : Int)] ∧ (DB w3 ∧ 16 ≤ g1 ∧ g1 ≤ 1114111) ∧ ∀ (x : ByteArray) (w4 : World), x = nameS g1 ∧ Ext w3 w4 → ∃ x1 : ByteArray × Nat, Value.tuple #[.string x, .int .i64 x.size] = Value.tuple #[.string x1.1, .int .i64 x1.2] ∧ x1 = oneC k col l ∧ Ext w w4) := by
    intro w3 e3 hfm
    refine ⟨l.raw, e3.cell c4, bcase_mk (fun hr => ?_) (fun hr => ?_)⟩
    · exact ⟨(⟨#[]⟩, 0), rfl, (oneC_fmt hb h9 hnl hct hfm (by simpa using hr)).symm, Ext.trans hE e3⟩
    · refine ⟨(sg k 0).toNat, by rw [hnat], ⟨hD.ext (Ext.trans hE e3), by omega, by omega⟩, ?_⟩
      rintro x w4 ⟨hx, e4⟩
      exact ⟨(nameS (sg k 0).toNat, (nameS (sg k 0).toNat).size), by rw [hx], (oneC_raw hb h9 hnl hct hfm (by simpa using hr)).symm, Ext.trans hE (Ext.trans e3 e4)⟩
  refine bcase_mk (fun hc1 => fmt w1 (Ext.refl _) (by unfold fmtB; rw [Bool.or_eq_true, Bool.or_eq_true]; left; left; simpa using hc1)) (fun hc1 => ?_)
  have hc1 : ¬ (128 ≤ sg k 0 ∧ sg k 0 ≤ 159) := by simpa using hc1
  have hfl : fmtB (sg k 0) = lateB (sg k 0) := by unfold fmtB lateB; rw [decide_eq_false hc1]; rfl
  have hl := hlate
  unfold lateB at hl
  rw [Bool.or_eq_false_iff, Bool.or_eq_false_iff] at hl
  obtain ⟨⟨hl1, hl2⟩, hl3⟩ := hl
  rw [hlate] at hfl
  refine ⟨⟨bcase_mk (fun h => by rw [h] at hl1; cases hl1) (fun _ => bcase_mk (fun h => by rw [h] at hl2; cases hl2) (fun _ => ⟨sg k 0, rfl, trivial, ?_⟩)), ?_⟩, ?_⟩
  · rintro x w3 ⟨hx, e3⟩
    rw [hlate]
    refine bcase_mk (fun h => ?_) (fun h => ⟨(), rfl, e3⟩)
    have hk : kindR (sg k 0) = 1 := by rw [← hx]; simpa using h
    rw [hk] at hl3
    have hj : ¬ sg k 0 = 8204 → sg k 0 = 8205 := by unfold joinB at hl3; simpa using hl3
    refine bcase_mk (fun h => ⟨(), ?_, e3⟩) (fun h => ⟨(), rfl, e3⟩)
    have h : sg k 0 ≠ 8204 := by simpa using h
    have h5 : sg k 0 = 8205 := hj h
    rw [h5]; rfl
  · rintro _ _ w3 e3
    exact bcase_mk (fun h => by rw [hlate] at h; cases h) (fun h => ⟨(), rfl, e3⟩)
  rintro _ _ w3 e3
  refine ⟨sg k 0, rfl, trivial, ?_⟩
  rintro x w4 ⟨hx, e4⟩
  have e14 := Ext.trans e3 e4
  refine bcase_mk (fun h => ?_) (fun h => ?_)
  · have hm : kindR (sg k 0) = 2 ∨ joinB (sg k 0) = true := by rw [hx] at h; unfold joinB; simpa using h
    have hcut := cut_text h1 hb rfl
    have h32 := one_le h1
    refine ⟨if 31 < cnt k then 31 else cnt k, by split <;> split <;> omega, by split <;> omega, (runes k).take (if 31 < cnt k then 31 else cnt k), ?_, ?_, (⟨#[226, 151, 140]⟩ ++ cutS k, 1), by rw [hcut]; rfl, (oneC_mark hb h9 hnl hct hfl hm).symm, Ext.trans hE e14⟩
    · have hcl : CellsAt w4 a (((runes k).take (if 31 < cnt k then 31 else cnt k)).map (Value.int .i32)) := by
        rw [List.map_take]; exact (hcell1.ext e14).take _
      have := runesIn_of hcl
      rwa [List.length_take, hlen, Nat.min_eq_left (by split <;> omega)] at this
    · rw [hcut]
      have : (cutS k).size ≤ k.size := by
        unfold cutS; split
        · rw [size_ext (pos_le k 31)]; have := pos_le k 31; omega
        · exact Nat.le_refl _
      exact Nat.le_trans (Nat.add_le_add_left (Nat.le_trans this hsz) _) (show 3 + 67108864 ≤ 9223372036854775807 by decide)
  have hm : ¬ (kindR (sg k 0) = 2 ∨ joinB (sg k 0) = true) := by rw [hx] at h; unfold joinB; simpa using h
  refine ⟨l.wide, e14.cell c1, (sg k 0, l.wide), rfl, trivial, ?_⟩
  rintro x1 w5 ⟨hx1, e5⟩
  dsimp only at hx1
  have e15 := Ext.trans e14 e5
  refine ⟨⟨sg k 0, rfl, trivial, ?_⟩, ?_⟩
  · rintro x2 w6 ⟨hx2, e6⟩
    refine bcase_mk (fun h2 => ⟨secR k, rfl, trivial, ?_⟩) (fun h2 => ⟨sg k 0, rfl, trivial, ?_⟩)
    · rintro x3 w7 ⟨hx3, e7⟩
      refine bcase_mk (fun h3 => ⟨(), ?_, Ext.trans e6 e7⟩) (fun h3 => ⟨sg k 0, rfl, trivial, ?_⟩)
      · unfold twoB; rw [← hx2, ← hx3, h2, h3]; rfl
      · rintro x4 w8 ⟨hx4, e8⟩
        have e := Ext.trans e6 (Ext.trans e7 e8)
        unfold twoB
        rw [← hx2, ← hx3, ← hx4, ← hx1, h2, h3]
        refine bcase_mk (fun h4 => bcase_mk (fun h5 => ⟨(), by rw [h4, h5]; rfl, e⟩) (fun h5 => ⟨(), by rw [h4, h5]; rfl, e⟩)) (fun h4 => ⟨(), by rw [h4]; rfl, e⟩)
    · rintro x3 w7 ⟨hx3, e7⟩
      have e := Ext.trans e6 e7
      unfold twoB
      rw [← hx2, ← hx3, ← hx1, h2]
      refine bcase_mk (fun h4 => bcase_mk (fun h5 => ⟨(), by rw [h4, h5]; rfl, e⟩) (fun h5 => ⟨(), by rw [h4, h5]; rfl, e⟩)) (fun h4 => ⟨(), by rw [h4]; rfl, e⟩)
  rintro _ _ w6 e6
  have e16 := Ext.trans hE (Ext.trans e15 e6)
  have htw : twoB k l = true ↔ (regB (sg k 0) = true ∧ regB (secR k) = true) ∨ (kindR (sg k 0) = 7 ∧ wideR (sg k 0) l.wide = 1 ∧ secR k = 65039) := by
    unfold twoB
    simp only [Bool.or_eq_true, Bool.and_eq_true, beq_iff_eq, and_assoc]
  refine bcase_mk (fun h2 => ⟨(k, 2), rfl, (oneC_two hb h9 hnl hct hfl hm (htw.1 h2)).symm, e16⟩) (fun h2 => ?_)
  have h2 : ¬ twoB k l = true := by rw [h2]; decide
  have hone := oneC_wid (col := col) (l := l) hb h9 hnl hct hfl hm (fun h => h2 (htw.2 h))
  refine bcase_mk (fun h3 => ⟨(⟨#[]⟩, 0), rfl, ?_, e16⟩) (fun h3 => ⟨(k, (wideR (sg k 0) l.wide).toNat), ?_, ?_, e16⟩)
  · rw [hone, if_pos (by rw [← hx1]; simpa using h3)]
  · rw [Int.toNat_of_nonneg (wideR_bd _ _), hx1]
  · rw [hone, if_neg (by rw [← hx1]; simpa using h3)]
theorem oneT_ok : (sOneL true).Ok Tryd.prog 77 := by
  refine oneT_vc ⟨stop_ok, rep_ok, ckind_ok, named_ok, cwide_ok, flag_ok, trivial⟩ ?_
  rintro ⟨k, col, l, a, c⟩ w ⟨hlate, hD, hsz, h1, hb, hcap, hcells⟩ b w1 hn
  dsimp only at hlate hD hsz h1 hb hcap hcells ⊢
  obtain ⟨h0, hf, _⟩ := one_first h1
  obtain ⟨c0, c1, c2, c3, c4⟩ := look_at (l := l) hn.heap
  have hE : Ext w w1 := hn.ext
  have hcell1 := hcells.ext hE
  have hlen := runes_len k
  have r0 : (runes k).getD 0 0 = sg k 0 := runes_at h0
  have hsg0 : 0 ≤ sg k 0 := dcR_nonneg k _
  have hsg1 : sg k 0 ≤ 1114111 := dcR_le k _
  have hkl : k.size ≤ 67108864 := hsz
  refine ⟨0, rfl, h0, hcell1.int (i := 0) (by omega) fun b1 o hc1 => ⟨sg k 0, by rw [← r0]; exact hc1, ?_, ?_⟩⟩
  · refine bcase_mk (fun h => ?_) (fun h => ?_)
    · have h : 1 < cnt k := by have := of_decide_eq_true h; omega
      refine ⟨1, rfl, h, hcell1.int (i := 1) (by omega) fun b1 o hc1 => ⟨sg k 1, by rw [runes_at h] at hc1; exact hc1, (), ?_, rfl⟩⟩
      unfold secR; rw [if_pos h]
    · have h : ¬ 1 < cnt k := by have := of_decide_eq_false h; omega
      refine ⟨(), ?_, rfl⟩
      unfold secR; rw [if_neg h]
  rintro _ _ w2 hw2
  replace hw2 := hw2.symm
  subst hw2
  refine bcase_mk (fun h9 => ?_) (fun h9 => ?_)
  · have h9 : sg k 0 = 9 := by simpa using h9
    refine ⟨l.tab, c0, l.wide, c1, l.want, c2, l.join, c3, l.raw, c4, (col, l), rfl, trivial, ?_⟩
    rintro x w3 ⟨hx, e3⟩
    dsimp only at hx
    have hst := stop_bd col l.tab
    have htb := tab_bd l.tab
    refine ⟨stopN col l.tab, by rw [hx], by omega, ?_⟩
    rintro y w4 ⟨hy, e4⟩
    exact ⟨(blankS (stopN col l.tab), stopN col l.tab), by rw [hy, hx], (oneC_tab hb h9).symm, Ext.trans hE (Ext.trans e3 e4)⟩
  have h9 : ¬ sg k 0 = 9 := by simpa using h9
  refine bcase_mk (fun hnl => ⟨(⟨#[]⟩, 0), rfl, (oneC_nl hb h9 (by simpa using hnl)).symm, hE⟩) (fun hnl => ?_)
  have hnl : ¬ (sg k 0 = 10 ∨ secR k = 10) := by simpa using hnl
  refine bcase_mk (fun hct => ?_) (fun hct => ?_)
  · have hct : sg k 0 < 32 ∨ sg k 0 = 127 := by simpa using hct
    intro b2 w3 hn2
    have hx := ctl_byte ⟨(sg k 0).toNat, by omega⟩ (by dsimp only; omega)
    dsimp only at hx
    rw [Int.toNat_of_nonneg hsg0] at hx
    generalize IntKind.i32.wrap (↑(BitVec.ofInt IntKind.i32.bits (sg k 0) ^^^ BitVec.ofInt IntKind.i32.bits (64 : Int)).toNat : Int) = z at hx hn2
    refine ⟨[z], runesIn_of (.inr ⟨b2, 0, rfl, fun j v hv => ?_⟩), ?_, (ctlS (sg k 0), 2), by rw [hx]; rfl, (oneC_ctl hb h9 hnl hct).symm, Ext.trans hE hn2.ext⟩
    · rw [cell_of_heap hn2.heap, Nat.zero_add, show (#[Value.int .i32 z] : Array Value) = [Value.int .i32 z].toArray from rfl, List.getElem?_toArray]; exact hv
    · have e := congrArg ByteArray.size hx
      rw [ByteArray.size_append] at e
      rw [e]
      exact Nat.le_trans (Nat.le_of_eq (by unfold ctlS; rw [strL_size]; rfl)) (show (2 : Nat) ≤ 9223372036854775807 by decide)
  have hct : ¬ (sg k 0 < 32 ∨ sg k 0 = 127) := by simpa using hct
  have hnat : ((sg k 0).toNat : Int) = sg k 0 := Int.toNat_of_nonneg hsg0
  have fmt : ∀ (w3 : World), Ext w1 w3 → fmtB (sg k 0) = true → ∃ b2 : Bool, w3.cell? ⟨b, 4, none⟩ = some (.bool b2) ∧ bcase (!b2) (∃ x : ByteArray × Nat, Value.tuple #[.string (ByteArray.mk #[]), .int .i64 0] = Value.tuple #[.string x.1, .int .i64 x.2] ∧ x = oneC k col l ∧ Ext w w3)
      (∃ g1 : Nat, (#[.int .i32 (sg k 0)] : Array Value) = #[.int .i32 (g1 : Int)] ∧ (DB w3 ∧ 16 ≤ g1 ∧ g1 ≤ 1114111) ∧ ∀ (x : ByteArray) (w4 : World), x = nameS g1 ∧ Ext w3 w4 → ∃ x1 : ByteArray × Nat, Value.tuple #[.string x, .int .i64 x.size] = Value.tuple #[.string x1.1, .int .i64 x1.2] ∧ x1 = oneC k col l ∧ Ext w w4) := by
    intro w3 e3 hfm
    refine ⟨l.raw, e3.cell c4, bcase_mk (fun hr => ?_) (fun hr => ?_)⟩
    · exact ⟨(⟨#[]⟩, 0), rfl, (oneC_fmt hb h9 hnl hct hfm (by simpa using hr)).symm, Ext.trans hE e3⟩
    · refine ⟨(sg k 0).toNat, by rw [hnat], ⟨hD.ext (Ext.trans hE e3), by omega, by omega⟩, ?_⟩
      rintro x w4 ⟨hx, e4⟩
      exact ⟨(nameS (sg k 0).toNat, (nameS (sg k 0).toNat).size), by rw [hx], (oneC_raw hb h9 hnl hct hfm (by simpa using hr)).symm, Ext.trans hE (Ext.trans e3 e4)⟩
  refine bcase_mk (fun hc1 => fmt w1 (Ext.refl _) (by unfold fmtB; rw [Bool.or_eq_true, Bool.or_eq_true]; left; left; simpa using hc1)) (fun hc1 => ?_)
  have hc1 : ¬ (128 ≤ sg k 0 ∧ sg k 0 ≤ 159) := by simpa using hc1
  have hfl : fmtB (sg k 0) = lateB (sg k 0) := by unfold fmtB lateB; rw [decide_eq_false hc1]; rfl
  have hfm := hfl.trans hlate
  refine bcase_mk (fun h => ?_) (fun h => ?_)
  · exact bcase_mk (fun _ => fmt w1 (Ext.refl _) hfm) (fun h' => by rw [h] at h'; cases h')
  refine bcase_mk (fun h' => ?_) (fun h' => ?_)
  · exact bcase_mk (fun _ => fmt w1 (Ext.refl _) hfm) (fun h'' => by rw [h'] at h''; cases h'')
  have hl := hlate
  unfold lateB at hl
  rw [h, h', Bool.false_or, Bool.false_or, Bool.and_eq_true] at hl
  obtain ⟨hk, hj⟩ := hl
  refine ⟨sg k 0, rfl, trivial, ?_⟩
  rintro x w3 ⟨hx, e3⟩
  rw [← hx] at hk
  have hj1 : (sg k 0 != 8204) = true := by unfold joinB at hj; simp at hj ⊢; exact hj.1
  have hj2 : (sg k 0 != 8205) = true := by unfold joinB at hj; simp at hj ⊢; exact hj.2
  refine bcase_mk (fun _ => bcase_mk (fun _ => bcase_mk (fun _ => fmt w3 e3 hfm) (fun h => ?_)) (fun h => ?_)) (fun h => ?_)
  · rw [hj2] at h; cases h
  · rw [hj1] at h; cases h
  · rw [hk] at h; cases h
theorem onep_ok : sOneP.Ok Tryd.prog 77 := by
  intro g w h
  cases hl : lateB (sg g.k 0) with
  | true => exact oneT_ok g w ⟨hl, h⟩
  | false => exact oneF_ok g w ⟨hl, h⟩

end Go.Proofs.YthpjkgoahneldaaDoor
end

section
/-
  Specifications, chapter 1: the document's text of numbers.
-/
namespace Go.Proofs.YthpjkgoahneldaaDoor
open Go Go.RowKit Vc Ut

def spRText : List (Nat × CallSpec) := [(138, sPut)]
def annRText (g : GSl) (w00 : World) : Ann where
  sp := spRText
  loops := [(3, {
    X := Nat × Option Addr × Nat
    sh := fun _ x => [(4, .int .i64 x.1), (3, .slice x.2.1 ((g.xs.take x.1).flatMap encL).length x.2.2)]
    inv := fun _ w0 x w => x.1 ≤ g.xs.length ∧ Made w0 w 5 1 x.2.1 ((g.xs.take x.1).flatMap encL).length (((g.xs.take x.1).flatMap encL).map (Value.int .u8)) x.2.2
    mu := fun _ _ x _ => g.xs.length - x.1 })]
--#vc put_vc 138 sPut annPut []
--#vc rtext_vc 120 (sLS runesBytes) annRText spRText

end Go.Proofs.YthpjkgoahneldaaDoor
end

section
/-
  Verification conditions, printed by a program out of the specifications beside this text: each theorem says that the condition suffices. (Lean's kernel compares the printed condition with what 'wpE' computes.)
-/
set_option linter.unusedVariables false
namespace Go.Proofs.YthpjkgoahneldaaDoor
open Go Go.RowKit Vc Ut

set_option maxRecDepth 1000000 in
theorem put_vc (hsp : SpecsOk Tryd.prog []) (h : ∀ (g : GPut) (w : World), Made g.W w (5 : TypeId) (1 : Nat) g.ad g.vs.length (List.map (Value.int IntKind.u8) g.vs) g.c ∧ g.vs.length ≤ (1073741824 : Nat) → bcase (decide (g.r < (0 : Int)) || (decide (g.r > (1114111 : Int)) || decide (g.r ≥ (55296 : Int)) && decide (g.r ≤ (57343 : Int)))) (∃ (c : Unit), Value.int IntKind.i32 (65533 : Int) = Value.int IntKind.i32 (↑(encC g.r) : Int) ∧ w = w) (∃ (c : Unit), Value.int IntKind.i32 g.r = Value.int IntKind.i32 (↑(encC g.r) : Int) ∧ w = w) ∧ ∀ (u : Nat → Value) (c : Unit) (w' : World), w' = w → bcase (decide ((↑(encC g.r) : Int) < (128 : Int))) (InR IntKind.u8 (↑(encC g.r) : Int) ∧ ∀ (b : Nat) (w1 : World), New w' (Obj.cells #[Value.int IntKind.u8 (↑(encC g.r) : Int)] (5 : Nat)) b w1 → ∃ (a' : Option Addr), ∃ (c' : Nat), ∃ (w'1 : World), AppRun Tryd.prog #[(64 : Nat), (64 : Nat)] (64 : Nat) (Value.slice g.ad g.vs.length g.c) (Value.slice (some { block := b, off := (0 : Nat) }) (1 : Nat) (1 : Nat)) w1 a' (g.vs.length + (1 : Nat)) c' w'1 ∧ KO w1 w'1 ∧ ∃ (x : Option Addr × Nat × Nat), Value.slice a' (g.vs.length + (1 : Nat)) c' = Value.slice x.fst x.snd.fst x.snd.snd ∧ x.snd.fst = (g.vs ++ encL g.r).length ∧ Made g.W w'1 (5 : TypeId) (1 : Nat) x.fst x.snd.fst (List.map (Value.int IntKind.u8) (g.vs ++ encL g.r)) x.snd.snd) (bcase (decide ((↑(encC g.r) : Int) < (2048 : Int))) ((0 : Int) ≤ (↑(encC g.r) : Int) ∧ (0 : Int) < (64 : Int) ∧ InR IntKind.i32 ((↑(encC g.r) : Int) / (64 : Int)) ∧ InR IntKind.i32 ((192 : Int) + (↑(encC g.r) : Int) / (64 : Int)) ∧ InR IntKind.u8 ((192 : Int) + (↑(encC g.r) : Int) / (64 : Int)) ∧ (0 : Int) ≤ (↑(encC g.r) : Int) ∧ (0 : Int) < (64 : Int) ∧ InR IntKind.i32 ((128 : Int) + (↑(encC g.r) : Int) % (64 : Int)) ∧ InR IntKind.u8 ((128 : Int) + (↑(encC g.r) : Int) % (64 : Int)) ∧ ∀ (b : Nat) (w1 : World), New w' (Obj.cells #[Value.int IntKind.u8 ((192 : Int) + (↑(encC g.r) : Int) / (64 : Int)), Value.int IntKind.u8 ((128 : Int) + (↑(encC g.r) : Int) % (64 : Int))] (5 : Nat)) b w1 → ∃ (a' : Option Addr), ∃ (c' : Nat), ∃ (w'1 : World), AppRun Tryd.prog #[(64 : Nat), (64 : Nat)] (64 : Nat) (Value.slice g.ad g.vs.length g.c) (Value.slice (some { block := b, off := (0 : Nat) }) (2 : Nat) (2 : Nat)) w1 a' (g.vs.length + (2 : Nat)) c' w'1 ∧ KO w1 w'1 ∧ ∃ (x : Option Addr × Nat × Nat), Value.slice a' (g.vs.length + (2 : Nat)) c' = Value.slice x.fst x.snd.fst x.snd.snd ∧ x.snd.fst = (g.vs ++ encL g.r).length ∧ Made g.W w'1 (5 : TypeId) (1 : Nat) x.fst x.snd.fst (List.map (Value.int IntKind.u8) (g.vs ++ encL g.r)) x.snd.snd) (bcase (decide ((↑(encC g.r) : Int) < (65536 : Int))) ((0 : Int) ≤ (↑(encC g.r) : Int) ∧ (0 : Int) < (4096 : Int) ∧ InR IntKind.i32 ((↑(encC g.r) : Int) / (4096 : Int)) ∧ InR IntKind.i32 ((224 : Int) + (↑(encC g.r) : Int) / (4096 : Int)) ∧ InR IntKind.u8 ((224 : Int) + (↑(encC g.r) : Int) / (4096 : Int)) ∧ (0 : Int) ≤ (↑(encC g.r) : Int) ∧ (0 : Int) < (64 : Int) ∧ InR IntKind.i32 ((↑(encC g.r) : Int) / (64 : Int)) ∧
 (0 : Int) ≤ (↑(encC g.r) : Int) / (64 : Int) ∧ (0 : Int) < (64 : Int) ∧ InR IntKind.i32 ((128 : Int) + (↑(encC g.r) : Int) / (64 : Int) % (64 : Int)) ∧ InR IntKind.u8 ((128 : Int) + (↑(encC g.r) : Int) / (64 : Int) % (64 : Int)) ∧ (0 : Int) ≤ (↑(encC g.r) : Int) ∧ (0 : Int) < (64 : Int) ∧ InR IntKind.i32 ((128 : Int) + (↑(encC g.r) : Int) % (64 : Int)) ∧ InR IntKind.u8 ((128 : Int) + (↑(encC g.r) : Int) % (64 : Int)) ∧ ∀ (b : Nat) (w1 : World), New w' (Obj.cells #[Value.int IntKind.u8 ((224 : Int) + (↑(encC g.r) : Int) / (4096 : Int)), Value.int IntKind.u8 ((128 : Int) + (↑(encC g.r) : Int) / (64 : Int) % (64 : Int)), Value.int IntKind.u8 ((128 : Int) + (↑(encC g.r) : Int) % (64 : Int))] (5 : Nat)) b w1 → ∃ (a' : Option Addr), ∃ (c' : Nat), ∃ (w'1 : World), AppRun Tryd.prog #[(64 : Nat), (64 : Nat)] (64 : Nat) (Value.slice g.ad g.vs.length g.c) (Value.slice (some { block := b, off := (0 : Nat) }) (3 : Nat) (3 : Nat)) w1 a' (g.vs.length + (3 : Nat)) c' w'1 ∧ KO w1 w'1 ∧ ∃ (x : Option Addr × Nat × Nat), Value.slice a' (g.vs.length + (3 : Nat)) c' = Value.slice x.fst x.snd.fst x.snd.snd ∧ x.snd.fst = (g.vs ++ encL g.r).length ∧ Made g.W w'1 (5 : TypeId) (1 : Nat) x.fst x.snd.fst (List.map (Value.int IntKind.u8) (g.vs ++ encL g.r)) x.snd.snd) ((0 : Int) ≤ (↑(encC g.r) : Int) ∧ (0 : Int) < (262144 : Int) ∧ InR IntKind.i32 ((↑(encC g.r) : Int) / (262144 : Int)) ∧ InR IntKind.i32 ((240 : Int) + (↑(encC g.r) : Int) / (262144 : Int)) ∧ InR IntKind.u8 ((240 : Int) + (↑(encC g.r) : Int) / (262144 : Int)) ∧ (0 : Int) ≤ (↑(encC g.r) : Int) ∧ (0 : Int) < (4096 : Int) ∧ InR IntKind.i32 ((↑(encC g.r) : Int) / (4096 : Int)) ∧ (0 : Int) ≤ (↑(encC g.r) : Int) / (4096 : Int) ∧ (0 : Int) < (64 : Int) ∧ InR IntKind.i32 ((128 : Int) + (↑(encC g.r) : Int) / (4096 : Int) % (64 : Int)) ∧ InR IntKind.u8 ((128 : Int) + (↑(encC g.r) : Int) / (4096 : Int) % (64 : Int)) ∧ (0 : Int) ≤ (↑(encC g.r) : Int) ∧ (0 : Int) < (64 : Int) ∧ InR IntKind.i32 ((↑(encC g.r) : Int) / (64 : Int)) ∧ (0 : Int) ≤ (↑(encC g.r) : Int) / (64 : Int) ∧ (0 : Int) < (64 : Int) ∧ InR IntKind.i32 ((128 : Int) + (↑(encC g.r) : Int) / (64 : Int) % (64 : Int)) ∧ InR IntKind.u8 ((128 : Int) + (↑(encC g.r) : Int) / (64 : Int) % (64 : Int)) ∧ (0 : Int) ≤ (↑(encC g.r) : Int) ∧ (0 : Int) < (64 : Int) ∧ InR IntKind.i32 ((128 : Int) + (↑(encC g.r) : Int) % (64 : Int)) ∧ InR IntKind.u8 ((128 : Int) + (↑(encC g.r) : Int) % (64 : Int)) ∧ ∀ (b : Nat) (w1 : World), New w' (Obj.cells #[Value.int IntKind.u8 ((240 : Int) + (↑(encC g.r) : Int) / (262144 : Int)), Value.int IntKind.u8 ((128 : Int) + (↑(encC g.r) : Int) / (4096 : Int) % (64 : Int)), Value.int IntKind.u8 ((128 : Int) + (↑(encC g.r) : Int) / (64 : Int) % (64 : Int)), Value.int IntKind.u8 ((128 : Int) + (↑(encC g.r) : Int) % (64 : Int))] (5 : Nat)) b w1 → ∃ (a' : Option Addr), ∃ (c' : Nat), ∃ (w'1 : World), AppRun Tryd.prog #[(64 : Nat), (64 : Nat)] (64 : Nat) (Value.slice g.ad g.vs.length g.c)
 (Value.slice (some { block := b, off := (0 : Nat) }) (4 : Nat) (4 : Nat)) w1 a' (g.vs.length + (4 : Nat)) c' w'1 ∧ KO w1 w'1 ∧ ∃ (x : Option Addr × Nat × Nat), Value.slice a' (g.vs.length + (4 : Nat)) c' = Value.slice x.fst x.snd.fst x.snd.snd ∧ x.snd.fst = (g.vs ++ encL g.r).length ∧ Made g.W w'1 (5 : TypeId) (1 : Nat) x.fst x.snd.fst (List.map (Value.int IntKind.u8) (g.vs ++ encL g.r)) x.snd.snd)))) :
    (sPut).Ok Tryd.prog 138 :=
  ok_of_vc sPut annPut [] (fun _ _ => rfl) (fun _ _ => rfl) hsp Tryd.func138 rfl (n := 2) (fun _ => rfl) (by kernel_rfl) (vcast (by kernel_rfl) h)

set_option maxRecDepth 1000000 in
theorem rtext_vc (hsp : SpecsOk Tryd.prog spRText) (h : ∀ (g : GSl) (w : World), GSl.at IntKind.i32 g w ∧ g.xs.length ≤ (67108864 : Nat) → (∃ (x : Nat × Option Addr × Nat), Value.int IntKind.i64 (0 : Int) = Value.int IntKind.i64 (↑x.fst : Int) ∧ Value.slice none (0 : Nat) (0 : Nat) = Value.slice x.snd.fst (List.flatMap encL (List.take x.fst g.xs)).length x.snd.snd ∧ x.fst ≤ g.xs.length ∧ Made w w (5 : TypeId) (1 : Nat) x.snd.fst (List.flatMap encL (List.take x.fst g.xs)).length (List.map (Value.int IntKind.u8) (List.flatMap encL (List.take x.fst g.xs))) x.snd.snd) ∧ ∀ (u : Nat → Value) (x : Nat × Option Addr × Nat) (w' : World), x.fst ≤ g.xs.length ∧ Made w w' (5 : TypeId) (1 : Nat) x.snd.fst (List.flatMap encL (List.take x.fst g.xs)).length (List.map (Value.int IntKind.u8) (List.flatMap encL (List.take x.fst g.xs))) x.snd.snd → bcase (decide ((↑x.fst : Int) < (↑g.xs.length : Int))) (∃ (k : Nat), (↑x.fst : Int) = (↑k : Int) ∧ k < g.xs.length ∧ ptrE g.ad fun (b o : Nat) => ∃ (n : Int), w'.cell? { block := b, off := o + k } = some (Value.int IntKind.i32 n) ∧ ∃ (g1 : GPut), #[Value.slice x.snd.fst (List.flatMap encL (List.take x.fst g.xs)).length x.snd.snd, Value.int IntKind.i32 n] = #[Value.slice g1.ad g1.vs.length g1.c, Value.int IntKind.i32 g1.r] ∧ (Made g1.W w' (5 : TypeId) (1 : Nat) g1.ad g1.vs.length (List.map (Value.int IntKind.u8) g1.vs) g1.c ∧ g1.vs.length ≤ (1073741824 : Nat)) ∧ ∀ (x1 : Option Addr × Nat × Nat) (w'1 : World), x1.snd.fst = (g1.vs ++ encL g1.r).length ∧ Made g1.W w'1 (5 : TypeId) (1 : Nat) x1.fst x1.snd.fst (List.map (Value.int IntKind.u8) (g1.vs ++ encL g1.r)) x1.snd.snd → InR IntKind.i64 ((↑x.fst : Int) + (1 : Int)) ∧ ∃ (y : Nat × Option Addr × Nat), Value.int IntKind.i64 ((↑x.fst : Int) + (1 : Int)) = Value.int IntKind.i64 (↑y.fst : Int) ∧ Value.slice x1.fst x1.snd.fst x1.snd.snd = Value.slice y.snd.fst (List.flatMap encL (List.take y.fst g.xs)).length y.snd.snd ∧ (y.fst ≤ g.xs.length ∧ Made w w'1 (5 : TypeId) (1 : Nat) y.snd.fst (List.flatMap encL (List.take y.fst g.xs)).length (List.map (Value.int IntKind.u8) (List.flatMap encL (List.take y.fst g.xs))) y.snd.snd) ∧ g.xs.length - y.fst < g.xs.length - x.fst) (∃ (str : ByteArray), BytesIn w' x.snd.fst (List.flatMap encL (List.take x.fst g.xs)).length str ∧ ∃ (x1 : ByteArray), Value.string str = Value.string x1 ∧ x1 = runesBytes g.xs ∧ Ext w w')) :
    ((sLS runesBytes)).Ok Tryd.prog 120 :=
  ok_of_vc (sLS runesBytes) annRText spRText (fun _ _ => rfl) (fun _ _ => rfl) hsp Tryd.func120 rfl (n := 1) (fun _ => rfl) (by kernel_rfl) (vcast (by kernel_rfl) h)

end Go.Proofs.YthpjkgoahneldaaDoor
end
