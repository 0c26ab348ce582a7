/-
  Texts joined by program: Qt, Qu, Qv, Qw, WkYa, SpXt.
-/
import Derived.Test.YtjdohhididpomaaGreatDoorWr21
import Derived.Test.YtjdohhididpomaaGreatDoorWr19
import Derived.Test.YtjdohhididpomaaGreatDoorWr20
set_option linter.unusedVariables false
set_option linter.unusedSimpArgs false

namespace Go.Proofs.YtjdohhididpomaaGreatDoor
section
open Go Vc Ut Tb Cl Orb
theorem dec_len : ∀ (k u : Nat), u < 10 ^ (k + 1) → (Lib.decDigits u).length ≤ k + 1
  | k, u, h => by
    rw [Lib.decDigits]
    by_cases h1 : u < 10
    · rw [dif_pos h1]; show 1 ≤ k + 1; omega
    · rw [dif_neg h1, List.length_append]
      cases k with
      | zero => omega
      | succ k =>
        have := dec_len k (u / 10) (by rw [Nat.pow_succ] at h; omega)
        show (Lib.decDigits (u / 10)).length + 1 ≤ _
        omega
theorem itoaZ {n : Int} (k : Nat) (h0 : 0 ≤ n) (h : n < ((10 ^ (k + 1) : Nat) : Int)) : (itoaB n).size ≤ k + 1 := by
  unfold itoaB Lib.itoa
  rw [if_neg (by omega)]
  show (Lib.decDigits n.toNat).toArray.size ≤ _
  rw [List.size_toArray]
  exact dec_len k n.toNat (by omega)
theorem nums_cons (f : Bool) (n : Int) (l : List Int) : (numsB f (n :: l)).size = (if f then 0 else 1) + (itoaB n).size + (numsB false l).size := by
  show ((if f then ⟨#[]⟩ else ⟨#[59]⟩) ++ itoaB n ++ numsB false l).size = _
  rw [ByteArray.size_append, ByteArray.size_append]
  cases f <;> rfl
theorem nums_app : ∀ (l m : List Int), (numsB false (l ++ m)).size = (numsB false l).size + (numsB false m).size
  | [], m => by
    show _ = 0 + _
    rw [Nat.zero_add]; rfl
  | n :: l, m => by rw [List.cons_append, nums_cons, nums_cons, nums_app l m]; simp only [Nat.add_assoc]
theorem sayZ (c : UInt8) (l : List Int) : (sayB c l).size = (numsB true l).size + 3 := by
  unfold sayB
  rw [ByteArray.size_append, ByteArray.size_append]
  show 2 + _ + 1 = _
  omega
theorem moveZ {t : Te} {i w h : Nat} (hw : t.w = w) (h1 : w ≤ 1024) (h2 : h ≤ 1024) (hi : i < w * h) : (moveT t (i : Int)).b.size ≤ t.b.size + 12 := by
  show (t.b ++ sayB 72 [(i : Int) / t.w + 1, (i : Int) % t.w + 1]).size ≤ _
  have hw0 := pos_w hi
  have e1 : (i : Int) / t.w = ((i / w : Nat) : Int) := by rw [hw, Int.natCast_ediv]
  have e2 : (i : Int) % t.w = ((i % w : Nat) : Int) := by rw [hw, Int.natCast_emod]
  have q1 : i / w < h := Nat.div_lt_of_lt_mul hi
  have q2 : i % w < w := Nat.mod_lt _ hw0
  rw [e1, e2, ByteArray.size_append, sayZ, nums_cons, nums_cons]
  generalize i / w = q at q1 ⊢
  generalize i % w = r at q2 ⊢
  have l1 := itoaZ (n := (q : Int) + 1) 3 (by omega) (by show _ < (10000 : Int); omega)
  have l2 := itoaZ (n := (r : Int) + 1) 3 (by omega) (by show _ < (10000 : Int); omega)
  have l3 : (numsB false []).size = 0 := rfl
  rw [if_pos rfl, if_neg (by decide)]
  omega
theorem flag_len (s : Nat) : (numsB false (flagL s)).size ≤ 8 := by
  have one : ∀ (c : Prop) [Decidable c] (n : Int), 0 ≤ n → n < 10 → (numsB false (if c then [n] else [])).size ≤ 2 := fun c _ n h0 h => by
    split
    · rw [nums_cons, if_neg (by decide)]
      have := itoaZ (n := n) 0 h0 (by show _ < (10 : Int); omega)
      have l3 : (numsB false []).size = 0 := rfl
      omega
    · exact Nat.zero_le _
  unfold flagL
  rw [nums_app, nums_app, nums_app]
  have h1 := one (s / 256 % 2 = 1) 1 (by decide) (by decide)
  have h2 := one (s / 512 % 2 = 1) 3 (by decide) (by decide)
  have h3 := one (s / 1024 % 2 = 1) 4 (by decide) (by decide)
  have h4 := one (s / 2048 % 2 = 1) 7 (by decide) (by decide)
  omega
theorem wearZ {t : Te} {s : Nat} (h : s < 65536) : (wearT t s).b.size ≤ t.b.size + 29 := by
  show (t.b ++ sayB 109 (wearN s)).size ≤ _
  have e : wearN s = 0 :: (flagL s ++ ((if s % 256 ≠ 0 then [38, 5, ((s % 256 : Nat) : Int)] else []) ++ (if s / 4096 ≠ 0 then [48, 5, ((s / 4096 : Nat) : Int)] else []))) := by
    unfold wearN; rw [wearA_flag]; simp
  rw [ByteArray.size_append, sayZ, e, nums_cons, nums_app, nums_app, if_pos rfl]
  have h0 := itoaZ (n := 0) 0 (by decide) (by decide)
  have h1 := flag_len s
  have three : ∀ (c : Prop) [Decidable c] (a n : Int) (k : Nat), 0 ≤ a → a < 100 → 0 ≤ n → n < ((10 ^ (k + 1) : Nat) : Int) → (numsB false (if c then [a, 5, n] else [])).size ≤ k + 7 := fun c _ a n k ha ha2 hn hn2 => by
    split
    · rw [nums_cons, nums_cons, nums_cons, if_neg (by decide)]
      have q1 := itoaZ (n := a) 1 ha (by show _ < (100 : Int); omega)
      have q2 := itoaZ (n := 5) 0 (by decide) (by decide)
      have q3 := itoaZ (n := n) k hn hn2
      have l3 : (numsB false []).size = 0 := rfl
      omega
    · exact Nat.zero_le _
  have h2 := three (s % 256 ≠ 0) 38 ((s % 256 : Nat) : Int) 2 (by decide) (by decide) (by omega) (by show _ < (1000 : Int); omega)
  have h3 := three (s / 4096 ≠ 0) 48 ((s / 4096 : Nat) : Int) 1 (by decide) (by decide) (by omega) (by show _ < (100 : Int); omega)
  omega
theorem tell_most {t : Te} {i w h : Nat} {c : Ce} (hw : t.w = w) (h1 : w ≤ 1024) (h2 : h ≤ 1024) (hi : i < w * h) (hs : c.st < 65536) : (tellT t (i : Int) c).b.size ≤ t.b.size + (60 + c.t.size) ∧ (tellT t (i : Int) c).w = t.w := by
  have a1 : (te1 t i).b.size ≤ t.b.size + 12 ∧ (te1 t i).w = t.w := by
    unfold te1; split
    · exact ⟨moveZ hw h1 h2 hi, rfl⟩
    · exact ⟨by omega, rfl⟩
  have a2 : (te2 (te1 t i) c.st).b.size ≤ (te1 t i).b.size + 29 ∧ (te2 (te1 t i) c.st).w = t.w := by
    unfold te2; split
    · exact ⟨wearZ hs, a1.2⟩
    · exact ⟨by omega, a1.2⟩
  have a3 : (te3 (te2 (te1 t i) c.st) i (txC c)).b.size ≤ (te2 (te1 t i) c.st).b.size + 12 ∧ (te3 (te2 (te1 t i) c.st) i (txC c)).w = t.w := by
    unfold te3; split
    · exact ⟨moveZ (a2.2.trans hw) h1 h2 hi, a2.2⟩
    · exact ⟨by omega, a2.2⟩
  have ht := tx_size c
  refine ⟨?_, a3.2⟩
  show ((te3 (te2 (te1 t i) c.st) i (txC c)).b ++ txC c).size ≤ _
  rw [ByteArray.size_append]
  omega
def costL (kn : Bool) (a b : List Ce) : Nat → Nat
  | 0 => 0
  | i + 1 => costL kn a b i + if kn && (decide (i < a.length) && alikeB (ceG a i) (ceG b i)) then 0 else 60 + (ceG b i).t.size
theorem half_no {a b : List Ce} {w i : Nat} {wd : Bool} (ha : okL a w wd) (hb : okL b w wd) (hl : a.length = b.length) (hi : i < b.length) (h : alikeB (ceG a i) (ceG b i) = true) : halfB a b i = false := by
  unfold halfB
  by_cases h1 : i + 1 < b.length
  rotate_left
  · rw [decide_eq_false h1]; rfl
  by_cases hp : (ceG b (i + 1)).p = 1
  rotate_left
  · rw [beq_eq_false_iff_ne.2 hp, Bool.false_and, Bool.and_false]
  obtain ⟨e1, e2, e3⟩ := alike_iff.1 h
  have hb1 := hb (i + 1) h1
  unfold okAt at hb1
  rw [if_pos hp, Nat.add_sub_cancel] at hb1
  obtain ⟨-, k1, k2⟩ := hb1
  have b2 := okAt_two (i := i) hb hi k1
  have a2 := okAt_two (i := i) ha (by omega) (e1.trans k1)
  rw [e3] at a2
  rcases b2 with b2 | b2
  · omega
  rcases a2 with a2 | a2
  · omega
  have tx1 : ∀ c : Ce, c.p = 1 → c.t.size = 0 → txC c = ⟨#[]⟩ := fun c hp hs => by
    unfold txC
    rw [if_neg (fun hh => by have := hh.1; rw [hp] at this; exact absurd this (by decide)), size_zero hs]
  rw [alike_iff.2 ⟨a2.2.2.2.1.trans b2.2.2.2.1.symm, by rw [a2.2.2.2.2.1, b2.2.2.2.2.1, e2], by rw [tx1 _ a2.2.2.2.1 a2.2.2.2.2.2, tx1 _ b2.2.2.2.1 b2.2.2.2.2.2]⟩]
  simp
theorem loop_most {kn : Bool} {a b : List Ce} {t0 : Te} {w h : Nat} {wd : Bool} (hw : t0.w = w) (h1 : w ≤ 1024) (h2 : h ≤ 1024) (hbl : b.length = w * h) (hb : okL b w wd) (hst : ∀ c ∈ b, c.st < 65536) (hk : kn = true → okL a w wd ∧ a.length = b.length) :
    ∀ i, i ≤ b.length → (loopT kn a b t0 i).b.size ≤ t0.b.size + costL kn a b i ∧ (loopT kn a b t0 i).w = w
  | 0, _ => ⟨Nat.le_refl _, hw⟩
  | i + 1, hi => by
    obtain ⟨k1, k2⟩ := loop_most hw h1 h2 hbl hb hst hk i (by omega)
    simp only [loopT, costL]
    by_cases hT : tellsB kn a b i = true
    · rw [if_pos hT]
      have hno : ¬ (kn && (decide (i < a.length) && alikeB (ceG a i) (ceG b i))) = true := by
        intro hh
        simp only [Bool.and_eq_true, decide_eq_true_eq] at hh
        obtain ⟨q1, q2, q3⟩ := hh
        obtain ⟨oa, hl⟩ := hk q1
        unfold tellsB at hT
        rw [q1, q3, half_no oa hb hl (by omega) q3] at hT
        simp at hT
      rw [if_neg hno]
      have := tell_most (t := loopT kn a b t0 i) (i := i) (c := ceG b i) k2 h1 h2 (by omega) (hst _ (ceG_mem (by omega)))
      exact ⟨by omega, this.2.trans k2⟩
    · rw [if_neg hT]
      exact ⟨by omega, k2⟩
theorem beg_most (kn : Bool) (b : Gr) (wd : Bool) : (begT kn b wd).b.size ≤ 60 ∧ (begT kn b wd).w = b.w := by
  have h1 := wearZ (t := ⟨⟨#[]⟩, -1, ⟨#[]⟩, 0, b.w, wd⟩) (s := 0) (by decide)
  have h2 : (wearT ⟨⟨#[]⟩, -1, ⟨#[]⟩, 0, b.w, wd⟩ 0).b.size ≤ 29 := by
    have : (ByteArray.mk #[]).size = 0 := rfl
    dsimp only at h1
    omega
  unfold begT
  cases kn
  · refine ⟨?_, rfl⟩
    show ((wearT ⟨⟨#[]⟩, -1, ⟨#[]⟩, 0, b.w, wd⟩ 0).b ++ sayB 74 [2]).size ≤ 60
    rw [ByteArray.size_append, sayZ, nums_cons, if_pos rfl]
    have q := itoaZ (n := 2) 0 (by decide) (by decide)
    have l3 : (numsB false []).size = 0 := rfl
    omega
  · exact ⟨by show (wearT ⟨⟨#[]⟩, -1, ⟨#[]⟩, 0, b.w, wd⟩ 0).b.size ≤ 60; omega, rfl⟩
theorem diff_most {a b : Gr} {wd : Bool} {s : ByteArray} (hst : ∀ c ∈ b.cs, c.st < 65536) (hD : diffB a b wd = some s) : s.size ≤ 100 + costL (knownG a b wd) a.cs b.cs b.cs.length := by
  unfold diffB at hD
  split at hD
  · cases hD
  rename_i hno
  have hb : rightB b wd = true := by
    cases h : rightB b wd
    · exact absurd (.inl h) hno
    · rfl
  have hD := Option.some.inj hD
  obtain ⟨b1, b2, b3, b4, b5, b6, b7⟩ := right_facts hb
  obtain ⟨w, hw⟩ : ∃ w : Nat, b.w = w := ⟨b.w.toNat, by omega⟩
  obtain ⟨h, hh⟩ : ∃ h : Nat, b.h = h := ⟨b.h.toNat, by omega⟩
  have hbl : b.cs.length = w * h := by
    rw [hw, hh, ← Int.natCast_mul] at b5
    omega
  have hokb : okL b.cs w wd := by
    rw [hw, Int.toNat_natCast] at b7
    exact rgt_iff.1 b7
  have hbeg := beg_most (knownG a b wd) b wd
  have hka : knownG a b wd = true → okL a.cs w wd ∧ a.cs.length = b.cs.length := fun hk => by
    unfold knownG at hk
    simp only [Bool.and_eq_true, beq_iff_eq] at hk
    obtain ⟨k1, k2, k3⟩ := hk
    obtain ⟨-, -, -, -, a5, -, a7⟩ := right_facts k1
    rw [k2, hw, Int.toNat_natCast] at a7
    rw [k2, k3, ← b5] at a5
    exact ⟨rgt_iff.1 a7, by omega⟩
  have hL := loop_most (kn := knownG a b wd) (a := a.cs) (b := b.cs) (t0 := begT (knownG a b wd) b wd) (hbeg.2.trans hw) (by omega) (by omega) hbl hokb hst hka b.cs.length (Nat.le_refl _)
  generalize loopT (knownG a b wd) a.cs b.cs (begT (knownG a b wd) b wd) b.cs.length = t at hD hL
  obtain ⟨l1, l2⟩ := hL
  unfold endT at hD
  by_cases hx : b.x < 0
  · rw [if_pos hx] at hD
    have hD : t.b ++ ⟨#[27, 91, 63, 50, 53, 108]⟩ = s := hD
    rw [← hD, ByteArray.size_append]
    have : (ByteArray.mk #[27, 91, 63, 50, 53, 108]).size = 6 := rfl
    omega
  · rw [if_neg hx] at hD
    have hcur : 0 ≤ b.x ∧ b.x < b.w ∧ 0 ≤ b.y ∧ b.y < b.h := by
      unfold curB at b6
      have b6 : (b.x = -1 ∧ b.y = -1) ∨ (0 ≤ b.x ∧ b.x < b.w ∧ 0 ≤ b.y ∧ b.y < b.h) := by
        simpa only [Bool.or_eq_true, Bool.and_eq_true, beq_iff_eq, decide_eq_true_eq] using b6
      rcases b6 with c | c
      · omega
      · exact c
    obtain ⟨x, hxe⟩ : ∃ x : Nat, b.x = x := ⟨b.x.toNat, by omega⟩
    obtain ⟨y, hye⟩ : ∃ y : Nat, b.y = y := ⟨b.y.toNat, by omega⟩
    have hlt : y * w + x < w * h := by
      have : (y + 1) * w ≤ h * w := Nat.mul_le_mul_right _ (by omega)
      rw [Nat.add_mul, Nat.one_mul, Nat.mul_comm h] at this
      omega
    have hi : b.y * t.w + b.x = ((y * w + x : Nat) : Int) := by
      rw [l2, hxe, hye, Int.natCast_add, Int.natCast_mul]
    have hm := moveZ (t := { t with b := t.b ++ ⟨#[27, 91, 63, 50, 53, 104]⟩ }) (i := y * w + x) (h := h) l2 (by omega) (by omega) hlt
    have hD : (moveT { t with b := t.b ++ ⟨#[27, 91, 63, 50, 53, 104]⟩ } (b.y * t.w + b.x)).b = s := hD
    rw [hi] at hD
    rw [hD] at hm
    have hm : s.size ≤ (t.b ++ ⟨#[27, 91, 63, 50, 53, 104]⟩).size + 12 := hm
    rw [ByteArray.size_append] at hm
    have : (ByteArray.mk #[27, 91, 63, 50, 53, 104]).size = 6 := rfl
    omega
end

section
open Go Vc Ut Tb Cl Orb
end

section
open Go Vc Ut Tb Cl Orb
def wkB : ByteArray := ⟨#[228, 184, 128, 228, 186, 140, 228, 184, 137]⟩
def wkG : Gs := feedG (newG 4 2 false) (fdR (⟨#[]⟩ ++ wkB))
def wcC (s : List UInt8) (p : Int) (st : Nat) : Ce := ⟨⟨s.toArray⟩, p, 0, 0, false, st⟩
theorem wk_is : wkG.cs = [wcC [228, 184, 128] 0 0, hlfC 0, wcC [228, 186, 140] 0 0, hlfC 0, wcC [228, 184, 137] 0 0, hlfC 0, blkC 0, blkC 0] ∧ wkG.x = 2 ∧ wkG.y = 1 ∧ wkG.hid = false ∧ wkG.stt = 0 ∧ fdH (⟨#[]⟩ ++ wkB) = ⟨#[]⟩ := by
  decide +kernel
def wkN : Gr := ⟨4, 2, [blkC 0, blkC 0, blkC 0, blkC 0, blkC 0, wcC [120] 0 263, blkC 0, blkC 0], 1, 1⟩
theorem wk_right : rightB wkN false = true := by decide +kernel
end

section
open Go Vc Ut Tb Cl Orb
theorem bul_cons (c : Ce) (l : List Ce) : bulkC (c :: l) = 1 + c.t.size + bulkC l := by simp [bulkC]
theorem bul_app : ∀ (l m : List Ce), bulkC (l ++ m) = bulkC l + bulkC m
  | [], m => by show bulkC m = 0 + bulkC m; omega
  | c :: l, m => by rw [List.cons_append, bul_cons, bul_cons, bul_app l m]; omega
theorem bul_rep (n st : Nat) : bulkC (List.replicate n (blkC st)) = n := by
  induction n with
  | zero => rfl
  | succ n ih => rw [List.replicate_succ, bul_cons, ih]; show 1 + 0 + n = n + 1; omega
theorem bul_len : ∀ l : List Ce, l.length ≤ bulkC l
  | [] => Nat.zero_le _
  | c :: l => by have := bul_len l; rw [bul_cons, List.length_cons]; omega
theorem bul_set : ∀ (l : List Ce) (i : Nat) (c : Ce), bulkC (l.set i c) ≤ bulkC l + c.t.size
  | [], _, _ => Nat.zero_le _
  | d :: l, 0, c => by rw [List.set_cons_zero, bul_cons, bul_cons]; omega
  | d :: l, i + 1, c => by have := bul_set l i c; rw [List.set_cons_succ, bul_cons, bul_cons]; omega
theorem bul_set_text : ∀ (l : List Ce) (i k : Nat) (c : Ce), c.t.size ≤ (ceG l i).t.size + k → bulkC (l.set i c) ≤ bulkC l + k
  | [], _, _, _, _ => Nat.zero_le _
  | d :: l, 0, k, c, h => by
    have h : c.t.size ≤ d.t.size + k := h
    rw [List.set_cons_zero, bul_cons, bul_cons]; omega
  | d :: l, i + 1, k, c, h => by
    have := bul_set_text l i k c h
    rw [List.set_cons_succ, bul_cons, bul_cons]; omega
theorem bul_lay (l : List Ce) (w i : Nat) (c : Ce) : bulkC (layL l w i c) ≤ bulkC l + c.t.size := by
  have hb : ∀ (j st : Nat), bulkC (l.set j (blkC st)) ≤ bulkC l := fun j st => bul_set l j (blkC st)
  unfold layL
  refine Nat.le_trans (bul_set _ _ _) (Nat.add_le_add_right ?_ _)
  split
  · exact hb _ _
  split
  · exact hb _ _
  · exact Nat.le_refl _
theorem bul_down (g : Gs) : bulkC (downG g).cs ≤ bulkC g.cs := by
  unfold downG
  split
  · exact Nat.le_refl _
  · show bulkC (g.cs.drop g.w ++ List.replicate (min g.w g.cs.length) (blkC 0)) ≤ _
    have h := bul_app (g.cs.take g.w) (g.cs.drop g.w)
    rw [List.take_append_drop] at h
    have h2 := bul_len (g.cs.take g.w)
    rw [List.length_take] at h2
    rw [bul_app, bul_rep]
    omega
theorem bul_back (g : Gs) : (backG g).cs = g.cs := by unfold backG; split <;> rfl
theorem ceG_ne {l : List Ce} {i j : Nat} {c : Ce} (h : i ≠ j) : ceG (l.set j c) i = ceG l i := by
  unfold ceG
  rw [List.getD_eq_getElem?_getD, List.getElem?_set, if_neg (fun e => h e.symm), List.getD_eq_getElem?_getD]
theorem lay_text {l : List Ce} {w j i k : Nat} {c X : Ce} (hc : c.t.size = 0) (hij : i ≠ j) (ht : X.t.size ≤ (ceG l i).t.size + k) : bulkC ((layL l w j c).set i X) ≤ bulkC l + k := by
  have hs : ∀ (m : List Ce) (x : Nat) (d : Ce), d.t.size = 0 → bulkC (m.set x d) ≤ bulkC m := fun m x d hd => by have := bul_set m x d; omega
  have key : ∀ m : List Ce, bulkC m ≤ bulkC l → ceG m i = ceG l i → bulkC ((m.set j c).set i X) ≤ bulkC l + k := fun m hm he => by
    have h1 := bul_set_text (m.set j c) i k X (by rw [ceG_ne hij, he]; exact ht)
    have h2 := hs m j c hc
    omega
  have key2 : ∀ (x : Nat) (d : Ce), d.t.size = 0 → bulkC (((l.set x d).set j c).set i X) ≤ bulkC l + k := fun x d hd => by
    by_cases e : i = x
    · subst e
      rw [List.set_comm _ _ (fun e => hij e.symm), List.set_set, List.set_comm _ _ hij]
      exact key l (Nat.le_refl _) rfl
    · exact key _ (hs l x d hd) (ceG_ne e)
  unfold layL
  split
  · exact key2 _ _ rfl
  split
  · exact key2 _ _ rfl
  · exact key l (Nat.le_refl _) rfl
theorem bul_join {g g' : Gs} {r : Int} (h : joinG g r = some g') : bulkC g'.cs ≤ bulkC g.cs + 20 := by
  unfold joinG at h
  have he := enc1_len r
  have ht : ∀ c : Ce, (txC c ++ enc1 r).size ≤ c.t.size + 5 := fun c => by
    have := tx_size c
    rw [ByteArray.size_append]; omega
  split at h
  · cases h
  split at h
  · cases h
  split at h
  · split at h
    · rw [← Option.some.inj h]; show bulkC g.cs ≤ _; omega
    · rw [← Option.some.inj h]
      show bulkC ((layL g.cs g.w g.last (hlfC (ceG g.cs (g.last - 1)).st)).set (g.last - 1) _) ≤ _
      exact Nat.le_trans (lay_text (l := g.cs) (w := g.w) (j := g.last) (i := g.last - 1) (k := 5) rfl (by omega) (ht _)) (by omega)
  · rw [← Option.some.inj h]
    have := bul_set_text g.cs (g.last - 1) 5 { ceG g.cs (g.last - 1) with t := txC (ceG g.cs (g.last - 1)) ++ enc1 r } (ht _)
    show bulkC (g.cs.set (g.last - 1) _) ≤ _
    omega
theorem bul_layG (g : Gs) (s : ByteArray) (n : Nat) : bulkC (layG g s n).cs ≤ bulkC g.cs + s.size := by
  unfold layG
  dsimp only
  have h1 : bulkC (if n = 2 then layL g.cs g.w (g.y * g.w + g.x + 1) (blkC g.sty) else g.cs) ≤ bulkC g.cs := by
    split
    · exact bul_lay _ _ _ _
    · exact Nat.le_refl _
  generalize (if n = 2 then layL g.cs g.w (g.y * g.w + g.x + 1) (blkC g.sty) else g.cs) = c1 at h1 ⊢
  have h2 := bul_lay c1 g.w (g.y * g.w + g.x) ⟨s, 0, 0, 0, false, g.sty⟩
  have h2 : bulkC (layL c1 g.w (g.y * g.w + g.x) ⟨s, 0, 0, 0, false, g.sty⟩) ≤ bulkC c1 + s.size := h2
  generalize layL c1 g.w (g.y * g.w + g.x) ⟨s, 0, 0, 0, false, g.sty⟩ = c2 at h2 ⊢
  split
  · exact Nat.le_trans (bul_set_text c2 (g.y * g.w + g.x + 1) 0 { ceG c2 (g.y * g.w + g.x + 1) with p := 1 } (Nat.le_refl _)) (by omega)
  · omega
theorem bul_put (g : Gs) (r : Int) : bulkC (putG g r).cs ≤ bulkC g.cs + 20 := by
  unfold putG
  split
  · rename_i g' hj; exact bul_join hj
  dsimp only
  split
  · show bulkC g.cs ≤ _; omega
  · rename_i hn
    have hs : (textC (enc1 r) 0 (lkW g.wd)).1.size ≤ 20 := by
      have := text_size (enc1 r) 0 (lkW g.wd)
      have h4 := enc1_len r
      omega
    refine Nat.le_trans (bul_layG _ _ _) (Nat.add_le_add ?_ hs)
    split
    · exact bul_down _
    · exact Nat.le_refl _
theorem bul_take (g : Gs) (r : Int) : bulkC (takeG g r).cs ≤ bulkC g.cs + 20 := by
  have hfree : ∀ g : Gs, bulkC (freeG g r).cs ≤ bulkC g.cs + 20 := fun g => by
    unfold freeG
    split
    · exact bul_put g r
    split
    · show bulkC g.cs ≤ _; omega
    split
    · show bulkC g.cs ≤ _; omega
    split
    · have h1 := bul_down (backG { g with last := 0 })
      rw [bul_back] at h1
      have h1 : bulkC (downG (backG { g with last := 0 })).cs ≤ bulkC g.cs := h1
      omega
    · show bulkC g.cs ≤ _; omega
  have hh := held_f g
  have hcs : (heldG g).cs = g.cs := hh.2.2.2.2.2.2
  unfold takeG
  split
  · split <;> (show bulkC g.cs ≤ _; omega)
  split
  · show bulkC (if 32 ≤ r ∧ r ≤ 63 then holdG (heldG g) r (decide (g.num = [])) else if 64 ≤ r ∧ r ≤ 126 then doesG { heldG g with stt := 0 } r else freeG { heldG g with stt := 0 } r).cs ≤ _
    split
    · have : (holdG (heldG g) r (decide (g.num = []))).cs = g.cs := by
        rw [← hcs]
        unfold holdG
        split
        · rfl
        split
        · rfl
        split <;> rfl
      rw [this]; omega
    split
    · have : bulkC (doesG { heldG g with stt := 0 } r).cs ≤ bulkC g.cs := by
        rw [← hcs]
        unfold doesG
        split
        · exact Nat.le_refl _
        split
        · split <;> exact Nat.le_refl _
        split
        · exact Nat.le_refl _
        split
        · rw [bul_back]
          show bulkC (List.replicate (heldG g).cs.length (blkC 0)) ≤ _
          rw [bul_rep]; exact bul_len _
        split <;> exact Nat.le_refl _
      omega
    · have := hfree { heldG g with stt := 0 }
      have : bulkC (freeG { heldG g with stt := 0 } r).cs ≤ bulkC (heldG g).cs + 20 := this
      rw [hcs] at this; exact this
  · exact hfree g
theorem bul_feed : ∀ (l : List Int) (g : Gs), bulkC (feedG g l).cs ≤ bulkC g.cs + 20 * l.length
  | [], g => Nat.le_refl _
  | r :: l, g => by
    have h1 := bul_take g r
    have h2 := bul_feed l (takeG g r)
    rw [List.length_cons, feed_cons]
    omega
theorem cost_le (kn : Bool) (a b : List Ce) : ∀ i, i ≤ b.length → costL kn a b i ≤ 60 * bulkC (b.take i)
  | 0, _ => Nat.zero_le _
  | i + 1, hi => by
    have ih := cost_le kn a b i (by omega)
    have hb : b.take (i + 1) = b.take i ++ [ceG b i] := by rw [List.take_add_one, List.getElem?_eq_getElem (by omega), ceG_lt (by omega)]; rfl
    rw [hb, bul_app, bul_cons]
    show costL kn a b i + _ ≤ _
    split <;> omega
theorem diff_size {a b : Gr} {wd : Bool} {s : ByteArray} (hst : ∀ c ∈ b.cs, c.st < 65536) (hD : diffB a b wd = some s) : s.size ≤ 100 + 60 * bulkC b.cs := by
  have h1 := diff_most hst hD
  have h2 := cost_le (knownG a b wd) a.cs b.cs b.cs.length (Nat.le_refl _)
  rw [List.take_length] at h2
  omega
theorem alike_refl (c : Ce) : alikeB c c = true := alike_iff.2 ⟨rfl, rfl, rfl⟩
theorem same_refl (g : Gr) : sameB g g = true := by
  rw [same_is rfl rfl rfl rfl]
  exact sam_iff.2 ⟨rfl, fun j _ => alike_refl _⟩
end

section
open Go Go.RowKit Vc Ut Tb Cl Orb
theorem UP.ext {w w' : World} (h : UP w) (hx : Ext w w') : UP w' :=
  ⟨fun w'' h' => h.1 w'' (Below.trans hx (h'.mono hx.size)), fun w'' h' => h.2 w'' (Below.trans hx (h'.mono hx.size))⟩
theorem UP.ud {w : World} (h : UP w) : UD w := h.1 w (Below.refl _ _)
theorem cells_at {w : World} {b : Nat} {cs : Array Value} {t : TypeId} {m : Nat × Nat} (h : w.heap[b]? = some (.cells cs t m)) : CellsAt w (some ⟨b, 0, none⟩) cs.toList :=
  .inr ⟨b, 0, rfl, fun j v hj => by rw [Nat.zero_add, cell_of_heap h, ← Array.getElem?_toList]; exact hj⟩
theorem mark_ext {w0 w w1 : World} {b : Nat} (h : Marked w b w1) (hx : Ext w0 w) (hb : w0.heap.size ≤ b) : Ext w0 w1 := Below.trans hx (h.below _ hb)
structure GlAt (w : World) (A : GlP) (g : Gs) (m : Nat) (ha : Option Addr) (hc : Nat) (h : ByteArray) : Prop where
  gl : GlIn w A g
  ok : okG g m
  rd : GlRd w A ha hc h
theorem GlAt.lt {w : World} {A : GlP} {g : Gs} {m hc : Nat} {ha : Option Addr} {h : ByteArray} (k : GlAt w A g m ha hc h) : ∀ q, ownR A ha h q → A.B ≤ q ∧ q < w.heap.size := by
  rintro q (hq | hq)
  · exact ⟨k.gl.bq q hq, k.gl.lt q hq⟩
  · have := k.rd.far q hq
    exact ⟨this.1, this.2.1⟩
theorem GlAt.keep {S : Nat → Prop} {w w' : World} {A : GlP} {g : Gs} {m hc : Nat} {ha : Option Addr} {h : ByteArray} (k : GlAt w A g m ha hc h) (hf : Fr S w w') (hS : ∀ q, S q → A.B ≤ q ∧ ¬ ownR A ha h q) : GlAt w' A g m ha hc h :=
  ⟨k.gl.fr hf (fun q hq => ⟨(hS q hq).1, fun hh => (hS q hq).2 (.inl hh)⟩), k.ok,
    ⟨k.rd.rd.fr hf (fun hq => (hS _ hq).2 (.inr (.inl rfl))) (fun q hq h0 hS' => (hS q hS').2 (.inr (.inr ⟨hq, h0⟩))), k.rd.sm, fun q hq => by
      have := k.rd.far q hq
      exact ⟨this.1, Nat.lt_of_lt_of_le this.2.1 hf.size, this.2.2⟩⟩⟩
theorem GlAt.ext {w w' : World} {A : GlP} {g : Gs} {m hc : Nat} {ha : Option Addr} {h : ByteArray} (k : GlAt w A g m ha hc h) (hx : Ext w w') : GlAt w' A g m ha hc h :=
  k.keep (S := fun _ => False) (Fr.of_ext hx) (fun _ hq => hq.elim)
theorem GlAt.fed {w w' : World} {A A' : GlP} {g : Gs} {m hc hc' : Nat} {ha ha' : Option Addr} {h b : ByteArray} (k : GlAt w A g m ha hc h) (hF : FdOut w w' A ha h A' ha' hc' (feedG g (fdR (h ++ b))) (fdH (h ++ b))) : GlAt w' A' (feedG g (fdR (h ++ b))) (m + (fdR (h ++ b)).length) ha' hc' (fdH (h ++ b)) :=
  ⟨hF.is, ok_feed _ k.ok, hF.rd⟩
theorem GlAt.up {w : World} {A : GlP} {g : Gs} {m n hc : Nat} {ha : Option Addr} {h : ByteArray} (k : GlAt w A g m ha hc h) (hm : m ≤ n) : GlAt w A g n ha hc h := ⟨k.gl, k.ok.mono hm, k.rd⟩
theorem step_ext {S S' : Nat → Prop} {w0 w w' : World} (h : Step S w w' S') (hx : Ext w0 w) (hS : ∀ q, S q → w0.heap.size ≤ q) : Ext w0 w' :=
  Below.trans hx (h.fr.below hx.size (fun q hq hh => by have := hS q hh; omega))
theorem newK_ok : sNewK.Ok Tryz.prog 14 := by
  rintro ⟨W, H, wd⟩ w ⟨hu, h1, h2⟩
  dsimp only at h1 h2
  refine (newG_ok ((W : Int), (H : Int), wd) w hu).mono fun e w' ⟨x, he, ⟨hx, _, hk⟩, hko⟩ => ?_
  obtain ⟨k1, k2, k3, k4, k5⟩ := hk (decide_eq_true (show (0 : Int) ≤ (W : Int) ∧ (W : Int) ≤ 1024 ∧ (0 : Int) ≤ (H : Int) ∧ (H : Int) ≤ 1024 by omega))
  refine ⟨x.A, ?_, ⟨hx, k3, k4, k5⟩, hko⟩
  rw [he]
  show Ending.returned (Value.tuple #[.pointer x.p, .int .i64 x.e]) = _
  rw [k1, k2]; rfl
theorem made_none {w w' : World} {a : Option Addr} {n c : Nat} (h : Made w w' 5 1 a n (bytesV ((none : Option ByteArray).getD ⟨#[]⟩)) c) : n = 0 := by
  have h1 : ([] : List Value).length = n * 1 := h.row.1
  rw [List.length_nil] at h1; omega
set_option maxRecDepth 8000 in
theorem worksX_ok : sWorksX.Ok Tryz.prog 7 := by
  refine worksX_vc ⟨newK_ok, feedG_ok, gridG_ok, rightW_ok, diff_ok, sameW_ok, trivial⟩ ?_
  rintro ⟨⟩ w hU
  refine ⟨(4, 2, false), rfl, ⟨hU.1, by decide, by decide⟩, ?_⟩
  rintro A w1 ⟨hx1, hB, hG1, hR1⟩
  dsimp only at hG1
  refine ⟨⟨(), rfl⟩, ?_⟩
  rintro _ - w1' h1
  replace h1 := h1.symm; subst h1
  intro b w2 hn2 w3 hm3
  have z2 := hn2.size
  have hx13 : Ext w1 w3 := mark_ext hm3 hn2.ext (by omega)
  have hA1 : GlAt w1 A (newG 4 2 false) 0 none 0 ⟨#[]⟩ := ⟨hG1, ok_new (by decide) (by decide) false, hR1⟩
  have hA3 := hA1.ext hx13
  have hx3 := Ext.trans hx1 hx13
  obtain ⟨m', hb3⟩ := hm3.at_ _ _ _ hn2.heap
  have hc3 : CellsAt w3 (some ⟨b, 0, none⟩) (bytesV wkB) := cells_at hb3
  refine ⟨⟨A, newG 4 2 false, 0, none, 0, ⟨#[]⟩, some ⟨b, 0, none⟩, 9, wkB⟩, rfl, ⟨hA3.gl, hA3.ok, hA3.rd, hc3, by show (9 : Nat) ≤ 67108864; decide, by show 0 + 3 + 9 ≤ 549755813888; decide⟩, ?_⟩
  rintro ⟨A4, ha4, hc4⟩ w4 hF
  dsimp only at hF
  have hA4 := hA3.fed hF
  have hp4 : A4.p = A.p := hF.p
  have hB4 : A4.B = w.heap.size := hF.b.trans hB
  have hx4 : Ext w w4 := step_ext hF.st hx3 (fun q hq => by have := (hA3.lt q hq).1; omega)
  have hlen : (fdR (⟨#[]⟩ ++ wkB)).length ≤ 9 := fdR_len _
  obtain ⟨e1, e2, e3, e4, e5, e6⟩ := wk_is
  have hA4 : GlAt w4 A4 wkG 9 ha4 hc4 ⟨#[]⟩ := by
    have := hA4.up (n := 9) (by omega)
    rw [e6] at this
    exact this
  have hwd : wkG.wd = false ∧ wkG.w = 4 ∧ wkG.h = 2 := by
    have := feed_f (fdR (⟨#[]⟩ ++ wkB)) (newG 4 2 false)
    exact ⟨this.2.2, this.1, this.2.1⟩
  clear hF hA3 hc3
  generalize wkG = G at e1 e2 e3 e4 e5 hA4 hwd
  obtain ⟨gd, gw, gh⟩ := hwd
  have gl : G.cs.length = 8 := by rw [e1]; rfl
  refine ⟨⟨A4, G⟩, by rw [hp4], ⟨hA4.gl, hA4.ok.fit (by decide)⟩, ?_⟩
  rintro ⟨⟨a5, c5⟩, gr⟩ w5 ⟨hgr, hm5⟩
  dsimp only at hgr hm5
  subst hgr
  intro b1 w6 hn6
  have z6 := hn6.size
  have hx46 : Ext w4 w6 := Ext.trans hm5.ext hn6.ext
  have hx6 := Ext.trans hx4 hx46
  have hA6 := hA4.ext hx46
  have hbx := hn6.heap
  have hcs6 : CellsAt w6 a5 (flat G.cs) := hm5.row.cells.ext hn6.ext
  have hbk : bulkC G.cs ≤ 100 := by rw [e1]; decide
  have hgx : (gridG G).x = 2 := by rw [grid_x, if_pos ⟨e4, by rw [e1]; simp⟩, e2, gw]; rfl
  have hgy : (gridG G).y = 1 := by rw [grid_y, if_pos ⟨e4, by rw [e1]; simp⟩, e3]; rfl
  have c0 : (ceG G.cs 0).t = ⟨#[228, 184, 128]⟩ := by rw [e1]; rfl
  have c1 : (ceG G.cs 1).p = 1 := by rw [e1]; rfl
  have c4 : (ceG G.cs 4).t = ⟨#[228, 184, 137]⟩ := by rw [e1]; rfl
  have hright : rightB (gridG G) false = true := by have := grid_right hA4.ok; rw [gd] at this; exact this
  refine ⟨⟨_, _, _, (cell_of_heap hbx 2).trans rfl, bcase_mk (fun h => ?_) (fun _ => ⟨_, _, _, (cell_of_heap hbx 2).trans rfl, 0, rfl, by rw [show (gridG G).cs = G.cs from rfl]; omega, hcs6.ce (i := 0) (by omega) fun b2 o hc => ⟨_, hc.1, bcase_mk (fun h => ?_) (fun _ => ⟨_, _, _, (cell_of_heap hbx 2).trans rfl, 1, rfl, by rw [show (gridG G).cs = G.cs from rfl]; omega, hcs6.ce (i := 1) (by omega) fun b3 o1 hc1 => ⟨_, hc1.2.1, bcase_mk (fun h => ?_) (fun _ => ⟨_, _, _, (cell_of_heap hbx 2).trans rfl, 4, rfl, by rw [show (gridG G).cs = G.cs from rfl]; omega, hcs6.ce (i := 4) (by omega) fun b4 o2 hc2 => ⟨_, hc2.1, bcase_mk (fun h => ?_) (fun _ => ⟨_, (cell_of_heap hbx 3).trans rfl, bcase_mk (fun h => ?_) (fun _ => ⟨_, (cell_of_heap hbx 4).trans rfl, bcase_mk (fun h => ?_) (fun _ => ⟨_, (cell_of_heap hbx 0).trans rfl, _, (cell_of_heap hbx 1).trans rfl, _, _, _, (cell_of_heap hbx 2).trans rfl, _, (cell_of_heap hbx 3).trans rfl, _, (cell_of_heap hbx 4).trans rfl, ⟨a5, c5, gridG G, false⟩, rfl, ⟨(hU.ext hx6).ud, hcs6, by show bulkC G.cs ≤ _; omega⟩, fun x3 w7 ⟨hx3', hx7⟩ => bcase_mk (fun h => ?_) (fun _ => ⟨(), hx7⟩)⟩)⟩)⟩)⟩⟩)⟩⟩)⟩⟩)⟩, ?_⟩
  · rw [show (gridG G).cs = G.cs from rfl, gl] at h; exact absurd h (by decide)
  · rw [c0] at h; simp at h
  · rw [c1] at h; exact absurd h (by decide)
  · rw [c4] at h; simp at h
  · rw [hgx] at h; exact absurd h (by decide)
  · rw [hgy] at h; exact absurd h (by decide)
  · dsimp only at hx3'
    rw [hx3', hright] at h; cases h
  rintro _ - w7 hx67
  have hx7 := Ext.trans hx6 hx67
  refine ⟨8, 8, rfl, rfl, by decide, by decide, by decide, fun b2 w8 hn8 b3 w9 hn9 => ?_⟩
  have z8 := hn8.size; have z9 := hn9.size
  have hmk : (mkRow (ceV (blkC 0)).toArray 8).size = 8 * 6 := by
    have := congrArg List.length (mkRow_flc 8)
    rw [Array.length_toList, flc_len, List.length_replicate] at this
    exact this
  have hrow : Row w8 52 6 (some ⟨b2, 0, none⟩) 8 ((mkRow (ceV (blkC 0)).toArray 8).toList.take (8 * 6)) 8 := Row.made (n := 8) (s := 6) hn8 (Nat.le_refl _) (by decide) hmk
  rw [mkRow_flc, List.take_of_length_le (by rw [flc_len, List.length_replicate]; exact Nat.le_refl _)] at hrow
  have hrow9 := hrow.ext hn9.ext
  have hx79 : Ext w7 w9 := Ext.trans hn8.ext hn9.ext
  refine ⟨_, _, _, (cell_of_heap hn9.heap 2).trans rfl, 5, rfl, by decide, hrow9.setCe (i := 5) (by decide) (wcC [120] 0 263) fun w10 hr10 hf10 => ?_⟩
  have hcn : CellsAt w10 (some ⟨b2, 0, none⟩) (flat wkN.cs) := hr10.cells
  have hb3' : w10.heap[b3]? = _ := (hf10.block b3 (heap_lt hn9.heap) (by omega)).trans hn9.heap
  have hb1' : w10.heap[b1]? = _ := (hf10.block b1 (Nat.lt_of_lt_of_le (heap_lt hbx) (Nat.le_trans hx67.size hx79.size)) (by have := hx67.size; omega)).trans (Ext.heap hx79 (Ext.heap hx67 hbx))
  have hx7_10 : Below w7.heap.size w7 w10 := Below.trans hx79 (hf10.below hx79.size (fun q hq hh => by omega))
  have hx10 : Ext w w10 := Ext.trans hx7 hx7_10
  have hx6_10 : Ext w6 w10 := Ext.trans hx67 hx7_10
  have hA10 := hA6.ext hx6_10
  have hcs10 := hcs6.ext hx6_10
  have hU10 := hU.ext hx10
  have hbn : bulkC wkN.cs ≤ 100 := by decide
  have hstn : ∀ c ∈ wkN.cs, c.st < 65536 := by decide
  refine ⟨_, (cell_of_heap hb1' 0).trans rfl, _, (cell_of_heap hb1' 1).trans rfl, _, _, _, (cell_of_heap hb1' 2).trans rfl, _, (cell_of_heap hb1' 3).trans rfl, _, (cell_of_heap hb1' 4).trans rfl, _, (cell_of_heap hb3' 0).trans rfl, _, (cell_of_heap hb3' 1).trans rfl, _, _, _, (cell_of_heap hb3' 2).trans rfl, _, (cell_of_heap hb3' 3).trans rfl, _, (cell_of_heap hb3' 4).trans rfl, ⟨a5, c5, gridG G, some ⟨b2, 0, none⟩, 8, wkN, false⟩, rfl, ⟨hU10.1, hU10.2, ⟨hcs10, by show bulkC G.cs ≤ _; omega⟩, ⟨hcn, by show bulkC wkN.cs ≤ _; omega⟩, by show bulkC G.cs ≤ _; omega, by show bulkC wkN.cs ≤ _; omega, hstn⟩, ?_⟩
  rintro ⟨a11, n11, c11⟩ w11 hm11
  dsimp only at hm11
  have hns : sameB (gridG G) wkN = false := by
    cases h : sameB (gridG G) wkN with
    | false => rfl
    | true =>
      unfold sameB at h
      simp only [Bool.and_eq_true, beq_iff_eq] at h
      have := h.2.2.1
      rw [hgx] at this
      exact absurd this (by decide)
  obtain ⟨s, hs⟩ : ∃ s, diffB (gridG G) wkN false = some s := by
    unfold diffB
    rw [if_neg (fun hh => by
      rcases hh with hh | hh
      · rw [wk_right] at hh; cases hh
      · rw [hns] at hh; cases hh.2)]
    exact ⟨_, rfl⟩
  rw [hs] at hm11
  have hm11 : Made w10 w11 5 1 a11 n11 (bytesV s) c11 := hm11
  have hsz := diff_size hstn hs
  have hn11 : n11 = s.size := by
    have := hm11.row.1
    unfold bytesV at this
    rw [List.length_map, Array.length_toList] at this
    have e : s.size = s.data.size := rfl
    omega
  subst hn11
  have hA11 := hA10.ext hm11.ext
  obtain ⟨v1, v2, v3⟩ := diff_shows (g0 := G) (a := gridG G) (b := wkN) (wd := false) hA11.ok e5 gd.symm (by rw [gw]; rfl) (by rw [gh]; rfl) wk_right hstn (fun _ => sam_iff.2 ⟨rfl, fun j _ => alike_refl _⟩) hs
  have hfd := fd_valid v1
  have hes : (⟨#[]⟩ : ByteArray) ++ s = s := ByteArray.empty_append
  refine ⟨⟨A4, G, 9, ha4, hc4, ⟨#[]⟩, a11, c11, s⟩, by rw [hp4], ⟨hA11.gl, hA11.ok, hA11.rd, hm11.row.cells, by dsimp only; omega, by dsimp only; omega⟩, ?_⟩
  rintro ⟨A12, ha12, hc12⟩ w12 hF
  dsimp only at hF
  have hA12 := hA11.fed hF
  have hp12 : A12.p = A.p := hF.p.trans hp4
  have hlt11 : ∀ q, ownR A4 ha4 ⟨#[]⟩ q → q < w6.heap.size := fun q hq => (hA6.lt q hq).2
  have hb3_12 : w12.heap[b3]? = _ := (hF.st.fr.block b3 (heap_lt (Ext.heap hm11.ext hb3')) (fun hh => by have := hlt11 b3 hh; have := hx67.size; omega)).trans (Ext.heap hm11.ext hb3')
  have hb1_12 : w12.heap[b1]? = _ := (hF.st.fr.block b1 (heap_lt (Ext.heap hm11.ext hb1')) (fun hh => by have := (hA4.lt b1 hh).2; have := hm5.ext.size; omega)).trans (Ext.heap hm11.ext hb1')
  have hcn12 : CellsAt w12 (some ⟨b2, 0, none⟩) (flat wkN.cs) := (hcn.ext hm11.ext).fr hF.st.fr (fun q hq hh => by have e : b2 = q := Option.some.inj hq; have := hlt11 q hh; have := hx67.size; omega)
  have hcs12 : CellsAt w12 a5 (flat G.cs) := (hcs10.ext hm11.ext).fr hF.st.fr (fun q hq hh => by have := hm5.new q hq; have := (hA4.lt q hh).2; omega)
  have hx11 := Ext.trans hx10 hm11.ext
  have hx12 : Ext w w12 := step_ext hF.st hx11 (fun q hq => by have := (hA11.lt q hq).1; omega)
  intro w13 hd13
  have hA13 := hA12.ext hd13.ext
  rw [hes, hfd.1] at hA13
  generalize hG2 : feedG G (runes s) = G2 at hA13 v2 v3
  have hlf := fdR_len (⟨#[]⟩ ++ s)
  rw [hes, hfd.1] at hlf
  refine ⟨_, (cell_of_heap hb3_12 0).trans rfl, _, (cell_of_heap hb3_12 1).trans rfl, _, _, _, (cell_of_heap hb3_12 2).trans rfl, _, (cell_of_heap hb3_12 3).trans rfl, _, (cell_of_heap hb3_12 4).trans rfl, ⟨A12, G2⟩, by rw [hp12], ⟨hA13.gl, hA13.ok.fit (by omega)⟩, ?_⟩
  rintro ⟨⟨a14, c14⟩, gr⟩ w14 ⟨hgr, hm14⟩
  dsimp only at hgr hm14
  subst hgr
  have hx12_14 : Ext w12 w14 := Ext.trans hd13.ext hm14.ext
  have hbG : bulkC G2.cs ≤ 67108864 := by
    have := bul_feed (runes s) G
    rw [hG2] at this
    omega
  have hbx14 := Ext.heap hx12_14 hb1_12
  have hby14 := Ext.heap hx12_14 hb3_12
  refine ⟨hm14.ext, ⟨a14, c14, gridG G2, some ⟨b2, 0, none⟩, 8, wkN⟩, rfl, ⟨⟨hm14.row.cells, hbG⟩, ⟨hcn12.ext hx12_14, by show bulkC wkN.cs ≤ _; omega⟩⟩, ?_⟩
  rintro x6 w15 ⟨hx6', hx15⟩
  dsimp only at hx6'
  rw [v2] at hx6'
  subst hx6'
  have hx12_15 : Ext w12 w15 := Ext.trans hx12_14 hx15
  have hbx15 := Ext.heap hx15 hbx14
  have hby15 := Ext.heap hx15 hby14
  have hU15 := hU.ext (Ext.trans hx12 hx12_15)
  refine bcase_mk (fun _ => ?_) (fun h => by cases h)
  refine ⟨_, (cell_of_heap hbx15 0).trans rfl, _, (cell_of_heap hbx15 1).trans rfl, _, _, _, (cell_of_heap hbx15 2).trans rfl, _, (cell_of_heap hbx15 3).trans rfl, _, (cell_of_heap hbx15 4).trans rfl, _, (cell_of_heap hby15 0).trans rfl, _, (cell_of_heap hby15 1).trans rfl, _, _, _, (cell_of_heap hby15 2).trans rfl, _, (cell_of_heap hby15 3).trans rfl, _, (cell_of_heap hby15 4).trans rfl, ⟨a5, c5, gridG G, some ⟨b2, 0, none⟩, 8, wkN⟩, rfl, ⟨⟨hcs12.ext hx12_15, by show bulkC G.cs ≤ _; omega⟩, ⟨hcn12.ext hx12_15, by show bulkC wkN.cs ≤ _; omega⟩⟩, ?_⟩
  rintro x7 w16 ⟨hx7', hx16⟩
  dsimp only at hx7'
  rw [hns] at hx7'
  subst hx7'
  refine bcase_mk (fun _ => ?_) (fun h => by cases h)
  have hby16 := Ext.heap hx16 hby15
  have hx12_16 : Ext w12 w16 := Ext.trans hx12_15 hx16
  have hU16 := hU15.ext hx16
  have hcn16 := hcn12.ext hx12_16
  refine ⟨_, (cell_of_heap hby16 0).trans rfl, _, (cell_of_heap hby16 1).trans rfl, _, _, _, (cell_of_heap hby16 2).trans rfl, _, (cell_of_heap hby16 3).trans rfl, _, (cell_of_heap hby16 4).trans rfl, _, (cell_of_heap hby16 0).trans rfl, _, (cell_of_heap hby16 1).trans rfl, _, _, _, (cell_of_heap hby16 2).trans rfl, _, (cell_of_heap hby16 3).trans rfl, _, (cell_of_heap hby16 4).trans rfl, ⟨some ⟨b2, 0, none⟩, 8, wkN, some ⟨b2, 0, none⟩, 8, wkN, false⟩, rfl, ⟨hU16.1, hU16.2, ⟨hcn16, by show bulkC wkN.cs ≤ _; omega⟩, ⟨hcn16, by show bulkC wkN.cs ≤ _; omega⟩, by show bulkC wkN.cs ≤ _; omega, by show bulkC wkN.cs ≤ _; omega, hstn⟩, ?_⟩
  rintro ⟨a17, n17, c17⟩ w17 hm17
  dsimp only at hm17
  have hn : diffB wkN wkN false = none := by
    unfold diffB
    rw [if_pos (.inr ⟨wk_right, same_refl wkN⟩)]
  rw [hn] at hm17
  have hn17 := made_none hm17
  subst hn17
  exact ⟨(), rfl, Ext.trans (Ext.trans hx12 hx12_16) hm17.ext⟩
end

section
open Go Go.RowKit Vc Ut Tb Cl
structure GrE where
  ad : Option Addr
  c : Nat
  g : Gr
def grV (e : GrE) : List Value := [.int .i64 e.g.w, .int .i64 e.g.h, .slice e.ad e.g.cs.length e.c, .int .i64 e.g.x, .int .i64 e.g.y]
def boxE (w : World) (b : Nat) (e : GrE) : Prop := w.heap[b]? = some (.cells (grV e).toArray 24)
end
end Go.Proofs.YtjdohhididpomaaGreatDoor
