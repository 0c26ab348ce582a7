/-
  Chapter 2: the document's stretches; stretches held against one another.
-/
import Derived.Test.YtlklgngdagebfaaWkD
set_option linter.unusedVariables false
set_option linter.unusedSimpArgs false
namespace Go.Proofs.Ytlklgngdagebfaa
open Go Go.RowKit Vc Tb

theorem value_snd (t r : Int) : (valueF t r).2 = (valueF t 0).2 := by
  unfold valueF
  repeat' split
  all_goals first | rfl | contradiction
theorem goF_drop {B V : List Int} {v : Int} {out : List (Int × Int)} {i : Nat} (hl : V.length = B.length) (hi : i + 1 < B.length) :
    goF (B.drop i) (V.drop i) v out = goF (B.drop (i + 1)) (V.drop (i + 1)) v (if V.getD i 0 = v ∧ B.getD i 0 ≠ 55296 then joinF out (B.getD i 0, B.getD (i + 1) 0 - 1) else out) := by
  have e1 : B.getD i 0 = B[i] := by rw [List.getD_eq_getElem?_getD, List.getElem?_eq_getElem (by omega)]; rfl
  have e2 : B.getD (i + 1) 0 = B[i + 1] := by rw [List.getD_eq_getElem?_getD, List.getElem?_eq_getElem (by omega)]; rfl
  have e3 : V.getD i 0 = V[i]'(by omega) := by rw [List.getD_eq_getElem?_getD, List.getElem?_eq_getElem (by omega)]; rfl
  have d2 : B.drop (i + 1) = B[i + 1] :: B.drop (i + 1 + 1) := List.drop_eq_getElem_cons hi
  have d1 : B.drop i = B[i] :: B.drop (i + 1) := List.drop_eq_getElem_cons (by omega)
  have d3 : V.drop i = V[i]'(by omega) :: V.drop (i + 1) := List.drop_eq_getElem_cons (by omega)
  rw [e1, e2, e3, d1, d3, d2]
  simp only [goF]
theorem goF_last {B V : List Int} {v : Int} {out : List (Int × Int)} (h : B.length ≤ 1) : goF B V v out = out := by
  match B, h with
  | [], _ => simp [goF]
  | [_], _ => simp [goF]
theorem joinF_snoc (l : List (Int × Int)) (q p : Int × Int) : joinF (l ++ [q]) p = if q.2 = p.1 - 1 then l ++ [(q.1, p.2)] else (l ++ [q]) ++ [p] := by
  unfold joinF; simp
theorem bord_bd : ∀ i : Fin 458, 0 ≤ bordL.getD i.val 0 ∧ bordL.getD i.val 0 ≤ 1114112 := by decide +kernel

set_option maxRecDepth 20000 in
theorem rspans_ok : sSpans.Ok Try.prog 28 := by
  refine rspans_vc ⟨bords_ok, value_ok, trivial⟩ ?_
  rintro ⟨tb, v⟩ w _
  dsimp only
  refine ⟨(), rfl, trivial, ?_⟩
  rintro ⟨a0, c0⟩ w1 hm0
  dsimp only at hm0 ⊢
  have hB : bordL.length = 458 := by decide +kernel
  have hV : (bordL.map fun b => (valueF tb b).1).length = bordL.length := List.length_map ..
  have hc0 := hm0.row.cells
  refine ⟨⟨⟨0, [], none, 0⟩, rfl, rfl, Nat.zero_le _, Nat.zero_le _, by unfold refT; rw [List.drop_zero, List.drop_zero], Made.nil _ _ _⟩, ?_⟩
  rintro _ ⟨i, out, a, c⟩ w2 ⟨hi, hol, hg, hm⟩
  dsimp only at hi hol hg hm ⊢
  have hcB := hc0.ext hm.ext
  rw [hB]
  refine ⟨inr_i64 (by omega) (by omega), bcase_mk (fun h => ?_) (fun h => ?_)⟩
  · have hi2 : i + 1 < 458 := by simp only [decide_eq_true_eq] at h; omega
    have hb1 := bord_bd ⟨i, by omega⟩
    have hb2 := bord_bd ⟨i + 1, hi2⟩
    dsimp only at hb1 hb2
    have hVi : (bordL.map fun b => (valueF tb b).1).getD i 0 = (valueF tb (bordL.getD i 0)).1 := by
      rw [List.getD_eq_getElem?_getD, List.getElem?_map, List.getD_eq_getElem?_getD, List.getElem?_eq_getElem (by omega)]; rfl
    have hstep := goF_drop (v := v) (out := out) hV (show i + 1 < bordL.length by omega)
    rw [hVi] at hstep
    have fin : ∀ {w3 : World} {out' : List (Int × Int)} {a' : Option Addr} {n' c' : Nat}, n' = out'.length → out'.length ≤ i + 1 → (if (valueF tb 0).2 = true then goF (bordL.drop (i + 1)) ((bordL.map fun b => (valueF tb b).1).drop (i + 1)) v out' else out') = refT tb v → Made w1 w3 38 2 a' out'.length (out'.flatMap spV) c' →
        ∃ (y : GRSp), Value.int .i64 ((i : Int) + 1) = Value.int .i64 (y.i : Int) ∧ Value.slice a' n' c' = Value.slice y.a y.out.length y.c ∧ (y.i ≤ 457 ∧ y.out.length ≤ y.i ∧
          (if (valueF tb 0).2 = true then goF (bordL.drop y.i) ((bordL.map fun b => (valueF tb b).1).drop y.i) v y.out else y.out) = refT tb v ∧ Made w1 w3 38 2 y.a y.out.length (y.out.flatMap spV) y.c) ∧ 457 - y.i < 457 - i := by
      rintro w3 out' a' n' c' rfl hl hgo hm'
      exact ⟨⟨i + 1, out', a', c'⟩, by simp, rfl, ⟨by dsimp only; omega, hl, hgo, hm'⟩, by dsimp only; omega⟩
    have inr1 : InR .i64 ((i : Int) + 1) := inr_i64 (by omega) (by omega)
    refine ⟨i, rfl, by omega, hcB.int (by omega) fun b o hbo => ⟨_, hbo, ⟨tb, bordL.getD i 0⟩, rfl, trivial, ?_⟩⟩
    rintro x w3 ⟨rfl, hw⟩
    replace hw := hw.symm
    subst hw
    dsimp only
    rw [value_snd tb (bordL.getD i 0)]
    refine bcase_mk (fun hok => ?_) (fun hok => ?_)
    · have hok : (valueF tb 0).2 = false := by simpa using hok
      rw [hok, if_neg (by decide)] at hg
      refine ⟨inr1, fin rfl (by omega) ?_ hm⟩
      rw [hok, if_neg (by decide)]; exact hg
    have hok : (valueF tb 0).2 = true := by simpa using hok
    rw [hok, if_pos rfl] at hg
    rw [hstep] at hg
    rw [hok] at fin
    refine bcase_mk (fun hne => ?_) (fun hne => ?_)
    · have hne : (valueF tb (bordL.getD i 0)).1 ≠ v := by simpa using hne
      rw [if_neg (fun h => hne h.1)] at hg
      exact ⟨inr1, by rw [hok]; exact fin rfl (by omega) (by rw [if_pos rfl]; exact hg) hm⟩
    have heq : (valueF tb (bordL.getD i 0)).1 = v := by simpa using hne
    refine ⟨i, rfl, by omega, hcB.int (by omega) fun b2 o2 hbo2 => ⟨_, hbo2, ?_⟩⟩
    refine bcase_mk (fun hs => ?_) (fun hs => ?_)
    · have hs : bordL.getD i 0 = 55296 := by simpa using hs
      rw [if_neg (fun h => h.2 hs)] at hg
      exact ⟨inr1, by rw [hok]; exact fin rfl (by omega) (by rw [if_pos rfl]; exact hg) hm⟩
    have hs : bordL.getD i 0 ≠ 55296 := by simpa using hs
    rw [if_pos ⟨heq, hs⟩] at hg
    rw [hok]
    have push : ∀ {b : Nat} {w3 w4 : World}, Ext w2 w3 → joinF out (bordL.getD i 0, bordL.getD (i + 1) 0 - 1) = out ++ [(bordL.getD i 0, bordL.getD (i + 1) 0 - 1)] → New w3 (.cells #[.int .i32 (bordL.getD i 0), .int .i32 (bordL.getD (i + 1) 0 - 1)] 38) b w4 →
        ∃ a' c' w5, AppRun Try.prog #[34, 34] 34 (.slice a out.length c) (.slice (some ⟨b, 0, none⟩) 1 1) w4 a' (out.length + 1) c' w5 ∧ KO w4 w5 ∧ InR .i64 ((i : Int) + 1) ∧
          ∃ (y : GRSp), Value.int .i64 ((i : Int) + 1) = Value.int .i64 (y.i : Int) ∧ Value.slice a' (out.length + 1) c' = Value.slice y.a y.out.length y.c ∧ (y.i ≤ 457 ∧ y.out.length ≤ y.i ∧
            (if true = true then goF (bordL.drop y.i) ((bordL.map fun b => (valueF tb b).1).drop y.i) v y.out else y.out) = refT tb v ∧ Made w1 w5 38 2 y.a y.out.length (y.out.flatMap spV) y.c) ∧ 457 - y.i < 457 - i := by
      intro b w3 w4 e23 hj hn
      obtain ⟨a', c', w5, hrun, hko, hm5, _⟩ := (hm.later e23).pushN (P := Try.prog) (ty := 34) elemSp (by decide) (m := 1) (news := spV (bordL.getD i 0, bordL.getD (i + 1) 0 - 1)) hn rfl (by simp [spV, Value.oneCell']) (by unfold maxLen; omega) (.inr (by omega))
      refine ⟨a', c', w5, hrun, hko, inr1, fin (out' := out ++ [(bordL.getD i 0, bordL.getD (i + 1) 0 - 1)]) (by simp) (by simp; omega) (by rw [if_pos rfl, ← hj]; exact hg) ?_⟩
      rw [List.length_append, List.flatMap_append]
      simpa using hm5
    refine ⟨inr_i64 (by omega) (by omega), fun w3 hd => ?_⟩
    have e23 := hd.ext
    have hcB3 := hcB.ext e23
    refine bcase_mk (fun hpos => ?_) (fun hpos => ?_)
    · have hpos : 0 < out.length := by simp only [ge_iff_le, decide_eq_true_eq] at hpos; omega
      obtain ⟨l, q, hlq⟩ : ∃ l q, out = l ++ [q] := ⟨out.dropLast, out.getLast (List.ne_nil_of_length_pos hpos), (List.dropLast_concat_getLast _).symm⟩
      subst hlq
      have hll : (l ++ [q]).length = l.length + 1 := by simp
      have hq : ((l ++ [q]).flatMap spV)[l.length * 2 + 1]? = some (.int .i32 q.2) := by
        rw [flat_at (f := spV) (s := 2) (x := q) (fun _ => rfl) (by simp) (by omega)]; rfl
      refine ⟨l.length, by rw [hll]; omega, by omega, hm.row.cells.fld (k := l.length) (s := 2) (j := 1) hq fun b3 o3 hb3 => ⟨_, hb3, i, rfl, by omega, hcB.int (by omega) fun b4 o4 hb4 => ⟨_, hb4, inr_i32 (by omega) (by omega), ?_⟩⟩⟩
      refine bcase_mk (fun htch => ?_) (fun htch => ?_)
      · have htch : q.2 = bordL.getD i 0 - 1 := by simpa using htch
        refine ⟨inr1, i + 1, by simp, hi2, hcB3.int (by omega) fun b5 o5 hb5 => ⟨_, hb5, inr_i32 (by omega) (by omega), l.length, by rw [hll]; omega, by omega, ?_⟩⟩
        have hm3 := hm.later e23
        refine hm3.row.wr (i := l.length) (by omega) fun g hg2 => ?_
        subst hg2
        have hst := Row.at_storeS (i := l.length * 2 + 1) hm3.row (by omega)
        refine ⟨rfl, hst.1, hst.2, fun w4 hs4 => ⟨inr1, fin (out' := l ++ [(q.1, bordL.getD (i + 1) 0 - 1)]) (by simp) (by simp; omega) ?_ ?_⟩⟩
        · rw [joinF_snoc, if_pos htch] at hg
          rw [if_pos rfl]; exact hg
        · have := Made.storeS (i := l.length * 2 + 1) hm3 hs4
          have e : ((l ++ [q]).flatMap spV).set (l.length * 2 + 1) (.int .i32 (bordL.getD (i + 1) 0 - 1)) = (l ++ [(q.1, bordL.getD (i + 1) 0 - 1)]).flatMap spV := by
            rw [List.flatMap_append, List.flatMap_append, List.set_append, if_neg (by rw [spV_len]; omega), spV_len, Nat.mul_comm, Nat.add_sub_cancel_left]
            rfl
          rw [e] at this
          rw [hll] at this
          simpa using this
      · have htch : q.2 ≠ bordL.getD i 0 - 1 := by simpa using htch
        intro w4 hd4
        have e24 := Ext.trans e23 hd4.ext
        refine ⟨i, rfl, by omega, hcB3.int (by omega) fun b5 o5 hb5 => ⟨_, hb5, inr1, i + 1, by simp, hi2, hcB3.int (by omega) fun b6 o6 hb6 => ⟨_, hb6, inr_i32 (by omega) (by omega), fun b7 w5 hn5 => ⟨hn5.ext, ?_⟩⟩⟩⟩
        exact push e24 (by rw [joinF_snoc, if_neg htch]) hn5
    · have hz : out.length = 0 := by simp only [ge_iff_le, decide_eq_false_iff_not] at hpos; omega
      have hnil := List.eq_nil_of_length_eq_zero hz
      intro w4 hd4
      have e24 := Ext.trans e23 hd4.ext
      refine ⟨i, rfl, by omega, hcB3.int (by omega) fun b5 o5 hb5 => ⟨_, hb5, inr1, i + 1, by simp, hi2, hcB3.int (by omega) fun b6 o6 hb6 => ⟨_, hb6, inr_i32 (by omega) (by omega), fun b7 w5 hn5 => ⟨hn5.ext, ?_⟩⟩⟩⟩
      exact push e24 (by rw [hnil]; rfl) hn5
  · have hi2 : i = 457 := by simp only [decide_eq_false_iff_not] at h; omega
    have hlast : out = refT tb v := by
      rw [← hg]
      split
      · exact (goF_last (by rw [List.length_drop]; omega)).symm
      · rfl
    refine ⟨(a, out.length, c), rfl, by dsimp only; rw [hlast, spans_ref], ?_⟩
    dsimp only
    rw [← spans_ref, ← hlast]
    exact hm0.ext |> hm.earlier

theorem sameSp_ok : sSameSp.Ok Try.prog 30 := by
  refine sameSp_vc trivial ?_
  rintro ⟨a, ac, l, b, bc, m⟩ w ⟨ha, hb, hl⟩
  dsimp only at ha hb hl ⊢
  refine bcase_mk (fun h => ⟨false, rfl, ?_, Ext.refl _⟩) (fun h => ?_)
  · refine (decide_eq_false ?_).symm
    rintro rfl
    simp at h
  have hlen : l.length = m.length := by simp only [bne_eq_false_iff_eq] at h; omega
  refine ⟨⟨0, rfl, Nat.zero_le _, rfl, Ext.refl _⟩, ?_⟩
  rintro _ i w1 ⟨hi, ht, e⟩
  refine bcase_mk (fun h => ?_) (fun h => ?_)
  · have hlt : i < l.length := by simp only [decide_eq_true_eq] at h; omega
    have hp : l[i]? = some (l[i]) := List.getElem?_eq_getElem hlt
    have hq : m[i]? = some (m[i]'(by omega)) := List.getElem?_eq_getElem (by omega)
    intro w2 hd
    have e2 := e.trans hd.ext
    refine ⟨i, rfl, hlt, (ha.ext e).elem (k := i) (s := 2) (by decide) (by rw [spV_len]; omega) fun b1 o1 hb1 => ⟨(l[i]).1, ?_, (l[i]).2, ?_, i, rfl, by omega, (hb.ext e).elem (k := i) (s := 2) (by decide) (by rw [spV_len]; omega) fun b2 o2 hb2 => ⟨(m[i]'(by omega)).1, ?_, (m[i]'(by omega)).2, ?_, ?_⟩⟩⟩
    · exact hb1 0 _ (by rw [flat_at (f := spV) (s := 2) (fun _ => rfl) hp (by omega)]; rfl)
    · exact hb1 1 _ (by rw [flat_at (f := spV) (s := 2) (fun _ => rfl) hp (by omega)]; rfl)
    · exact hb2 0 _ (by rw [flat_at (f := spV) (s := 2) (fun _ => rfl) hq (by omega)]; rfl)
    · exact hb2 1 _ (by rw [flat_at (f := spV) (s := 2) (fun _ => rfl) hq (by omega)]; rfl)
    · refine bcase_mk (fun hne => ⟨false, rfl, ?_, e2⟩) (fun heq => ?_)
      · refine (decide_eq_false ?_).symm
        rintro rfl
        simp at hne
      · have hpq : l[i] = m[i]'(by omega) := by
          simp only [Bool.and_true, Bool.not_eq_false', Bool.and_eq_true, beq_iff_eq] at heq
          exact Prod.ext heq.1 heq.2
        refine ⟨inr_i64 (by omega) (by omega), i + 1, by simp, ⟨hlt, ?_, e2⟩, by omega⟩
        rw [List.take_add_one, List.take_add_one, ht, hp, hq, hpq]
  · have hlt : i = l.length := by simp only [decide_eq_false_iff_not] at h; omega
    subst hlt
    refine ⟨true, rfl, ?_, e⟩
    rw [List.take_length] at ht
    rw [hlen, List.take_length] at ht
    exact (decide_eq_true ht).symm

end Go.Proofs.Ytlklgngdagebfaa
