/-
  Chapter 3: the laws ClusterOnes, ClusterParts, ClusterKnown.
-/
import Derived.Test.YtniiamobbgnjaaaDoorWkM
import Derived.Test.YtniiamobbgnjaaaDoorGs
import Derived.Test.YtniiamobbgnjaaaDoorWkB
set_option linter.unusedVariables false
set_option linter.unusedSimpArgs false
namespace Go.Proofs.YtniiamobbgnjaaaDoor
open Go Go.RowKit Vc Ut Tb Cl Orb

set_option maxHeartbeats 1000000 in
set_option maxRecDepth 10000 in
theorem lawOne_ok : sLawS.Ok Tryd.prog 8 := by
  refine lawOne_vc ⟨steps_ok, call_ok, pcs_ok, cnext_ok, clast_ok, count_ok, bad_ok, cat_ok, cis_ok, alive_ok, trivial⟩ ?_
  rintro s w ⟨hU, hsz⟩
  have hncl := ncl_le s
  have hpl := pc_len s
  refine ⟨(), rfl, hU, ?_⟩
  rintro _ w1 e1
  refine ⟨s, rfl, trivial, ?_⟩
  rintro x w2 ⟨_, hxs, e12⟩
  have e2 := e1.trans e12
  refine ⟨⟨47, #[.pointer (some ⟨x, 0, none⟩)], pcL s, cC x⟩, rfl, ⟨pc_iter hxs (hU.ext e2) (by omega), cC_lt (heap_lt hxs) (hU.ext e2), by dsimp only; omega⟩, ?_⟩
  rintro ⟨la, ln, lc⟩ w3 ⟨hln, hml⟩
  dsimp only at hln hml ⊢
  rw [hpl] at hln
  subst hln
  have e3 := e2.trans hml.ext
  refine ⟨⟨0, rfl, Nat.zero_le _, Ext.refl _⟩, ?_⟩
  rintro _ i w4 ⟨hi, e34⟩
  have e4 := e3.trans e34
  have hcl := hml.row.cells.ext e34
  refine bcase_mk (fun h => ?_) (fun _ => ⟨(), rfl, hU.ext e4, fun _ w5 e5 => yes_ext (e4.trans e5)⟩)
  have hlt : i < ncl s := by have := of_decide_eq_true h; omega
  obtain ⟨t, ht, ht1, ht0⟩ := pc_own hlt
  obtain ⟨o1, o2, o3, o4, o5⟩ := own_laws ht1 ht0
  rw [← ht] at o1 o2 o3 o4 o5
  have hble := bp_le s (i + 1)
  have hps := pc_sz (s := s) (i := i)
  have hst := bp_strict (s := s) (show i < i + 1 by omega) hlt
  refine ⟨i, rfl, hlt, pc_cell hcl hlt (j := 1) (by decide) rfl fun b o hb => ⟨_, hb, ?_⟩⟩
  generalize hp : (pcP s i).2 = p at o1 o2 o3 o4 o5 hps
  have hpz : p.size ≤ 1048576 := by omega
  refine ⟨?_, ?_⟩
  · refine ⟨p, rfl, ⟨hU.ext e4, by omega⟩, ?_⟩
    rintro x5 w5 ⟨hx5, e5⟩
    refine bcase_mk (fun h => by rw [hx5] at h; unfold nextL at h; rw [o2] at h; simp at h) (fun _ => ?_)
    refine ⟨p, rfl, ⟨hU.ext (e4.trans e5), by omega⟩, ?_⟩
    rintro x6 w6 ⟨hx6, e6⟩
    have E6 := e5.trans e6
    refine bcase_mk (fun h => by rw [hx6] at h; unfold lastL at h; rw [o1] at h; simp [bp_zero] at h) (fun _ => ?_)
    refine ⟨p, rfl, ⟨hU.ext (e4.trans E6), by omega⟩, ?_⟩
    rintro x7 w7 ⟨hx7, e7⟩
    have E7 := E6.trans e7
    refine bcase_mk (fun h => by have := of_decide_eq_true h; omega) (fun _ => ?_)
    refine ⟨p, rfl, ⟨hU.ext (e4.trans E7), by omega⟩, ?_⟩
    rintro x8 w8 ⟨hx8, e8⟩
    have E8 := E7.trans e8
    refine bcase_mk (fun h => by have := of_decide_eq_true h; omega) (fun _ => ?_)
    refine ⟨p, rfl, ⟨hU.ext (e4.trans E8), by omega⟩, ?_⟩
    rintro ⟨ba, bn, bc⟩ w9 ⟨hbn, hmb⟩
    dsimp only at hbn hmb ⊢
    have E9 := E8.trans hmb.ext
    refine bcase_mk (fun h => bcase_mk (fun h2 => ?_) (fun _ => ⟨(), E9⟩)) (fun _ => ⟨(), E9⟩)
    exfalso
    have h := of_decide_eq_true h
    have hne : badL p ≠ [] := by intro he; rw [he] at hbn; simp at hbn; omega
    have := o5 hne
    rw [this] at h2
    simp at h2
  · rintro _ _ w5 e45
    refine ⟨⟨1, rfl, Nat.le_refl _, by omega, Ext.refl _⟩, ?_⟩
    rintro _ k w6 ⟨hk1, hk2, e56⟩
    have e6 := (e4.trans e45).trans e56
    refine bcase_mk (fun h => ?_) (fun _ => ⟨inr_i64 (by omega) (by omega), i + 1, by simp, ⟨hlt, (e34.trans e45).trans e56⟩, by omega⟩)
    simp only [Bool.and_eq_true, decide_eq_true_eq] at h
    have hkp : k < p.size := by omega
    have hc6 := hcl.ext (e45.trans e56)
    have hix := at_in (s := s) (i := i) (q := bp s i + k) hlt (by omega) (by omega)
    refine ⟨i, rfl, hlt, pc_cell hc6 hlt (j := 0) (by decide) rfl fun b o hb => ⟨_, hb, inr_i64 (by simp only [pcP]; omega) (by simp only [pcP]; omega), (s, _), rfl, ⟨hU.ext e6, by dsimp only; omega⟩, ?_⟩⟩
    rintro x7 w7 ⟨hx7, e67⟩
    dsimp only [pcP] at hx7
    rw [show (bp s i : Int) + (k : Int) = ((bp s i + k : Nat) : Int) from by omega, hix] at hx7
    subst hx7
    have hc7 := hc6.ext e67
    refine ⟨i, rfl, hlt, pc_cell hc7 hlt (j := 0) (by decide) rfl fun b o hb => ⟨_, hb, inr_i64 (by simp only [pcP]; omega) (by simp only [pcP]; omega), (s, _), rfl, ⟨hU.ext (e6.trans e67), by dsimp only; omega⟩, ?_⟩⟩
    rintro x8 w8 ⟨hx8, e78⟩
    dsimp only [pcP] at hx8
    have hno : isB s ((bp s i : Int) + (k : Int)) = false := by
      rw [Bool.eq_false_iff]
      intro hy
      obtain ⟨j, hj, hq⟩ := isB_iff.1 hy
      rcases Nat.lt_or_ge i j with hl | hl
      · have := bp_mono s (show i + 1 ≤ j by omega); omega
      · have := bp_mono s hl; omega
    have hc8 := hc7.ext e78
    refine bcase_mk (fun h => by rw [hx8, hno] at h; cases h) (fun _ => ?_)
    refine ⟨i, rfl, hlt, pc_cell hc8 hlt (j := 0) (by decide) rfl fun b o hb => ⟨_, hb, bcase_mk (fun h => by simp [pcP] at h) (fun _ => ?_)⟩⟩
    refine ⟨i, rfl, hlt, pc_cell hc8 hlt (j := 0) (by decide) rfl fun b o hb => ⟨_, hb, ?_⟩⟩
    dsimp only [pcP]
    rw [hps, show (bp s i : Int) + ((bp s (i + 1) : Int) - bp s i) = (bp s (i + 1) : Int) from by omega]
    refine ⟨inr_i64 (by omega) (by omega), bcase_mk (fun h => by simp at h) (fun _ => ?_)⟩
    exact ⟨inr_i64 (by omega) (by omega), k + 1, by simp, ⟨by omega, by omega, (e56.trans e67).trans e78⟩, by omega⟩

/-- A text of one byte. -/
def oneS (k : Nat) : ByteArray := ⟨#[UInt8.ofNat k]⟩
theorem oneS_bt {k : Nat} (h : k < 256) : bt (oneS k) 0 = k := by
  show (UInt8.ofNat k).toNat = k
  rw [UInt8.toNat_ofNat']; omega
theorem size_app (a b : ByteArray) : (a ++ b).size = a.size + b.size := ByteArray.size_append
theorem parts_border (a b : ByteArray) {k : Nat} (h : 245 ≤ k) (h2 : k < 256) : ∃ i, i < ncl (a ++ oneS k ++ b) ∧ bp (a ++ oneS k ++ b) i = a.size ∧ bp (a ++ oneS k ++ b) (i + 1) = a.size + 1 := by
  have hs : (a ++ oneS k ++ b).size = a.size + 1 + b.size := by rw [size_app, size_app]; rfl
  refine high_border (by omega) ?_
  have : bt (a ++ oneS k ++ b) a.size = k := by
    rw [← oneS_bt h2]
    unfold bt
    simp [ByteArray.data_append, oneS]
  omega

set_option maxHeartbeats 1000000 in
set_option maxRecDepth 10000 in
theorem lawPart_ok : sLawSSB.Ok Tryd.prog 6 := by
  refine lawPart_vc ⟨steps_ok, call_ok, pcs_ok, sameP_ok, alive_ok, trivial⟩ ?_
  rintro ⟨a, b, k⟩ w ⟨hU, hsa, hsb, hk⟩
  dsimp only at hU hsa hsb hk ⊢
  refine ⟨(), rfl, hU, ?_⟩
  rintro _ w1 e1
  refine ⟨by omega, by omega, inr_u8 (by omega) (by omega), ?_⟩
  intro bb w2 hn
  have e2 := e1.trans hn.ext
  obtain ⟨i, hi, hb1, hb2⟩ := parts_border a b (k := 245 + k % 11) (by omega) (by omega)
  have hsz : (a ++ oneS (245 + k % 11)).size = a.size + 1 := by rw [size_app]; rfl
  have hsz2 : (a ++ oneS (245 + k % 11) ++ b).size = a.size + 1 + b.size := by rw [size_app, hsz]
  have hone : (oneS (245 + k % 11)).size = 1 := rfl
  have hbt := oneS_bt (k := 245 + k % 11) (by omega)
  refine ⟨oneS (245 + k % 11), ⟨rfl, .inr ⟨bb, 0, rfl, fun j hj => ?_⟩⟩, by omega, by omega, ?_⟩
  · have : j = 0 := by omega
    subst this
    rw [hn.cell]
    show some (Value.int .u8 (245 + (k : Int) % 11)) = some (.int .u8 ((bt (oneS (245 + k % 11)) 0 : Nat) : Int))
    rw [hbt]
    congr 2
  generalize oneS (245 + k % 11) = mid at hb1 hb2 hi hsz hsz2 hone
  have hex1 : (a ++ mid ++ b).extract 0 a.size = a := by
    rw [ByteArray.append_assoc]; exact ByteArray.extract_append_eq_left rfl
  have hex2 : (a ++ mid ++ b).extract (a.size + 1) (a ++ mid ++ b).size = b := ByteArray.extract_append_eq_right hsz.symm (by rw [size_app])
  have hex3 : (a ++ mid ++ b).extract a.size (a.size + 1) = mid := by
    rw [ByteArray.extract_append, ByteArray.extract_append_eq_right rfl (by omega)]
    rw [show (a.size + 1 - (a ++ mid).size) = 0 from by omega]
    have : b.extract (a.size - (a ++ mid).size) 0 = ByteArray.empty := by
      apply ByteArray.ext; simp [ByteArray.data_extract]
    rw [this]
    exact ByteArray.append_empty
  generalize hS : a ++ mid ++ b = s at hi hb1 hb2 hex1 hex2 hex3 hsz2
  have ht1 := pcL_take (s := s) (n := i) (by omega)
  have ht2 := pcL_drop (s := s) (n := i + 1) (by omega)
  rw [hb1, hex1] at ht1
  rw [hb2, hex2] at ht2
  have hci : (pcP s i) = (a.size, mid) := by unfold pcP; rw [hb1, hb2, hex3]
  have hna : ncl a = i := by
    have := congrArg List.length ht1
    rw [List.length_take, pc_len, pc_len] at this
    omega
  have hnb : ncl s = i + 1 + ncl b := by
    have := congrArg List.length ht2
    rw [List.length_drop, List.length_map, pc_len, pc_len] at this
    omega
  have hpl := pc_len s
  have hpa := pc_len a
  have hpb := pc_len b
  have hncl := ncl_le s
  have hnca := ncl_le a
  have hncb := ncl_le b
  refine ⟨s, rfl, trivial, ?_⟩
  rintro x w3 ⟨_, hxs, e23⟩
  have e3 := e2.trans e23
  refine ⟨⟨47, #[.pointer (some ⟨x, 0, none⟩)], pcL s, cC x⟩, rfl, ⟨pc_iter hxs (hU.ext e3) (by omega), cC_lt (heap_lt hxs) (hU.ext e3), by dsimp only; omega⟩, ?_⟩
  rintro ⟨la, ln, lc⟩ w4 ⟨hln, hml⟩
  dsimp only at hln hml ⊢
  rw [hpl] at hln
  subst hln
  have e4 := e3.trans hml.ext
  refine ⟨a, rfl, trivial, ?_⟩
  rintro y w5 ⟨_, hys, e45⟩
  have e5 := e4.trans e45
  refine ⟨⟨47, #[.pointer (some ⟨y, 0, none⟩)], pcL a, cC y⟩, rfl, ⟨pc_iter hys (hU.ext e5) (by omega), cC_lt (heap_lt hys) (hU.ext e5), by dsimp only; omega⟩, ?_⟩
  rintro ⟨aa, an, ac⟩ w6 ⟨han, hma⟩
  dsimp only at han hma ⊢
  rw [hpa, hna] at han
  subst an
  have e6 := e5.trans hma.ext
  refine ⟨b, rfl, trivial, ?_⟩
  rintro z w7 ⟨_, hzs, e67⟩
  have e7 := e6.trans e67
  refine ⟨⟨47, #[.pointer (some ⟨z, 0, none⟩)], pcL b, cC z⟩, rfl, ⟨pc_iter hzs (hU.ext e7) (by omega), cC_lt (heap_lt hzs) (hU.ext e7), by dsimp only; omega⟩, ?_⟩
  rintro ⟨ba, bn, bc⟩ w8 ⟨hbn, hmb⟩
  dsimp only at hbn hmb ⊢
  rw [hpb] at hbn
  subst hbn
  have e8 := e7.trans hmb.ext
  have E48 : Ext w4 w8 := (e45.trans hma.ext).trans (e67.trans hmb.ext)
  have E68 : Ext w6 w8 := e67.trans hmb.ext
  have hcl := hml.row.cells.ext E48
  have hca := hma.row.cells.ext E68
  have hcb := hmb.row.cells
  have hlc := hml.row.le
  refine ⟨inr_i64 (by omega) (by omega), inr_i64 (by omega) (by omega), bcase_mk (fun h => by rw [hnb] at h; simp only [bne_iff_ne, ne_eq] at h; omega) (fun _ => ?_)⟩
  refine ⟨i, rfl, hi, pc_cell hcl hi (j := 1) (by decide) rfl fun _ _ hc => ⟨_, hc, bcase_mk (fun h => by rw [hci] at h; simp at h) (fun _ => ?_)⟩⟩
  refine ⟨i, rfl, hi, pc_cell hcl hi (j := 0) (by decide) rfl fun _ _ hc => ⟨_, hc, bcase_mk (fun h => by rw [hci] at h; simp at h) (fun _ => ?_)⟩⟩
  refine ⟨i, rfl, by omega, ⟨la, lc, (pcL s).take i, aa, ac, pcL a, 0⟩, ?_, ⟨?_, hca, by dsimp only; rw [List.length_take]; omega, Nat.zero_le _, pc_le (by omega)⟩, ?_⟩
  · dsimp only; rw [List.length_take, hpl, Nat.min_eq_left (by omega), hpa, hna]; rfl
  · have h1 := hcl.take (i * 2)
    have h2 : ((pcL s).flatMap encPc).take (i * 2) = ((pcL s).take i).flatMap encPc := flat_take (s := 2) (fun _ => rfl) _ _
    rw [h2] at h1; exact h1
  rintro x9 w9 ⟨hx9, e89⟩
  dsimp only at hx9
  rw [upP_zero, ht1] at hx9
  have e9 := e8.trans e89
  refine bcase_mk (fun _ => ?_) (fun h => by rw [hx9] at h; simp at h)
  refine ⟨inr_i64 (by omega) (by omega), i + 1, by simp, by omega, fun ad' hsl => ⟨inr_i64 (by omega) (by omega), ⟨ad', lc - (i + 1), (pcL s).drop (i + 1), ba, bc, pcL b, a.size + 1⟩, ?_, ⟨?_, hcb.ext e89, by dsimp only; rw [List.length_drop]; omega, by dsimp only; omega, pc_le (by omega)⟩, ?_⟩⟩
  · dsimp only; rw [List.length_drop, hpl, hpb]; rfl
  · have h1 := (hcl.ext e89).drop hsl (by omega) (by rw [flat_len' (s := 2) (fun _ => rfl), hpl]; omega)
    rw [flat_drop (s := 2) (fun _ => rfl)] at h1; exact h1
  rintro x10 w10 ⟨hx10, e910⟩
  dsimp only at hx10
  have e10 := e9.trans e910
  refine bcase_mk (fun _ => ?_) (fun h => by rw [hx10, ht2] at h; simp [upBy, upP] at h)
  refine ⟨(), rfl, hU.ext e10, ?_⟩
  rintro _ w11 e11
  exact yes_ext (e10.trans e11)

/-- So many marks, as a text. -/
def mkS (n : Nat) : ByteArray := ⟨(List.replicate n [204, 129]).flatten.toArray⟩
theorem mks_succ (n : Nat) : (mks (n + 1)).map (Value.int .u8) = (mks n).map (Value.int .u8) ++ Lib.strCells (ByteArray.mk #[204, 129]) := by
  unfold mks
  rw [List.replicate_succ', List.flatten_append, List.map_append]
  rfl
theorem mks_bytes {w : World} {a : Option Addr} {c n m : Nat} (h : CellsAt w a ((mks n).map (Value.int .u8))) (hm : m ≤ n) : BytesIn w a (2 * m) (mkS m) := by
  have hl : ∀ k, (mks k).length = 2 * k := by intro k; simp [mks]; omega
  have ht : (mks n).take (2 * m) = mks m := by
    obtain ⟨d, rfl⟩ := Nat.exists_eq_add_of_le hm
    have : mks (m + d) = mks m ++ mks d := by unfold mks; rw [← List.replicate_append_replicate, List.flatten_append]
    rw [this, List.take_left' (hl m)]
  have h2 := h.take (2 * m)
  rw [← List.map_take, ht] at h2
  refine bytesIn_of (by simp [mkS, ByteArray.size]; omega) ?_
  have he : ∀ k, ((List.replicate k ([204, 129] : List UInt8)).flatten).map (fun b => Value.int .u8 (b.toNat : Int)) = (mks k).map (Value.int .u8) := by
    intro k
    induction k with
    | zero => rfl
    | succ k ih =>
      unfold mks at ih ⊢
      rw [List.replicate_succ, List.replicate_succ, List.flatten_cons, List.flatten_cons, List.map_append, List.map_append, ih]
      rfl
  show CellsAt w a (((List.replicate m ([204, 129] : List UInt8)).flatten.toArray).toList.map _)
  rw [List.toList_toArray, he]
  exact h2

theorem u8_str : Tryd.prog.underlying 9 = some .string := by kernel_rfl

set_option maxHeartbeats 4000000 in
set_option maxRecDepth 100000 in
theorem lawKn_ok : (sYes U8).Ok Tryd.prog 7 := by
  refine lawKn_vc ⟨steps_ok, row_ok, cat_ok, cis_ok, cnext_ok, clast_ok, alive_ok, trivial⟩ ?_
  rintro _ w hU
  refine ⟨(), rfl, hU, ?_⟩
  rintro _ w1 E
  replace E : Ext w w1 := E
  refine ⟨?_, ?_⟩
  · have R := Ext.refl w1
    intro b w2 hn
    replace R := R.trans hn.ext
    refine ⟨⟨⟨#[97, 204, 129, 204, 129, 98]⟩, [⟨#[97, 204, 129, 204, 129]⟩, ⟨#[98]⟩], _, _⟩, rfl, ⟨hU.ext (E.trans R), by dsimp only; decide, CellsAt.new (vs := [⟨#[97, 204, 129, 204, 129]⟩, ⟨#[98]⟩].map Value.string) hn, by dsimp only; decide⟩, ?_⟩
    rintro x w3 ⟨hx, e⟩
    dsimp only at hx
    replace hx : x = true := hx.trans (by decide +kernel)
    subst hx
    replace R := R.trans e
    refine bcase_mk (fun _ => ?_) (fun h => by cases h)
    intro b w4 hn
    replace R := R.trans hn.ext
    refine ⟨⟨⟨#[204, 129, 97]⟩, [⟨#[204, 129]⟩, ⟨#[97]⟩], _, _⟩, rfl, ⟨hU.ext (E.trans R), by dsimp only; decide, CellsAt.new (vs := [⟨#[204, 129]⟩, ⟨#[97]⟩].map Value.string) hn, by dsimp only; decide⟩, ?_⟩
    rintro x w5 ⟨hx, e⟩
    dsimp only at hx
    replace hx : x = true := hx.trans (by decide +kernel)
    subst hx
    replace R := R.trans e
    refine bcase_mk (fun _ => ?_) (fun h => by cases h)
    intro b w6 hn
    replace R := R.trans hn.ext
    refine ⟨⟨⟨#[13, 10, 10, 13, 97, 204, 129]⟩, [⟨#[13, 10]⟩, ⟨#[10]⟩, ⟨#[13]⟩, ⟨#[97, 204, 129]⟩], _, _⟩, rfl, ⟨hU.ext (E.trans R), by dsimp only; decide, CellsAt.new (vs := [⟨#[13, 10]⟩, ⟨#[10]⟩, ⟨#[13]⟩, ⟨#[97, 204, 129]⟩].map Value.string) hn, by dsimp only; decide⟩, ?_⟩
    rintro x w7 ⟨hx, e⟩
    dsimp only at hx
    replace hx : x = true := hx.trans (by decide +kernel)
    subst hx
    replace R := R.trans e
    refine bcase_mk (fun _ => ?_) (fun h => by cases h)
    intro b w8 hn
    replace R := R.trans hn.ext
    refine ⟨⟨⟨#[10, 204, 129]⟩, [⟨#[10]⟩, ⟨#[204, 129]⟩], _, _⟩, rfl, ⟨hU.ext (E.trans R), by dsimp only; decide, CellsAt.new (vs := [⟨#[10]⟩, ⟨#[204, 129]⟩].map Value.string) hn, by dsimp only; decide⟩, ?_⟩
    rintro x w9 ⟨hx, e⟩
    dsimp only at hx
    replace hx : x = true := hx.trans (by decide +kernel)
    subst hx
    replace R := R.trans e
    refine bcase_mk (fun _ => ?_) (fun h => by cases h)
    refine ⟨⟨⟨#[]⟩, [], none, 0⟩, rfl, ⟨hU.ext (E.trans R), by dsimp only; decide, CellsAt.nil _ _, by dsimp only; decide⟩, ?_⟩
    rintro x w10 ⟨hx, e⟩
    dsimp only at hx
    replace hx : x = true := hx.trans (by decide +kernel)
    subst hx
    replace R := R.trans e
    exact ⟨(), rfl, R⟩
  rintro _ _ w11 e
  replace E := E.trans e
  refine ⟨?_, ?_⟩
  · have R := Ext.refl w11
    intro b w12 hn
    replace R := R.trans hn.ext
    refine ⟨⟨⟨#[240, 159, 135, 166, 240, 159, 135, 167, 240, 159, 135, 168, 204, 129, 240, 159, 135, 169]⟩, [⟨#[240, 159, 135, 166, 240, 159, 135, 167]⟩, ⟨#[240, 159, 135, 168, 204, 129]⟩, ⟨#[240, 159, 135, 169]⟩], _, _⟩, rfl, ⟨hU.ext (E.trans R), by dsimp only; decide, CellsAt.new (vs := [⟨#[240, 159, 135, 166, 240, 159, 135, 167]⟩, ⟨#[240, 159, 135, 168, 204, 129]⟩, ⟨#[240, 159, 135, 169]⟩].map Value.string) hn, by dsimp only; decide⟩, ?_⟩
    rintro x w13 ⟨hx, e⟩
    dsimp only at hx
    replace hx : x = true := hx.trans (by decide +kernel)
    subst hx
    replace R := R.trans e
    refine bcase_mk (fun _ => ?_) (fun h => by cases h)
    intro b w14 hn
    replace R := R.trans hn.ext
    refine ⟨⟨⟨#[240, 159, 145, 169, 226, 128, 141, 240, 159, 146, 187, 226, 128, 141, 97]⟩, [⟨#[240, 159, 145, 169, 226, 128, 141, 240, 159, 146, 187, 226, 128, 141]⟩, ⟨#[97]⟩], _, _⟩, rfl, ⟨hU.ext (E.trans R), by dsimp only; decide, CellsAt.new (vs := [⟨#[240, 159, 145, 169, 226, 128, 141, 240, 159, 146, 187, 226, 128, 141]⟩, ⟨#[97]⟩].map Value.string) hn, by dsimp only; decide⟩, ?_⟩
    rintro x w15 ⟨hx, e⟩
    dsimp only at hx
    replace hx : x = true := hx.trans (by decide +kernel)
    subst hx
    replace R := R.trans e
    refine bcase_mk (fun _ => ?_) (fun h => by cases h)
    intro b w16 hn
    replace R := R.trans hn.ext
    refine ⟨⟨⟨#[97, 226, 128, 141, 240, 159, 146, 187]⟩, [⟨#[97, 226, 128, 141]⟩, ⟨#[240, 159, 146, 187]⟩], _, _⟩, rfl, ⟨hU.ext (E.trans R), by dsimp only; decide, CellsAt.new (vs := [⟨#[97, 226, 128, 141]⟩, ⟨#[240, 159, 146, 187]⟩].map Value.string) hn, by dsimp only; decide⟩, ?_⟩
    rintro x w17 ⟨hx, e⟩
    dsimp only at hx
    replace hx : x = true := hx.trans (by decide +kernel)
    subst hx
    replace R := R.trans e
    exact ⟨(), rfl, R⟩
  rintro _ _ w18 e
  replace E := E.trans e
  refine ⟨?_, ?_⟩
  · have R := Ext.refl w18
    intro b w19 hn
    replace R := R.trans hn.ext
    refine ⟨⟨⟨#[225, 132, 128, 225, 133, 161, 225, 134, 168, 234, 176, 128, 225, 134, 168]⟩, [⟨#[225, 132, 128, 225, 133, 161, 225, 134, 168]⟩, ⟨#[234, 176, 128, 225, 134, 168]⟩], _, _⟩, rfl, ⟨hU.ext (E.trans R), by dsimp only; decide, CellsAt.new (vs := [⟨#[225, 132, 128, 225, 133, 161, 225, 134, 168]⟩, ⟨#[234, 176, 128, 225, 134, 168]⟩].map Value.string) hn, by dsimp only; decide⟩, ?_⟩
    rintro x w20 ⟨hx, e⟩
    dsimp only at hx
    replace hx : x = true := hx.trans (by decide +kernel)
    subst hx
    replace R := R.trans e
    refine bcase_mk (fun _ => ?_) (fun h => by cases h)
    intro b w21 hn
    replace R := R.trans hn.ext
    refine ⟨⟨⟨#[234, 176, 129, 225, 133, 161]⟩, [⟨#[234, 176, 129]⟩, ⟨#[225, 133, 161]⟩], _, _⟩, rfl, ⟨hU.ext (E.trans R), by dsimp only; decide, CellsAt.new (vs := [⟨#[234, 176, 129]⟩, ⟨#[225, 133, 161]⟩].map Value.string) hn, by dsimp only; decide⟩, ?_⟩
    rintro x w22 ⟨hx, e⟩
    dsimp only at hx
    replace hx : x = true := hx.trans (by decide +kernel)
    subst hx
    replace R := R.trans e
    refine bcase_mk (fun _ => ?_) (fun h => by cases h)
    intro b w23 hn
    replace R := R.trans hn.ext
    refine ⟨⟨⟨#[225, 133, 161, 204, 129, 225, 134, 168]⟩, [⟨#[225, 133, 161, 204, 129]⟩, ⟨#[225, 134, 168]⟩], _, _⟩, rfl, ⟨hU.ext (E.trans R), by dsimp only; decide, CellsAt.new (vs := [⟨#[225, 133, 161, 204, 129]⟩, ⟨#[225, 134, 168]⟩].map Value.string) hn, by dsimp only; decide⟩, ?_⟩
    rintro x w24 ⟨hx, e⟩
    dsimp only at hx
    replace hx : x = true := hx.trans (by decide +kernel)
    subst hx
    replace R := R.trans e
    refine bcase_mk (fun _ => ?_) (fun h => by cases h)
    intro b w25 hn
    replace R := R.trans hn.ext
    refine ⟨⟨⟨#[97, 128, 204, 129]⟩, [⟨#[97]⟩, ⟨#[128]⟩, ⟨#[204, 129]⟩], _, _⟩, rfl, ⟨hU.ext (E.trans R), by dsimp only; decide, CellsAt.new (vs := [⟨#[97]⟩, ⟨#[128]⟩, ⟨#[204, 129]⟩].map Value.string) hn, by dsimp only; decide⟩, ?_⟩
    rintro x w26 ⟨hx, e⟩
    dsimp only at hx
    replace hx : x = true := hx.trans (by decide +kernel)
    subst hx
    replace R := R.trans e
    refine bcase_mk (fun _ => ?_) (fun h => by cases h)
    intro b w27 hn
    replace R := R.trans hn.ext
    refine ⟨⟨⟨#[226, 128, 174, 204, 129]⟩, [⟨#[226, 128, 174]⟩, ⟨#[204, 129]⟩], _, _⟩, rfl, ⟨hU.ext (E.trans R), by dsimp only; decide, CellsAt.new (vs := [⟨#[226, 128, 174]⟩, ⟨#[204, 129]⟩].map Value.string) hn, by dsimp only; decide⟩, ?_⟩
    rintro x w28 ⟨hx, e⟩
    dsimp only at hx
    replace hx : x = true := hx.trans (by decide +kernel)
    subst hx
    replace R := R.trans e
    refine bcase_mk (fun _ => ?_) (fun h => by cases h)
    intro b w29 hn
    replace R := R.trans hn.ext
    refine ⟨⟨⟨#[226, 128, 168, 204, 129]⟩, [⟨#[226, 128, 168]⟩, ⟨#[204, 129]⟩], _, _⟩, rfl, ⟨hU.ext (E.trans R), by dsimp only; decide, CellsAt.new (vs := [⟨#[226, 128, 168]⟩, ⟨#[204, 129]⟩].map Value.string) hn, by dsimp only; decide⟩, ?_⟩
    rintro x w30 ⟨hx, e⟩
    dsimp only at hx
    replace hx : x = true := hx.trans (by decide +kernel)
    subst hx
    replace R := R.trans e
    refine bcase_mk (fun _ => ?_) (fun h => by cases h)
    intro b w31 hn
    replace R := R.trans hn.ext
    refine ⟨⟨⟨#[228, 184]⟩, [⟨#[228]⟩, ⟨#[184]⟩], _, _⟩, rfl, ⟨hU.ext (E.trans R), by dsimp only; decide, CellsAt.new (vs := [⟨#[228]⟩, ⟨#[184]⟩].map Value.string) hn, by dsimp only; decide⟩, ?_⟩
    rintro x w32 ⟨hx, e⟩
    dsimp only at hx
    replace hx : x = true := hx.trans (by decide +kernel)
    subst hx
    replace R := R.trans e
    exact ⟨(), rfl, R⟩
  rintro _ _ w33 e
  replace E := E.trans e
  refine ⟨?_, ?_⟩
  · have R := Ext.refl w33
    intro b w34 hn
    replace R := R.trans hn.ext
    refine ⟨⟨⟨#[226, 128, 169, 204, 129]⟩, [⟨#[226, 128, 169]⟩, ⟨#[204, 129]⟩], _, _⟩, rfl, ⟨hU.ext (E.trans R), by dsimp only; decide, CellsAt.new (vs := [⟨#[226, 128, 169]⟩, ⟨#[204, 129]⟩].map Value.string) hn, by dsimp only; decide⟩, ?_⟩
    rintro x w35 ⟨hx, e⟩
    dsimp only at hx
    replace hx : x = true := hx.trans (by decide +kernel)
    subst hx
    replace R := R.trans e
    refine bcase_mk (fun _ => ?_) (fun h => by cases h)
    intro b w36 hn
    replace R := R.trans hn.ext
    refine ⟨⟨⟨#[225, 132, 128, 225, 132, 128, 225, 133, 161, 225, 133, 161, 225, 134, 168, 225, 134, 168, 97]⟩, [⟨#[225, 132, 128, 225, 132, 128, 225, 133, 161, 225, 133, 161, 225, 134, 168, 225, 134, 168]⟩, ⟨#[97]⟩], _, _⟩, rfl, ⟨hU.ext (E.trans R), by dsimp only; decide, CellsAt.new (vs := [⟨#[225, 132, 128, 225, 132, 128, 225, 133, 161, 225, 133, 161, 225, 134, 168, 225, 134, 168]⟩, ⟨#[97]⟩].map Value.string) hn, by dsimp only; decide⟩, ?_⟩
    rintro x w37 ⟨hx, e⟩
    dsimp only at hx
    replace hx : x = true := hx.trans (by decide +kernel)
    subst hx
    replace R := R.trans e
    refine bcase_mk (fun _ => ?_) (fun h => by cases h)
    intro b w38 hn
    replace R := R.trans hn.ext
    refine ⟨⟨⟨#[234, 176, 156, 225, 133, 161, 225, 134, 168]⟩, [⟨#[234, 176, 156, 225, 133, 161, 225, 134, 168]⟩], _, _⟩, rfl, ⟨hU.ext (E.trans R), by dsimp only; decide, CellsAt.new (vs := [⟨#[234, 176, 156, 225, 133, 161, 225, 134, 168]⟩].map Value.string) hn, by dsimp only; decide⟩, ?_⟩
    rintro x w39 ⟨hx, e⟩
    dsimp only at hx
    replace hx : x = true := hx.trans (by decide +kernel)
    subst hx
    replace R := R.trans e
    refine bcase_mk (fun _ => ?_) (fun h => by cases h)
    intro b w40 hn
    replace R := R.trans hn.ext
    refine ⟨⟨⟨#[225, 132, 128, 234, 176, 129, 225, 132, 128]⟩, [⟨#[225, 132, 128, 234, 176, 129]⟩, ⟨#[225, 132, 128]⟩], _, _⟩, rfl, ⟨hU.ext (E.trans R), by dsimp only; decide, CellsAt.new (vs := [⟨#[225, 132, 128, 234, 176, 129]⟩, ⟨#[225, 132, 128]⟩].map Value.string) hn, by dsimp only; decide⟩, ?_⟩
    rintro x w41 ⟨hx, e⟩
    dsimp only at hx
    replace hx : x = true := hx.trans (by decide +kernel)
    subst hx
    replace R := R.trans e
    refine bcase_mk (fun _ => ?_) (fun h => by cases h)
    intro b w42 hn
    replace R := R.trans hn.ext
    refine ⟨⟨⟨#[225, 134, 168, 225, 133, 161]⟩, [⟨#[225, 134, 168]⟩, ⟨#[225, 133, 161]⟩], _, _⟩, rfl, ⟨hU.ext (E.trans R), by dsimp only; decide, CellsAt.new (vs := [⟨#[225, 134, 168]⟩, ⟨#[225, 133, 161]⟩].map Value.string) hn, by dsimp only; decide⟩, ?_⟩
    rintro x w43 ⟨hx, e⟩
    dsimp only at hx
    replace hx : x = true := hx.trans (by decide +kernel)
    subst hx
    replace R := R.trans e
    exact ⟨(), rfl, R⟩
  rintro _ _ w44 e
  replace E := E.trans e
  refine ⟨(_, _), rfl, ⟨hU.ext E, by decide⟩, ?_⟩
  rintro x1 w45 ⟨hx1, e⟩
  replace hx1 : x1 = (0, 3) := hx1.trans (by decide +kernel)
  subst hx1
  replace E := E.trans e
  refine ⟨(_, _), rfl, ⟨hU.ext E, by decide⟩, ?_⟩
  rintro x2 w46 ⟨hx2, e⟩
  replace hx2 : x2 = (3, 3) := hx2.trans (by decide +kernel)
  subst hx2
  replace E := E.trans e
  refine ⟨(_, _), rfl, ⟨hU.ext E, by decide⟩, ?_⟩
  rintro x3 w47 ⟨hx3, e⟩
  replace hx3 : x3 = (0, 3) := hx3.trans (by decide +kernel)
  subst hx3
  replace E := E.trans e
  refine ⟨?_, ?_⟩
  · have R := Ext.refl w47
    refine ⟨(_, _), rfl, ⟨hU.ext (E.trans R), by decide⟩, ?_⟩
    rintro x w48 ⟨hx, e⟩
    replace hx : x = true := hx.trans (by decide +kernel)
    subst hx
    replace R := R.trans e
    refine bcase_mk (fun _ => ?_) (fun h => by cases h)
    refine ⟨(_, _), rfl, ⟨hU.ext (E.trans R), by decide⟩, ?_⟩
    rintro x w49 ⟨hx, e⟩
    replace hx : x = false := hx.trans (by decide +kernel)
    subst hx
    replace R := R.trans e
    refine bcase_mk (fun _ => ?_) (fun h => by cases h)
    refine ⟨(_, _), rfl, ⟨hU.ext (E.trans R), by decide⟩, ?_⟩
    rintro x w50 ⟨hx, e⟩
    replace hx : x = false := hx.trans (by decide +kernel)
    subst hx
    replace R := R.trans e
    refine bcase_mk (fun _ => ?_) (fun h => by cases h)
    refine bcase_mk (fun _ => ?_) (fun h => absurd h (by decide))
    refine bcase_mk (fun _ => ?_) (fun h => absurd h (by decide))
    refine bcase_mk (fun _ => ?_) (fun h => absurd h (by decide))
    refine bcase_mk (fun _ => ?_) (fun h => absurd h (by decide))
    refine bcase_mk (fun _ => ?_) (fun h => absurd h (by decide))
    refine bcase_mk (fun _ => ?_) (fun h => absurd h (by decide))
    refine ⟨(_, _), rfl, ⟨hU.ext (E.trans R), by decide⟩, ?_⟩
    rintro x w51 ⟨hx, e⟩
    replace hx : x = true := hx.trans (by decide +kernel)
    subst hx
    replace R := R.trans e
    refine bcase_mk (fun _ => ?_) (fun h => by cases h)
    refine ⟨_, rfl, ⟨hU.ext (E.trans R), by decide⟩, ?_⟩
    rintro x w52 ⟨hx, e⟩
    replace hx : x = 0 := hx.trans (by decide +kernel)
    subst hx
    replace R := R.trans e
    refine bcase_mk (fun _ => ?_) (fun h => absurd h (by decide))
    refine ⟨_, rfl, ⟨hU.ext (E.trans R), by decide⟩, ?_⟩
    rintro x w53 ⟨hx, e⟩
    replace hx : x = 0 := hx.trans (by decide +kernel)
    subst hx
    exact ⟨(), rfl, R.trans e⟩
  rintro _ _ w54 e
  replace E := E.trans e
  refine ⟨⟨(0, none, 0), rfl, rfl, Nat.zero_le _, Made.nil _ _ _⟩, ?_⟩
  rintro _ ⟨n, a, c⟩ w55 ⟨hn, hm⟩
  dsimp only at hn hm ⊢
  replace E := E.trans hm.ext
  refine bcase_mk (fun h => ?_) (fun h => ?_)
  · have h := of_decide_eq_true h
    obtain ⟨a2, c2, w56, hrun, hko, hm2⟩ := hm.pushStr (P := Tryd.prog) (ty := 40) elem8 u8_str (ByteArray.mk #[204, 129]) (by show 2 * n + 2 ≤ _; omega)
    refine ⟨a2, c2, w56, hrun, hko, inr_i64 (by omega) (by omega), (n + 1, a2, c2), by simp, rfl, ⟨by dsimp only; omega, ?_⟩, by dsimp only; omega⟩
    rw [mks_succ]
    exact hm2
  · have hn33 : n = 33 := by have := of_decide_eq_false h; omega
    subst hn33
    intro w56 hd
    have hc := hm.row.cells.ext hd.ext
    have hle := hm.row.le
    have b66 : BytesIn w56 a (2 * 33) (mkS 33) := mks_bytes (c := 0) hc (by decide)
    have b64 : BytesIn w56 a 64 (mkS 32) := mks_bytes (c := 0) (m := 32) hc (by decide)
    replace E := E.trans hd.ext
    have fin : ∀ (b : Nat) (w57 : World), New w56 (Obj.cells #[Value.string (mkS 32), Value.string (ByteArray.mk #[204, 129])] 9) b w57 → ∃ (g5 : GRow),
        #[Value.string (mkS 33), Value.slice (some ⟨b, 0, none⟩) 2 2] = #[Value.string g5.s, Value.slice g5.a g5.want.length g5.c] ∧
        (U8 w57 ∧ g5.s.size ≤ 67108864 ∧ CellsAt w57 g5.a (g5.want.map Value.string) ∧ g5.want.length ≤ 1000000) ∧
        ∀ (x5 : Bool) (w58 : World), x5 = rowB g5.s g5.want ∧ Ext w57 w58 →
        bcase x5 (∃ (g6 : Unit), (#[] : Array Value) = #[] ∧ U8 w58 ∧ ∀ (x6 : Unit) (w59 : World), Ext w58 w59 → ∃ (x7 : Unit), Value.bool true = Value.bool true ∧ Ext w w59)
          (∃ (x6 : Unit), Value.bool false = Value.bool true ∧ Ext w w58) := by
      intro b w57 hn
      have E7 := E.trans hn.ext
      refine ⟨⟨mkS 33, [mkS 32, ⟨#[204, 129]⟩], _, _⟩, rfl, ⟨hU.ext E7, by dsimp only; decide +kernel, CellsAt.new (vs := [mkS 32, ⟨#[204, 129]⟩].map Value.string) hn, by dsimp only; decide⟩, ?_⟩
      rintro x w58 ⟨hx, e⟩
      dsimp only at hx
      replace hx : x = true := hx.trans (by decide +kernel)
      subst hx
      refine bcase_mk (fun _ => ?_) (fun h => by cases h)
      exact ⟨(), rfl, hU.ext (E7.trans e), fun _ w59 e2 => yes_ext ((E7.trans e).trans e2)⟩
    refine ⟨64, rfl, by omega, ?_, ?_⟩
    · exact ⟨_, b66, Ext.refl _, _, b64, Ext.refl _, fun b w57 hn => ⟨hn.ext, fin b w57 hn⟩⟩
    · refine ⟨_, b64, Ext.refl _, ⟨_, b66, Ext.refl _, fun b w57 hn => ⟨hn.ext, fin b w57 hn⟩⟩, fun b w57 hn => ⟨hn.ext, mkS 33, ?_, Ext.refl _, fin b w57 hn⟩⟩
      exact mks_bytes (c := 0) (hc.ext hn.ext) (by decide)

end Go.Proofs.YtniiamobbgnjaaaDoor
