/-
  A small calculus of verification conditions, second part: regions ('seqE': in order; 'purE': tests alone; 'mixE': in whatever order).
-/
import Derived.Test.YthkcphnkllnfcaaDoorVc
import Derived.Deep.LoopGhost
import Derived.OrdersIn
set_option linter.unusedVariables false
set_option linter.unusedSimpArgs false
namespace Go.Proofs.YthkcphnkllnfcaaDoor.Vc
open Go Go.RowKit

/-! ### Worlds -/

/-- Of what lay in w nothing has turned but blocks in S. -/
structure Fr (S : Nat → Prop) (w w' : World) : Prop where
  os : w'.os = w.os
  tape : w'.tape = w.tape
  output : w'.output = w.output
  size : w.heap.size ≤ w'.heap.size
  block : ∀ b, b < w.heap.size → ¬ S b → w'.heap[b]? = w.heap[b]?

theorem Fr.refl (S : Nat → Prop) (w : World) : Fr S w w := ⟨rfl, rfl, rfl, Nat.le_refl _, fun _ _ _ => rfl⟩
theorem Fr.trans {S T : Nat → Prop} {a b c : World} (h : Fr S a b) (k : Fr T b c) (hT : ∀ x, x < a.heap.size → T x → S x) : Fr S a c :=
  ⟨k.os.trans h.os, k.tape.trans h.tape, k.output.trans h.output, Nat.le_trans h.size k.size, fun i hi hs => (k.block i (Nat.lt_of_lt_of_le hi h.size) (fun ht => hs (hT i hi ht))).trans (h.block i hi hs)⟩
theorem Fr.mono {S T : Nat → Prop} {a b : World} (h : Fr S a b) (hT : ∀ x, x < a.heap.size → S x → T x) : Fr T a b := ⟨h.os, h.tape, h.output, h.size, fun i hi hs => h.block i hi (fun hx => hs (hT i hi hx))⟩
theorem Fr.of_ext {S : Nat → Prop} {w w' : World} (h : Below w.heap.size w w') : Fr S w w' := ⟨h.os, h.tape, h.output, h.size, fun b hb _ => h.block b hb⟩
theorem Fr.ext {S : Nat → Prop} {w w' : World} (h : Fr S w w') (hS : ∀ b, b < w.heap.size → ¬ S b) : Below w.heap.size w w' := ⟨h.os, h.tape, h.output, h.size, fun b hb => h.block b hb (hS b hb)⟩
theorem Fr.below {S : Nat → Prop} {B : Nat} {w w' : World} (h : Fr S w w') (hB : B ≤ w.heap.size) (hS : ∀ b, b < B → ¬ S b) : Below B w w' := ⟨h.os, h.tape, h.output, h.size, fun b hb => h.block b (Nat.lt_of_lt_of_le hb hB) (hS b hb)⟩
/-- .. its cells are seen elsewhere. -/
theorem Fr.sees {N : Nat → Prop} {w w' : World} {q : Option Nat} (h : Fr N w w') (hq : ∀ b, q = some b → ¬ N b) : SeesB q w w' := fun b hb p v hp hv => by
  have hlt : p.block < w.heap.size := World.block_lt_of_cell? w p hv
  exact (World.cell?_of_block (w := w) (h.block p.block hlt (by rw [hp]; exact hq b hb))).trans hv
/-- What may turn while a region draws its order: nothing, or these blocks. -/
def nOf : Option (Nat → Prop) → Nat → Prop
  | none => fun _ => False
  | some N => N

/-! ### Frames -/

/-- The frame 'a'' is 'a' but for the slots listed. -/
structure Agree (ds : List Tmp) (a a' : Act) : Prop where
  size : a'.tmps.size = a.tmps.size
  defers : a'.defers = a.defers
  slot : ∀ i, i ∉ ds → a'.tmps[i]? = a.tmps[i]?

theorem Agree.refl (ds : List Tmp) (a : Act) : Agree ds a a := ⟨rfl, rfl, fun _ _ => rfl⟩
theorem Agree.trans {d1 d2 : List Tmp} {a b c : Act} (h : Agree d1 a b) (k : Agree d2 b c) : Agree (d1 ++ d2) a c :=
  ⟨k.size.trans h.size, k.defers.trans h.defers, fun i hi => by
    simp only [List.mem_append, not_or] at hi
    exact (k.slot i hi.2).trans (h.slot i hi.1)⟩
theorem Agree.mono {d1 d2 : List Tmp} {a b : Act} (h : Agree d1 a b) (hs : ∀ i, i ∈ d1 → i ∈ d2) : Agree d2 a b :=
  ⟨h.size, h.defers, fun i hi => h.slot i fun h1 => hi (hs i h1)⟩
theorem Agree.put {a : Act} {dst : Option Tmp} {v : Value} : Agree dst.toList a (a.put dst v) := by
  cases dst with
  | none => exact Agree.refl _ _
  | some d =>
    refine ⟨by simp [Act.put], rfl, fun i hi => ?_⟩
    simp only [Option.toList_some, List.mem_singleton] at hi
    simp only [Act.put]
    rw [Array.getElem?_setIfInBounds_ne (fun h => hi h.symm)]

def dstsL (l : List Oper) : List Tmp := match l with
  | [] => []
  | o :: r => (match o.dst with | none => dstsL r | some d => d :: dstsL r)

/-! ### What slots hold, as a list -/

abbrev Env := List (Nat × Value)

def aget (e : Env) (t : Nat) : Value := match e with
  | [] => undef
  | (d, v) :: r => match Nat.beq d t with | true => v | false => aget r t

def evalL (e : Env) : Operand → Value
  | .tmp t => aget e t
  | .const v => v
  | .global g => .pointer (some ⟨g, 0, none⟩)
  | .func f => .func (.func f) #[] #[]

/-- A slot is written, then one goes on. -/
def putK (e : Env) (dst : Option Tmp) (v : Value) (K : Env → Prop) : Prop := match dst with
  | none => K e
  | some d => K ((d, v) :: e)

def nthO : List Oper → Nat → Option Oper
  | [], _ => none
  | o :: _, 0 => some o
  | _ :: r, n + 1 => nthO r n

def gslotE (l : List Oper) (j : Nat) : Option Tmp := match nthO l j with
  | some o => o.dst
  | none => none

/-- What is known of a test is written down. -/
def knowE (l : List Oper) (j : Nat) (b : Bool) (e : Env) : Env := match gslotE l j with
  | none => e
  | some d => (d, .bool b) :: e

def yieldB (l : List Oper) (e : Env) (j : Nat) : Option Bool := match gslotE l j with
  | none => none
  | some d => match aget e d with
    | .bool b => some b
    | _ => none

/-- The list tells what the frame holds. -/
def Rep (e : Env) (a : Act) : Prop := a.eval = evalL e

theorem beqN {i j : Nat} : (i = j ∧ Nat.beq i j = true) ∨ (i ≠ j ∧ Nat.beq i j = false) := by
  by_cases h : i = j
  · exact .inl ⟨h, by subst h; exact Nat.beq_refl i⟩
  · right
    refine ⟨h, ?_⟩
    cases hb : Nat.beq i j with
    | false => rfl
    | true => exact absurd (Nat.eq_of_beq_eq_true hb) h

theorem eval_put_same {a : Act} {d : Tmp} {v : Value} (h : d < a.tmps.size) : (a.put (some d) v).eval (.tmp d) = v := by
  simp [Act.eval, Act.put, h]
theorem eval_put_other {a : Act} {d i : Tmp} {v : Value} (h : i ≠ d) : (a.put (some d) v).eval (.tmp i) = a.eval (.tmp i) := by
  simp only [Act.eval, Act.put, Array.getD_eq_getD_getElem?]
  rw [Array.getElem?_setIfInBounds_ne (fun e => h e.symm)]

theorem Rep.put {e : Env} {a : Act} (h : Rep e a) {d : Tmp} (hd : d < a.tmps.size) (v : Value) : Rep ((d, v) :: e) (a.put (some d) v) := by
  funext x
  cases x with
  | tmp t =>
    simp only [evalL, aget]
    rcases @beqN d t with ⟨h1, h2⟩ | ⟨h1, h2⟩
    · subst h1; simp only [h2]; exact eval_put_same hd
    · simp only [h2]; rw [eval_put_other (fun x => h1 x.symm)]; exact congrFun h (.tmp t)
  | _ => rfl

theorem nthO_eq (l : List Oper) (j : Nat) : nthO l j = l[j]? := by
  induction l generalizing j with
  | nil => rfl
  | cons o r ih => cases j with
    | zero => rfl
    | succ n => simpa [nthO] using ih n

theorem yieldB_eq {ops : Array Oper} {e : Env} {a : Act} (h : Rep e a) (j : Nat) : yielded ops a.tmps j = yieldB ops.toList e j := by
  unfold yielded yieldB gslotE
  rw [nthO_eq, Array.getElem?_toList]
  cases ho : ops[j]? with
  | none => simp
  | some o =>
    cases hd : o.dst with
    | none => simp [hd]
    | some d =>
      simp only [hd, Option.bind_some]
      have hv : aget e d = a.eval (.tmp d) := (congrFun h (.tmp d)).symm
      rw [hv]
      simp only [Act.eval, Array.getD_eq_getD_getElem?]
      cases ht : a.tmps[d]? with
      | none => rfl
      | some v => cases v <;> rfl

theorem knowE_rep {e : Env} {a : Act} (h : Rep e a) {l : List Oper} {j : Nat} {b : Bool} (hy : yieldB l e j = some b) : Rep (knowE l j b e) a := by
  unfold yieldB at hy
  unfold knowE
  cases hg : gslotE l j with
  | none => rw [hg] at hy; cases hy
  | some d =>
    rw [hg] at hy
    dsimp only at hy ⊢
    have hv : aget e d = .bool b := by
      split at hy
      · rename_i b' hb; simp only [Option.some.injEq] at hy; rw [hb, hy]
      · cases hy
    funext x
    rw [h]
    cases x with
    | tmp t =>
      simp only [evalL, aget]
      rcases @beqN d t with ⟨h1, h2⟩ | ⟨h1, h2⟩
      · subst h1; simp only [h2]; exact hv
      · simp only [h2]
    | _ => rfl

theorem putK_spec {e : Env} {a : Act} (h : Rep e a) {dst : Option Tmp} (hd : ∀ d, dst = some d → d < a.tmps.size) {v : Value} {K : Env → Prop} (hk : putK e dst v K) : ∃ e', Rep e' (a.put dst v) ∧ K e' := by
  cases dst with
  | none => exact ⟨e, h, hk⟩
  | some d => exact ⟨_, h.put (hd d rfl) v, hk⟩

/-! ### Every frame, be it a function's or a round's -/

abbrev WF (r : Option Nat) : Fence := { Fence.wide with round := r }
def QN (R : Act → World → Prop) : Exit → Act → World → Prop := fun x a w => match x with | .normal => R a w | _ => False
def notDefer : Op → Bool | .defer _ => false | _ => true

theorem calls_in {r : Option Nat} {P : Program} {f : FuncId} {args : Array Value} {w : World} {R : Ending → World → Prop} (h : Calls P f args w R) : CallsIn (WF r) 0 P f args w R :=
  (callsIn_wide (n := 0)).2 h
theorem rows_in {r : Option Nat} {P : Program} {row : String} {args : Array Value} {w : World} {R : Value → World → Prop} (h : Rows P row args w R) : RowsIn (WF r) 0 P row args w R :=
  fun c cs _ => let ⟨v, w', h1, h2⟩ := h c cs; ⟨v, w', h1, stepsIn_wide.2 h2⟩

theorem op_in {r : Option Nat} {P : Program} {o : Oper} {a : Act} {w : World} {K : Act → World → Prop} {Q : Exit → Act → World → Prop} (hd : notDefer o.op = true) (h : o.wp P a w K Q) : o.wpIn (WF r) 0 P a w K Q := by
  have hd' : ∀ c, o.op ≠ .defer c := by intro c e; rw [e] at hd; cases hd
  refine ⟨fun _ _ => trivial, ?_⟩
  rw [Oper.semAt_eq _ _ _ hd']
  unfold Oper.wp at h
  generalize (execOp a.eval o).run P w = x at h ⊢
  cases x with
  | ok n w' =>
    cases n <;> simp only [Oper.upon] at h <;> simp only [Oper.uponIn] <;> first
      | exact h
      | exact ⟨(fun hh => by cases hh), calls_in h⟩
      | exact ⟨(fun hh => by cases hh), rows_in h⟩
  | halt y w' => cases y <;> simp only [Oper.upon] at h <;> simp only [Oper.uponIn] <;> exact h

/-- A call of a round. -/
structure YieldAnn where
  l : Nat
  Q : Type
  args : Q → List Value
  pre : Q → World → Prop
  post : Q → Bool → World → World → Prop

def YieldOk (P : Program) (E : Nat → Prop) (Y : YieldAnn) : Prop :=
  ∀ q w, Y.pre q w → YieldAt (WF none) 0 P Y.l (Y.args q).toArray w fun e w' => ∃ b, e = .returned (.bool b) ∧ Y.post q b w w' ∧ KOE E w w'

def mapV (ρ : Operand → Value) : List Operand → List Value
  | [] => []
  | x :: r => ρ x :: mapV ρ r
theorem mapV_eq (ρ : Operand → Value) (l : List Operand) : mapV ρ l = l.map ρ := by induction l with | nil => rfl | cons x r ih => simp [mapV, ih]

/-- The loop whose round this operation calls. -/
def yieldOf (ρ : Operand → Value) (o : Oper) : Option (Nat × List Value) := match o.op with
  | .call c => match c.callee with
    | .value f => match ρ f with
      | .func (.yield l) ⟨[]⟩ ⟨[]⟩ => some (l, mapV ρ c.args.toList)
      | _ => none
    | _ => none
  | _ => none

def yieldE (Y : Option YieldAnn) (l : Nat) (args : List Value) (w : World) (K : Value → World → Prop) : Prop := match Y with
  | none => False
  | some y => l = y.l ∧ ∃ q : y.Q, args = y.args q ∧ Own (y.pre q w) ∧ ∀ (b : Bool) (w' : World), Own (y.post q b w w') → K (.bool b) w'

theorem yield_run {P : Program} {ρ : Operand → Value} {o : Oper} {l : Nat} {args : List Value} (h : yieldOf ρ o = some (l, args)) {w : World} : notDefer o.op = true ∧ (execOp ρ o).run P w = (Instr.yield l args.toArray).run P w := by
  unfold yieldOf at h
  split at h
  case h_2 => cases h
  rename_i c ho
  split at h
  case h_2 => cases h
  rename_i f hc
  split at h
  case h_2 => cases h
  rename_i l' hf
  simp only [Option.some.injEq, Prod.mk.injEq] at h
  obtain ⟨rfl, rfl⟩ := h
  refine ⟨by rw [ho]; rfl, ?_⟩
  have e1 : (mapV ρ c.args.toList).toArray = c.args.map ρ := by apply Array.ext'; simp [mapV_eq]
  rw [e1]
  simp [execOp, ho, resolve, hc, hf, Deferred.ofValue, invoke]

theorem yield_spec {P : Program} {E : Nat → Prop} {Y : Option YieldAnn} (hY : ∀ y, Y = some y → YieldOk P E y) {r : Option Nat} {o : Oper} {ρ : Operand → Value} {a : Act} (ha : a.eval = ρ) {l : Nat} {args : List Value} {w : World} {K : Value → World → Prop}
    {K2 : Act → World → Prop} {Q : Exit → Act → World → Prop} (hy : yieldOf ρ o = some (l, args)) (hK : ∀ v w', K v w' → KOE E w w' → K2 (a.put o.dst v) w') (h : yieldE Y l args w K) : o.wpIn (WF r) 0 P a w K2 Q := by
  unfold yieldE at h
  split at h
  case h_1 => exact h.elim
  rename_i y
  obtain ⟨e1, q, e2, hp, hk⟩ := h
  obtain ⟨fn, tmps, assign, body, hrun, hround⟩ := hY y rfl q w hp
  obtain ⟨hd, hr⟩ := yield_run (P := P) (w := w) hy
  have hd' : ∀ c, o.op ≠ .defer c := by intro c e; rw [e] at hd; cases hd
  refine ⟨fun _ _ => trivial, ?_⟩
  rw [Oper.semAt_eq _ _ _ hd', ha, hr, e2, e1, hrun]
  refine ⟨(fun hh => by cases hh), ?_⟩
  refine RoundIn.mono (F := WF r) hround ?_
  rintro e w' ⟨b, rfl, hpost, hko⟩
  exact hK _ _ (hk b w' hpost) hko

/-- An operation that is carried out. -/
def actE (P : Program) (sp : List (Nat × CallSpec)) (Y : Option YieldAnn) (wr : Bool) (o : Oper) (ρ : Operand → Value) (w : World) (K : Value → World → Prop) : Prop := match yieldOf ρ o with
  | some (l, args) => yieldE Y l args w K
  | none => opE P sp wr o ρ w K

theorem opE_notDefer {P : Program} {sp : List (Nat × CallSpec)} {wr : Bool} {o : Oper} {ρ : Operand → Value} {w : World} {K : Value → World → Prop} (h : opE P sp wr o ρ w K) : notDefer o.op = true := by
  unfold opE at h
  split at h
  case h_1 => exact h.elim
  all_goals simp_all [notDefer]

theorem actE_spec {P : Program} {sp : List (Nat × CallSpec)} (hsp : ∀ f s, specAt sp f = some s → s.Ok P f) {E : Nat → Prop} {Y : Option YieldAnn} (hY : ∀ y, Y = some y → YieldOk P E y) {r : Option Nat} {wr : Bool} {o : Oper} {ρ : Operand → Value} {a : Act} (ha : a.eval = ρ) {w : World}
    {K : Value → World → Prop} {K2 : Act → World → Prop} {Q : Exit → Act → World → Prop} (hK : ∀ v w', K v w' → KOE E w w' → K2 (a.put o.dst v) w') (h : actE P sp Y wr o ρ w K) : o.wpIn (WF r) 0 P a w K2 Q := by
  unfold actE at h
  split at h
  · rename_i l args hy
    exact yield_spec hY ha hy hK h
  · exact op_in (opE_notDefer h) (opE_spec hsp ha (fun v w' hv hko => hK v w' hv hko.to) h)

theorem wpListIn_go {r : Option Nat} {P : Program} {ops : Array Oper} {Q : Exit → Act → World → Prop} {o : Oper} {rest : List Oper} {a : Act} {w : World} (hw : Region.wanted o (yielded ops a.tmps) = true) (h : o.wpIn (WF r) 0 P a w (wpListIn (WF r) 0 P ops Q rest) Q) :
    wpListIn (WF r) 0 P ops Q (o :: rest) a w := by
  simp only [wpListIn]; rw [if_pos hw]; exact h
theorem wpListIn_no {r : Option Nat} {P : Program} {ops : Array Oper} {Q : Exit → Act → World → Prop} {o : Oper} {rest : List Oper} {a : Act} {w : World} (hw : Region.wanted o (yielded ops a.tmps) = false) (h : wpListIn (WF r) 0 P ops Q rest (a.put o.dst undef) w) :
    wpListIn (WF r) 0 P ops Q (o :: rest) a w := by
  simp only [wpListIn]; rw [if_neg (by simp [hw])]; exact ⟨fun _ _ => trivial, h⟩

/-! ### A region, one operation after the other -/

/-- 'x := T{..}' whose address is taken: a new variable, filled at once. -/
def boxOf (P : Program) (e : Env) (o : Oper) (rest : List Oper) : Option (TypeId × Array Value) :=
  match o.op with
  | .alloc t => match o.dst, o.guard, rest with
    | some d, none, ⟨none, .store t' (.tmp d') (.tmp v), _, _, _, none⟩ :: _ =>
      (match Nat.beq t t' && Nat.beq d d' && !(Nat.beq v d) with
      | true => (match zeroOf P t with
        | some z => (match (P.info? t).map (·.size), aget e v, isAggB P t with
          | some n, .agg cs, some true => (match Nat.beq z.cells.size n && Nat.beq cs.size n && cs.toList.all (·.oneCell') with | true => some (t, cs) | false => none)
          | _, _, _ => none)
        | none => none)
      | false => none)
    | _, _, _ => none
  | _ => none

def seqE (P : Program) (sp : List (Nat × CallSpec)) (Y : Option YieldAnn) (wr : Bool) (ops : List Oper) : List Oper → Bool → Env → World → (Env → World → Prop) → Prop
  | [], _, e, w, K => K e w
  | _ :: rest, true, e, w, K => seqE P sp Y wr ops rest false e w K
  | o :: rest, false, e, w, K =>
    match boxOf P e o rest with
    | some (t, cs) => ∀ b w1, New w (.cells cs t) b w1 → putK e o.dst (.pointer (some ⟨b, 0, none⟩)) fun e' => seqE P sp Y wr ops rest true e' w1 K
    | none =>
    match o.guard with
    | none => actE P sp Y wr o (evalL e) w fun v w' => putK e o.dst v fun e' => seqE P sp Y wr ops rest false e' w' K
    | some (j, want) => match yieldB ops e j with
      | some b => bcase b
          (match want with | true => actE P sp Y wr o (evalL e) w fun v w' => putK (knowE ops j true e) o.dst v fun e' => seqE P sp Y wr ops rest false e' w' K | false => putK (knowE ops j true e) o.dst undef fun e' => seqE P sp Y wr ops rest false e' w K)
          (match want with | false => actE P sp Y wr o (evalL e) w fun v w' => putK (knowE ops j false e) o.dst v fun e' => seqE P sp Y wr ops rest false e' w' K | true => putK (knowE ops j false e) o.dst undef fun e' => seqE P sp Y wr ops rest false e' w K)
      | none => putK e o.dst undef fun e' => seqE P sp Y wr ops rest false e' w K

theorem wanted_none {o : Oper} {y : Nat → Option Bool} (h : o.guard = none) : Region.wanted o y = true := by simp [Region.wanted, h]
theorem wanted_some {o : Oper} {y : Nat → Option Bool} {j : Nat} {want : Bool} (h : o.guard = some (j, want)) : Region.wanted o y = (y j == some want) := by simp [Region.wanted, h]

theorem alloc_setRow (w : World) (z cs : Array Value) (t : TypeId) : (w.alloc (.cells z t)).setRow w.heap.size cs = w.alloc (.cells cs t) := by
  have hs : w.heap.size < (w.alloc (.cells z t)).heap.size := by simp
  have hh : (w.alloc (.cells z t)).setRow w.heap.size cs = { (w.alloc (.cells z t)) with heap := ((w.alloc (.cells z t)).setRow w.heap.size cs).heap } := rfl
  rw [hh]
  have : ((w.alloc (.cells z t)).setRow w.heap.size cs).heap = (w.alloc (.cells cs t)).heap := by
    apply Array.ext_getElem?
    intro k
    by_cases hk : k = w.heap.size
    · subst hk
      rw [setRow_heap _ _ _ _ _ _ (heap_alloc_new w _), heap_alloc_new]
    · rw [setRow_other _ _ _ _ hk]
      show (w.heap.push _)[k]? = (w.heap.push _)[k]?
      rw [Array.getElem?_push, Array.getElem?_push, if_neg hk, if_neg hk]
  rw [this]
  rfl

theorem wp_of_value {P : Program} {o : Oper} {a : Act} {w w1 : World} {v : Value} {K : Act → World → Prop} {Q : Exit → Act → World → Prop} (hr : (execOp a.eval o).run P w = .ok (.value v) w1) (hk : K (a.put o.dst v) w1) : o.wp P a w K Q := by
  unfold Oper.wp; rw [hr]; exact hk
theorem wp_of_skip {P : Program} {o : Oper} {a : Act} {w w1 : World} {K : Act → World → Prop} {Q : Exit → Act → World → Prop} (hr : (execOp a.eval o).run P w = .ok .skip w1) (hk : K (a.put o.dst undef) w1) : o.wp P a w K Q := by
  unfold Oper.wp; rw [hr]; exact hk
theorem dstsL_cons {o : Oper} {l : List Oper} : dstsL (o :: l) = o.dst.toList ++ dstsL l := by
  simp only [dstsL]; cases o.dst <;> rfl
theorem size_put {a : Act} {dst : Option Tmp} {v : Value} : (a.put dst v).tmps.size = a.tmps.size := Agree.put.size

theorem seqE_sound {P : Program} {sp : List (Nat × CallSpec)} (hsp : ∀ f s, specAt sp f = some s → s.Ok P f) {E : Nat → Prop} {Y : Option YieldAnn} (hY : ∀ y, Y = some y → YieldOk P E y) {r : Option Nat} {wr : Bool} {ops : Array Oper} {R : Act → World → Prop} {K : Env → World → Prop} :
    ∀ (l : List Oper) (e : Env) (a : Act) (w : World), Rep e a → (∀ d, d ∈ dstsL l → d < a.tmps.size) → (∀ e' a' w', Rep e' a' → Agree (dstsL l) a a' → KOE E w w' → K e' w' → R a' w') →
      seqE P sp Y wr ops.toList l false e w K → wpListIn (WF r) 0 P ops (QN R) l a w := by
  have main : ∀ (n : Nat) (l : List Oper), l.length = n → ∀ (e : Env) (a : Act) (w : World), Rep e a → (∀ d, d ∈ dstsL l → d < a.tmps.size) → (∀ e' a' w', Rep e' a' → Agree (dstsL l) a a' → KOE E w w' → K e' w' → R a' w') →
      seqE P sp Y wr ops.toList l false e w K → wpListIn (WF r) 0 P ops (QN R) l a w := by
    intro n
    induction n using Nat.strongRecOn with
    | _ n ih =>
      intro l hn e a w hr hd hQ h
      cases l with
      | nil => exact hQ e a w hr (Agree.refl _ _) (KOE.refl _ _) h
      | cons o rest =>
        have hdo : ∀ d, o.dst = some d → d < a.tmps.size := fun d h => hd d (by rw [dstsL_cons, h]; simp)
        have next : ∀ {e0 : Env} {v : Value} {w' : World}, Rep e0 a → KOE E w w' → (putK e0 o.dst v fun e' => seqE P sp Y wr ops.toList rest false e' w' K) → wpListIn (WF r) 0 P ops (QN R) rest (a.put o.dst v) w' := by
          intro e0 v w' hr0 hko hk
          obtain ⟨e', hr', hk'⟩ := putK_spec hr0 hdo hk
          exact ih rest.length (by simp at hn; omega) rest rfl _ _ _ hr' (fun d hd' => by rw [size_put]; exact hd d (by rw [dstsL_cons]; simp [hd']))
            (fun e2 a2 w2 hr2 hag hko2 hk2 => hQ e2 a2 w2 hr2 ((Agree.trans Agree.put hag).mono (by rw [dstsL_cons]; simp)) (hko.trans hko2) hk2) hk'
        have run : ∀ {e0 : Env}, Rep e0 a → (actE P sp Y wr o (evalL e) w fun v w' => putK e0 o.dst v fun e' => seqE P sp Y wr ops.toList rest false e' w' K) → o.wpIn (WF r) 0 P a w (wpListIn (WF r) 0 P ops (QN R) rest) (QN R) :=
          fun hr0 h => actE_spec hsp hY hr (K2 := wpListIn (WF r) 0 P ops (QN R) rest) (fun v w' hv hko => next hr0 hko hv) h
        simp only [seqE] at h
        split at h
        · rename_i t cs hb
          unfold boxOf at hb
          split at hb
          case h_2 => cases hb
          rename_i t1 hop
          split at hb
          case h_2 => cases hb
          rename_i d1 t' d' v _ _ _ rest2 hdst hguard
          split at hb
          case h_2 => cases hb
          rename_i hcond
          simp only [Bool.and_eq_true, Bool.not_eq_true'] at hcond
          obtain ⟨⟨e1, e2⟩, e3⟩ := hcond
          have e1 := Nat.eq_of_beq_eq_true e1
          have e2 := Nat.eq_of_beq_eq_true e2
          subst e1 e2
          split at hb
          case h_2 => cases hb
          rename_i z hz
          split at hb
          case h_2 => cases hb
          rename_i sz cs' hinfo hev hagg
          split at hb
          case h_2 => cases hb
          rename_i hc2
          simp only [Option.some.injEq, Prod.mk.injEq] at hb
          obtain ⟨rfl, rfl⟩ := hb
          simp only [Bool.and_eq_true] at hc2
          obtain ⟨⟨c1, c2⟩, c3⟩ := hc2
          have c1 := Nat.eq_of_beq_eq_true c1
          have c2 := Nat.eq_of_beq_eq_true c2
          have c3' : cs'.all (·.oneCell') = true := by simpa using c3
          have e4 : d1 < a.tmps.size := hdo d1 hdst
          have h' := h _ _ ⟨rfl, rfl⟩
          simp only [seqE, hdst, putK] at h'
          have hvd : v ≠ d1 := by intro e; subst e; simp at e3
          have hev' : a.eval (.tmp v) = .agg cs' := (congrFun hr (.tmp v)).trans hev
          have hrun : (execOp a.eval o).run P w = .ok (.value (.pointer (some ⟨w.heap.size, 0, none⟩))) (w.alloc (.cells z.cells t1)) := by
            simp [execOp, hop, Instr.alloc, info_zero hz, newVar, newRow]
          refine wpListIn_go (wanted_none hguard) (op_in (by rw [hop]; rfl) (wp_of_value hrun (wpListIn_go (wanted_none rfl) (op_in rfl ?_))))
          rw [hdst]
          refine wp_of_skip (w1 := w.alloc (.cells cs' t1)) ?_ ?_
          · have hst := run_storeVar_row (P := P) (w.alloc (.cells z.cells t1)) w.heap.size t1 t1 z.cells cs' (heap_alloc_new w _) (by rw [hinfo, c2]) (by omega) c3'
            rw [alloc_setRow] at hst
            simp only [execOp, eval_put_same e4, eval_put_other hvd, hev', Instr.storeAt, Instr.sureAddr, Sem.run_bind, Sem.run_pure, Result.andThen, hst]
          have hput : ∀ x : Act, x.put none undef = x := fun x => rfl
          rw [hput]
          refine ih rest2.length (by simp at hn; omega) rest2 rfl _ _ _ (hr.put e4 _) (fun d hd' => ?_) (fun e2 a2 w2 hr2 hag hko2 hk2 => hQ e2 a2 w2 hr2 ((Agree.trans (Agree.put (dst := some d1)) hag).mono ?_) ((KO.alloc _ _).to.trans hko2) hk2) h'
          · rw [size_put]; exact hd d (by rw [dstsL_cons, dstsL_cons]; simp [hd'])
          · intro i hi
            rw [dstsL_cons, dstsL_cons]
            simp [hdst] at hi ⊢
            exact hi
        · split at h
          · rename_i hg
            exact wpListIn_go (wanted_none hg) (run hr h)
          · rename_i j want hg
            have hye := yieldB_eq (ops := ops) hr j
            split at h
            · rename_i b hy
              rw [hy] at hye
              have hr0 := knowE_rep hr hy
              cases b <;> cases want <;> simp only [bcase] at h
              · exact wpListIn_go (by rw [wanted_some hg, hye]; rfl) (run hr0 h)
              · exact wpListIn_no (by rw [wanted_some hg, hye]; rfl) (next hr0 (KOE.refl _ _) h)
              · exact wpListIn_no (by rw [wanted_some hg, hye]; rfl) (next hr0 (KOE.refl _ _) h)
              · exact wpListIn_go (by rw [wanted_some hg, hye]; rfl) (run hr0 h)
            · rename_i hy
              rw [hy] at hye
              exact wpListIn_no (by rw [wanted_some hg, hye]; rfl) (next hr (KOE.refl _ _) h)
  exact fun l => main l.length l rfl

/-! ### A region of tests alone: its ways are put together again -/

def pureOp : Op → Bool
  | .move _ => true
  | .assign _ => true
  | .pick .. => true
  | .extract .. => true
  | .unOp .not _ _ => true
  | .binOp .eql .. => true
  | .binOp .neq .. => true
  | .binOp .lss .. => true
  | .binOp .leq .. => true
  | .binOp .gtr .. => true
  | .binOp .geq .. => true
  | .call { callee := .builtin .len, .. } => true
  | _ => false

def vsel (b : Bool) (u v : Value) : Value := match b with | true => u | false => v
def mergeV (b : Bool) (u v : Value) : Value := match u, v with
  | .bool x, .bool y => .bool (cond b x y)
  | _, _ => vsel b u v
theorem mergeV_true (u v : Value) : mergeV true u v = u := by unfold mergeV; split <;> rfl
theorem mergeV_false (u v : Value) : mergeV false u v = v := by unfold mergeV; split <;> rfl

def mergeT (b : Bool) (x y : Env) : List Tmp → Env → Env
  | [], e => e
  | d :: ds, e => mergeT b x y ds ((d, mergeV b (aget x d) (aget y d)) :: e)

def okM (b x y : Bool) : Bool := match x, y with
  | true, true => true
  | x, y => cond b x y
theorem okM_true {x y : Bool} (h : okM true x y = true) : x = true := by cases x <;> cases y <;> simp_all [okM]
theorem okM_false {x y : Bool} (h : okM false x y = true) : y = true := by cases x <;> cases y <;> simp_all [okM]

def mergeA (b : Bool) (ds : List Tmp) (e : Env) (x y : Env × Bool) : Env × Bool := (mergeT b x.1 y.1 ds e, okM b x.2 y.2)

def putE (e : Env) (dst : Option Tmp) (v : Value) : Env := match dst with
  | none => e
  | some d => (d, v) :: e

/-- What is known of slots: 'if it holds a Boolean, then this one'. -/
def kvAt (kv : List (Tmp × Bool)) (d : Tmp) : Option Bool := match kv with
  | [] => none
  | (e, c) :: r => match Nat.beq e d with | true => some c | false => kvAt r d
def kvDrop (kv : List (Tmp × Bool)) (d : Tmp) : List (Tmp × Bool) := match kv with
  | [] => []
  | (e, c) :: r => match Nat.beq e d with | true => kvDrop r d | false => (e, c) :: kvDrop r d
def kvOperand (kv : List (Tmp × Bool)) : Operand → Option Bool
  | .tmp t => kvAt kv t
  | .const (.bool c) => some c
  | _ => none
def kvOp (kv : List (Tmp × Bool)) : Op → Option Bool
  | .move x => kvOperand kv x
  | .assign x => kvOperand kv x
  | .pick c x y => match kvOperand kv c with
    | some true => kvOperand kv x
    | some false => kvOperand kv y
    | none => none
  | _ => none
def kvPut (kv : List (Tmp × Bool)) (dst : Option Tmp) (c : Option Bool) : List (Tmp × Bool) := match dst with
  | none => kv
  | some d => match c with | some b => (d, b) :: kvDrop kv d | none => kvDrop kv d

/-- What the slots hold behind the region, and whether every operation that is carried out is one that can be. -/
def purE (P : Program) (ops : List Oper) : List Oper → List (Tmp × Bool) → Env → Env × Bool
  | [], _, e => (e, true)
  | o :: rest, kv, e => match pureOp o.op with
    | false => (e, false)
    | true => match o.guard with
      | none => (match plain P (execOp (evalL e) o) with
        | some (.value v) => purE P ops rest (kvPut kv o.dst (kvOp kv o.op)) (putE e o.dst v)
        | _ => (e, false))
      | some (j, want) => match yieldB ops e j with
        | none => purE P ops rest (kvPut kv o.dst none) (putE e o.dst undef)
        | some b => match (gslotE ops j).bind (kvAt kv) with
          | some c => (match c == want with
            | true => (match plain P (execOp (evalL e) o) with | some (.value v) => purE P ops rest (kvPut kv o.dst (kvOp kv o.op)) (putE e o.dst v) | _ => (e, false))
            | false => purE P ops rest (kvPut kv o.dst none) (putE e o.dst undef))
          | none => mergeA b (dstsL (o :: rest)) e
            (match want with
              | true => (match plain P (execOp (evalL (putE e (gslotE ops j) (.bool true))) o) with
                | some (.value v) => purE P ops rest (kvPut (kvPut kv (gslotE ops j) (some true)) o.dst none) (putE (putE e (gslotE ops j) (.bool true)) o.dst v) | _ => (e, false))
              | false => purE P ops rest (kvPut (kvPut kv (gslotE ops j) (some true)) o.dst none) (putE (putE e (gslotE ops j) (.bool true)) o.dst undef))
            (match want with
              | false => (match plain P (execOp (evalL (putE e (gslotE ops j) (.bool false))) o) with
                | some (.value v) => purE P ops rest (kvPut (kvPut kv (gslotE ops j) (some false)) o.dst none) (putE (putE e (gslotE ops j) (.bool false)) o.dst v) | _ => (e, false))
              | true => purE P ops rest (kvPut (kvPut kv (gslotE ops j) (some false)) o.dst none) (putE (putE e (gslotE ops j) (.bool false)) o.dst undef))

def KvOk (kv : List (Tmp × Bool)) (e : Env) : Prop := ∀ d c, kvAt kv d = some c → ∀ b, aget e d = .bool b → b = c

theorem kvDrop_at {kv : List (Tmp × Bool)} {d e : Tmp} {c : Bool} (h : kvAt (kvDrop kv d) e = some c) : e ≠ d ∧ kvAt kv e = some c := by
  induction kv with
  | nil => simp [kvDrop, kvAt] at h
  | cons p r ih =>
    obtain ⟨f, b⟩ := p
    simp only [kvDrop] at h
    rcases @beqN f d with ⟨h1, h2⟩ | ⟨h1, h2⟩
    · simp only [h2] at h
      obtain ⟨h3, h4⟩ := ih h
      refine ⟨h3, ?_⟩
      simp only [kvAt]
      rcases @beqN f e with ⟨h5, _⟩ | ⟨_, h6⟩
      · exact absurd (h5.symm.trans h1) h3
      · simp only [h6]; exact h4
    · simp only [h2, kvAt] at h
      simp only [kvAt]
      rcases @beqN f e with ⟨h5, h6⟩ | ⟨h5, h6⟩
      · simp only [h6] at h ⊢
        exact ⟨fun he => h1 (h5.trans he), h⟩
      · simp only [h6] at h ⊢
        exact ih h

theorem aget_put_same {e : Env} {d : Tmp} {v : Value} : aget (putE e (some d) v) d = v := by
  simp only [putE, aget]
  rcases @beqN d d with ⟨_, h⟩ | ⟨h, _⟩
  · simp only [h]
  · exact absurd rfl h
theorem aget_put_other {e : Env} {d i : Tmp} {v : Value} (h : i ≠ d) : aget (putE e (some d) v) i = aget e i := by
  simp only [putE, aget]
  rcases @beqN d i with ⟨h1, _⟩ | ⟨_, h2⟩
  · exact absurd h1.symm h
  · simp only [h2]

theorem KvOk.put {kv : List (Tmp × Bool)} {e : Env} (h : KvOk kv e) (dst : Option Tmp) (c : Option Bool) (v : Value) (hc : ∀ b, c = some b → ∀ b', v = .bool b' → b' = b) : KvOk (kvPut kv dst c) (putE e dst v) := by
  cases dst with
  | none => exact h
  | some d =>
    have old : ∀ f c', kvAt (kvDrop kv d) f = some c' → ∀ b, aget (putE e (some d) v) f = .bool b → b = c' := by
      intro f c' he b hb
      obtain ⟨h1, h2⟩ := kvDrop_at he
      rw [aget_put_other h1] at hb
      exact h f c' h2 b hb
    intro f c' he b hb
    cases c with
    | none => exact old f c' he b hb
    | some b0 =>
      simp only [kvPut, kvAt] at he
      rcases @beqN d f with ⟨h5, h6⟩ | ⟨h5, h6⟩
      · simp only [h6, Option.some.injEq] at he
        subst h5 he
        rw [aget_put_same] at hb
        exact hc _ rfl b hb
      · simp only [h6] at he
        exact old f c' he b hb

theorem kvOperand_ok {kv : List (Tmp × Bool)} {e : Env} (h : KvOk kv e) {x : Operand} {c b : Bool} (hx : kvOperand kv x = some c) (hv : evalL e x = .bool b) : b = c := by
  unfold kvOperand at hx
  split at hx
  · rename_i t
    exact h t c hx b hv
  · simp only [evalL, Value.bool.injEq] at hv; simp only [Option.some.injEq] at hx; rw [← hx, hv]
  · cases hx

theorem kvOp_ok {P : Program} {kv : List (Tmp × Bool)} {e : Env} (h : KvOk kv e) {o : Oper} {v : Value} (hv : plain P (execOp (evalL e) o) = some (.value v)) : ∀ c, kvOp kv o.op = some c → ∀ b, v = .bool b → b = c := by
  intro c hc b hb
  subst hb
  have hrun := plain_run _ hv default
  unfold kvOp at hc
  split at hc
  · rename_i x ho
    simp only [execOp, ho, Sem.run_pure, Result.ok.injEq, Next.value.injEq, and_true] at hrun
    exact kvOperand_ok h hc hrun
  · rename_i x ho
    simp only [execOp, ho, Sem.run_pure, Result.ok.injEq, Next.value.injEq, and_true] at hrun
    exact kvOperand_ok h hc hrun
  · rename_i q x y ho
    simp only [execOp, ho] at hrun
    cases hq : evalL e q with
    | bool t =>
      simp only [hq, asBool, pure_bind, Sem.run_pure, Result.ok.injEq, Next.value.injEq, and_true] at hrun
      split at hc
      · rename_i hk
        have := kvOperand_ok h hk hq
        subst this
        exact kvOperand_ok h hc (by simpa using hrun)
      · rename_i hk
        have := kvOperand_ok h hk hq
        subst this
        exact kvOperand_ok h hc (by simpa using hrun)
      · cases hc
    | _ => simp [hq, asBool] at hrun
  · cases hc

theorem act_ext {a b : Act} (h1 : a.tmps.size = b.tmps.size) (h2 : ∀ i : Nat, i < a.tmps.size → a.tmps[i]? = b.tmps[i]?) (h3 : a.defers = b.defers) : a = b := by
  obtain ⟨t, d⟩ := a
  obtain ⟨t', d'⟩ := b
  simp only at h1 h2 h3
  subst h3
  congr 1
  apply Array.ext_getElem?
  intro i
  by_cases hi : i < t.size
  · exact h2 i hi
  · rw [Array.getElem?_eq_none (by omega), Array.getElem?_eq_none (by omega)]

theorem eval_tmp_getElem? {a : Act} {i : Nat} (h : i < a.tmps.size) : a.tmps[i]? = some (a.eval (.tmp i)) := by
  simp only [Act.eval, Array.getD_eq_getD_getElem?, Array.getElem?_eq_getElem h, Option.getD_some]

theorem put_self {a : Act} {d : Tmp} {v : Value} (h : a.tmps[d]? = some v) : a.put (some d) v = a := by
  refine act_ext (by simp [Act.put]) (fun i hi => ?_) rfl
  simp only [Act.put]
  by_cases hd : d = i
  · subst hd; rw [Array.getElem?_setIfInBounds_self]; simp [Act.put] at hi; rw [if_pos hi, h]
  · rw [Array.getElem?_setIfInBounds_ne hd]

/-- Slots not written keep what they held. -/
theorem Rep.of_agree {e e' : Env} {a a' : Act} {ds : List Tmp} (hr : Rep e a) (hag : Agree ds a a') (h1 : ∀ t, t ∈ ds → aget e' t = a'.eval (.tmp t)) (h2 : ∀ t, t ∉ ds → aget e' t = aget e t) : Rep e' a' := by
  funext x
  cases x with
  | tmp t =>
    by_cases ht : t ∈ ds
    · exact (h1 t ht).symm
    · show a'.eval (.tmp t) = aget e' t
      rw [h2 t ht, ← show a.eval (.tmp t) = aget e t from congrFun hr (.tmp t)]
      simp only [Act.eval, Array.getD_eq_getD_getElem?, hag.slot t ht]
  | _ => rfl

theorem mergeT_get {b : Bool} {x y : Env} {t : Nat} : ∀ (ds : List Tmp) (e : Env), aget (mergeT b x y ds e) t = mergeV b (aget x t) (aget y t) ∨ (t ∉ ds ∧ aget (mergeT b x y ds e) t = aget e t)
  | [], e => .inr ⟨by simp, rfl⟩
  | d :: ds, e => by
    simp only [mergeT]
    rcases mergeT_get (b := b) (x := x) (y := y) (t := t) ds ((d, mergeV b (aget x d) (aget y d)) :: e) with h | ⟨h1, h2⟩
    · exact .inl h
    · rw [h2]
      by_cases hd : t = d
      · subst hd; left; exact aget_put_same
      · right; exact ⟨by simp [hd, h1], aget_put_other hd⟩

theorem merge_rep {b : Bool} {x y z e : Env} {a a' : Act} {ds : List Tmp} (hz : ∀ u v, mergeV b u v = match b with | true => u | false => v) (hzz : z = match b with | true => x | false => y)
    (hr : Rep e a) (hag : Agree ds a a') (hrz : Rep z a') : Rep (mergeT b x y ds e) a' := by
  have hm : ∀ t, mergeV b (aget x t) (aget y t) = aget z t := by intro t; rw [hz, hzz]; cases b <;> rfl
  have he : ∀ t, aget z t = a'.eval (.tmp t) := fun t => (congrFun hrz (.tmp t)).symm
  funext q
  cases q with
  | tmp t =>
    show a'.eval (.tmp t) = aget (mergeT b x y ds e) t
    rcases mergeT_get (b := b) (x := x) (y := y) (t := t) ds e with h | ⟨h1, h2⟩
    · rw [h, hm, he]
    · rw [h2, ← show a.eval (.tmp t) = aget e t from congrFun hr (.tmp t)]
      simp only [Act.eval, Array.getD_eq_getD_getElem?, hag.slot t h1]
  | _ => rfl

theorem Rep.putD {e : Env} {a : Act} (h : Rep e a) {dst : Option Tmp} (hd : ∀ d, dst = some d → d < a.tmps.size) (v : Value) : Rep (putE e dst v) (a.put dst v) := by
  cases dst with
  | none => exact h
  | some d => exact h.put (hd d rfl) v

theorem yieldB_slot {ops : List Oper} {e : Env} {j : Nat} {b : Bool} (h : yieldB ops e j = some b) : ∃ d, gslotE ops j = some d ∧ aget e d = .bool b := by
  unfold yieldB at h
  split at h
  · cases h
  · rename_i d hd
    split at h
    · rename_i b' hb
      simp only [Option.some.injEq] at h
      subst h
      exact ⟨d, hd, hb⟩
    · cases h

theorem Rep.same {e : Env} {a : Act} (h : Rep e a) {d : Tmp} {v : Value} (hv : aget e d = v) : Rep (putE e (some d) v) a := by
  funext x
  cases x with
  | tmp t =>
    show a.eval (.tmp t) = aget (putE e (some d) v) t
    by_cases ht : t = d
    · subst ht; rw [aget_put_same, ← hv]; exact congrFun h (.tmp t)
    · rw [aget_put_other ht]; exact congrFun h (.tmp t)
  | _ => rfl

theorem pureOp_notDefer {o : Op} (h : pureOp o = true) : notDefer o = true := by cases o <;> first | rfl | simp [pureOp] at h

theorem purE_sound {P : Program} {r : Option Nat} {ops : Array Oper} : ∀ (l : List Oper) (kv : List (Tmp × Bool)) (e : Env) (a : Act), KvOk kv e → Rep e a → (∀ d, d ∈ dstsL l → d < a.tmps.size) → (purE P ops.toList l kv e).2 = true →
    ∃ a', Rep (purE P ops.toList l kv e).1 a' ∧ Agree (dstsL l) a a' ∧ ∀ (Q : Exit → Act → World → Prop) w, Q .normal a' w → wpListIn (WF r) 0 P ops Q l a w
  | [], _, e, a, _, hr, _, _ => ⟨a, hr, Agree.refl _ _, fun Q w hq => hq⟩
  | o :: rest, kv, e, a, hkv, hr, hd, h => by
    have hdo : ∀ d, o.dst = some d → d < a.tmps.size := fun d h => hd d (by rw [dstsL_cons, h]; simp)
    have hdr : ∀ {v : Value}, ∀ d, d ∈ dstsL rest → d < (a.put o.dst v).tmps.size := fun d hd' => by rw [size_put]; exact hd d (by rw [dstsL_cons]; simp [hd'])
    -- an operation that is carried out, from whatever list tells the frame
    have run : pureOp o.op = true → ∀ {e0 : Env} {kv' : List (Tmp × Bool)} {z : Env × Bool}, Rep e0 a → (∀ v, plain P (execOp (evalL e0) o) = some (.value v) → KvOk kv' (putE e0 o.dst v)) → ∀ {f : Env},
        (match plain P (execOp (evalL e0) o) with | some (.value v) => purE P ops.toList rest kv' (putE e0 o.dst v) | _ => (f, false)) = z → z.2 = true →
        ∃ a', Rep z.1 a' ∧ Agree (dstsL (o :: rest)) a a' ∧ ∀ (Q : Exit → Act → World → Prop) w, Q .normal a' w → o.wpIn (WF r) 0 P a w (wpListIn (WF r) 0 P ops Q rest) Q := by
      intro hpu e0 kv' z hr0 hk f hz h
      split at hz
      case h_2 => subst hz; cases h
      rename_i v hv
      subst hz
      obtain ⟨a', h0, h1, h2⟩ := purE_sound rest _ _ _ (hk v hv) (hr0.putD hdo v) hdr h
      refine ⟨a', h0, (Agree.trans Agree.put h1).mono (by rw [dstsL_cons]; simp), fun Q w hq => op_in (pureOp_notDefer hpu) (wp_of_value ?_ (h2 Q w hq))⟩
      rw [hr0]
      exact plain_run _ hv w
    have skip : ∀ {e0 : Env} {kv' : List (Tmp × Bool)} {z : Env × Bool}, Rep e0 a → KvOk kv' (putE e0 o.dst undef) → purE P ops.toList rest kv' (putE e0 o.dst undef) = z → z.2 = true →
        ∃ a', Rep z.1 a' ∧ Agree (dstsL (o :: rest)) a a' ∧ ∀ (Q : Exit → Act → World → Prop) w, Q .normal a' w → wpListIn (WF r) 0 P ops Q rest (a.put o.dst undef) w := by
      intro e0 kv' z hr0 hk hz h
      subst hz
      obtain ⟨a', h0, h1, h2⟩ := purE_sound rest _ _ _ hk (hr0.putD hdo undef) hdr h
      exact ⟨a', h0, (Agree.trans Agree.put h1).mono (by rw [dstsL_cons]; simp), h2⟩
    have k1 : ∀ v, plain P (execOp (evalL e) o) = some (.value v) → KvOk (kvPut kv o.dst (kvOp kv o.op)) (putE e o.dst v) := fun v hv => hkv.put _ _ _ (kvOp_ok hkv hv)
    have k2 : KvOk (kvPut kv o.dst none) (putE e o.dst undef) := hkv.put _ _ _ (by simp)
    generalize hz : purE P ops.toList (o :: rest) kv e = z at h ⊢
    simp only [purE] at hz
    split at hz
    case h_1 => subst hz; cases h
    rename_i hpu
    split at hz
    · rename_i hg
      obtain ⟨a', h0, h1, h2⟩ := run hpu hr k1 hz h
      exact ⟨a', h0, h1, fun Q w hq => wpListIn_go (wanted_none hg) (h2 Q w hq)⟩
    · rename_i j want hg
      have hye := yieldB_eq (ops := ops) hr j
      split at hz
      · rename_i hy
        rw [hy] at hye
        obtain ⟨a', h0, h1, h2⟩ := skip hr k2 hz h
        exact ⟨a', h0, h1, fun Q w hq => wpListIn_no (by rw [wanted_some hg, hye]; rfl) (h2 Q w hq)⟩
      · rename_i b hy
        rw [hy] at hye
        obtain ⟨d, hd', hs⟩ := yieldB_slot hy
        rw [hd'] at hz
        split at hz
        · rename_i c hc
          have hbc : b = c := hkv d c hc b hs
          subst hbc
          split at hz
          · rename_i hcw
            obtain ⟨a', h0, h1, h2⟩ := run hpu hr k1 hz h
            exact ⟨a', h0, h1, fun Q w hq => wpListIn_go (by rw [wanted_some hg, hye]; exact hcw) (h2 Q w hq)⟩
          · rename_i hcw
            obtain ⟨a', h0, h1, h2⟩ := skip hr k2 hz h
            exact ⟨a', h0, h1, fun Q w hq => wpListIn_no (by rw [wanted_some hg, hye]; exact hcw) (h2 Q w hq)⟩
        · have k3 : KvOk (kvPut kv (some d) (some b)) (putE e (some d) (.bool b)) := hkv.put (some d) (some b) (.bool b) (by intro b1 e1 b2 e2; cases e1; cases e2; rfl)
          have k4 : ∀ v, KvOk (kvPut (kvPut kv (some d) (some b)) o.dst none) (putE (putE e (some d) (.bool b)) o.dst v) := fun v => k3.put _ _ _ (by simp)
          have hr' : Rep (putE e (some d) (.bool b)) a := hr.same hs
          cases b with
          | true =>
            cases want with
            | true =>
              subst hz
              simp only [mergeA] at h ⊢
              obtain ⟨a', h0, h1, h2⟩ := run hpu hr' (fun v _ => k4 v) rfl (okM_true h)
              exact ⟨a', merge_rep (b := true) (fun u v => mergeV_true u v) rfl hr h1 h0, h1, fun Q w hq => wpListIn_go (by rw [wanted_some hg, hye]; rfl) (h2 Q w hq)⟩
            | false =>
              subst hz
              simp only [mergeA] at h ⊢
              obtain ⟨a', h0, h1, h2⟩ := skip hr' (k4 _) rfl (okM_true h)
              exact ⟨a', merge_rep (b := true) (fun u v => mergeV_true u v) rfl hr h1 h0, h1, fun Q w hq => wpListIn_no (by rw [wanted_some hg, hye]; rfl) (h2 Q w hq)⟩
          | false =>
            cases want with
            | false =>
              subst hz
              simp only [mergeA] at h ⊢
              obtain ⟨a', h0, h1, h2⟩ := run hpu hr' (fun v _ => k4 v) rfl (okM_false h)
              exact ⟨a', merge_rep (b := false) (fun u v => mergeV_false u v) rfl hr h1 h0, h1, fun Q w hq => wpListIn_go (by rw [wanted_some hg, hye]; rfl) (h2 Q w hq)⟩
            | true =>
              subst hz
              simp only [mergeA] at h ⊢
              obtain ⟨a', h0, h1, h2⟩ := skip hr' (k4 _) rfl (okM_false h)
              exact ⟨a', merge_rep (b := false) (fun u v => mergeV_false u v) rfl hr h1 h0, h1, fun Q w hq => wpListIn_no (by rw [wanted_some hg, hye]; rfl) (h2 Q w hq)⟩

/-- The slots that a region wrote are copied behind the old list, the last one's value to its constructor. -/
def copyK (x : Env) : List Tmp → Env → (Env → Prop) → Prop
  | [], e, K => K e
  | d :: ds, e, K => copyK x ds ((d, aget x d) :: e) K

theorem copyK_spec {x : Env} {K : Env → Prop} {ds : List Tmp} {e : Env} (h : copyK x ds e K) : ∃ e', K e' ∧ ∀ t, aget e' t = aget x t ∨ (t ∉ ds ∧ aget e' t = aget e t) := by
  induction ds generalizing e with
  | nil => exact ⟨e, h, fun t => .inr ⟨by simp, rfl⟩⟩
  | cons d ds ih =>
    obtain ⟨e', h1, h2⟩ := ih h
    refine ⟨e', h1, fun t => ?_⟩
    rcases h2 t with h3 | ⟨h3, h4⟩
    · exact .inl h3
    · by_cases hd : t = d
      · left
        rw [h4, hd]
        exact aget_put_same (e := e) (d := d)
      · right
        refine ⟨by simp [hd, h3], ?_⟩
        rw [h4]
        exact aget_put_other (e := e) hd

def lastD : List Oper → Option Tmp
  | [] => none
  | o :: r => match lastD r with
    | none => o.dst
    | some d => some d

def forceLast (x : Env) (d : Option Tmp) (e : Env) (K : Env → Prop) : Prop := match d with
  | none => K e
  | some d => forceV (aget x d) fun v => K ((d, v) :: e)

/-! ### A region in whatever order -/

def bitAt : List Bool → Nat → Bool
  | [], _ => false
  | b :: _, 0 => b
  | _ :: r, n + 1 => bitAt r n
def setAt : List Bool → Nat → List Bool
  | [], _ => []
  | _ :: r, 0 => true :: r
  | b :: r, n + 1 => b :: setAt r n
def noBits : List Oper → List Bool
  | [] => []
  | _ :: r => false :: noBits r

theorem bitAt_eq (l : List Bool) (n : Nat) : bitAt l n = l.getD n false := by
  induction l generalizing n with
  | nil => rfl
  | cons b r ih => cases n with
    | zero => rfl
    | succ n => simpa [bitAt] using ih n
theorem setAt_eq (l : List Bool) (n : Nat) : setAt l n = l.set n true := by
  induction l generalizing n with
  | nil => rfl
  | cons b r ih => cases n with
    | zero => rfl
    | succ n => simp [setAt, ih n]
theorem noBits_eq (l : List Oper) : noBits l = List.replicate l.length false := by induction l with | nil => rfl | cons o r ih => simp [noBits, ih, List.replicate_succ]

def bindsE (e : Edge) : Bool := match e.ground with
  | .textOnly _ => false
  | .gcOnly _ => false
  | _ => true
theorem bindsE_eq (e : Edge) : bindsE e = Region.binds .any e := by unfold bindsE Region.binds; cases e.ground <;> rfl

def edgesIn (m : List Bool) : List Edge → Bool
  | [] => true
  | e :: r => match bindsE e with
    | false => edgesIn m r
    | true => match bitAt m e.on with | true => edgesIn m r | false => false
theorem edgesIn_iff {m : List Bool} {l : List Edge} : edgesIn m l = true ↔ ∀ e ∈ l, Region.binds .any e = true → m.getD e.on false = true := by
  induction l with
  | nil => simp [edgesIn]
  | cons e r ih =>
    simp only [edgesIn, List.mem_cons, forall_eq_or_imp]
    rw [← bindsE_eq, ← bitAt_eq]
    cases bindsE e <;> cases bitAt m e.on <;> simp [ih]

/-- The operations that may come up now, and their numbers. -/
def readyE (m : List Bool) : List Oper → List Bool → Nat → List (Nat × Oper)
  | o :: r, b :: bs, k => match b with
    | true => readyE m r bs (k + 1)
    | false => match edgesIn m o.after.toList with
      | true => (k, o) :: readyE m r bs (k + 1)
      | false => readyE m r bs (k + 1)
  | _, _, _ => []

theorem mem_readyE {m : List Bool} {i : Nat} {o : Oper} : ∀ {l : List Oper} {bs : List Bool} {k : Nat}, l.length = bs.length → ((i, o) ∈ readyE m l bs k ↔ ∃ j, i = k + j ∧ l[j]? = some o ∧ bs[j]? = some false ∧ edgesIn m o.after.toList = true)
  | [], bs, k, hl => by simp [readyE]
  | x :: r, [], k, hl => by simp at hl
  | x :: r, b :: bs, k, hl => by
    have ih := mem_readyE (m := m) (i := i) (o := o) (l := r) (bs := bs) (k := k + 1) (by simpa using hl)
    have shift : (∃ j, i = k + j ∧ (x :: r)[j]? = some o ∧ (b :: bs)[j]? = some false ∧ edgesIn m o.after.toList = true) ↔
        ((i = k ∧ x = o ∧ b = false ∧ edgesIn m o.after.toList = true) ∨ ∃ j, i = k + 1 + j ∧ r[j]? = some o ∧ bs[j]? = some false ∧ edgesIn m o.after.toList = true) := by
      constructor
      · rintro ⟨j, h1, h2, h3, h4⟩
        cases j with
        | zero => simp at h2 h3; exact .inl ⟨h1, h2, h3, h4⟩
        | succ j => exact .inr ⟨j, by omega, by simpa using h2, by simpa using h3, h4⟩
      · rintro (⟨h1, h2, h3, h4⟩ | ⟨j, h1, h2, h3, h4⟩)
        · exact ⟨0, by omega, by simp [h2], by simp [h3], h4⟩
        · exact ⟨j + 1, by omega, by simpa using h2, by simpa using h3, h4⟩
    rw [shift]
    simp only [readyE]
    cases b with
    | true => simp [ih]
    | false =>
      cases he : edgesIn m x.after.toList with
      | true =>
        simp only [List.mem_cons, Prod.mk.injEq, ih]
        constructor
        · rintro (⟨h1, h2⟩ | h)
          · exact .inl ⟨h1, h2.symm, trivial, by rw [h2]; exact he⟩
          · exact .inr h
        · rintro (⟨h1, h2, _⟩ | h)
          · exact .inl ⟨h1, h2.symm⟩
          · exact .inr h
      | false =>
        simp only [ih]
        constructor
        · exact .inr
        · rintro (⟨h1, h2, _, h4⟩ | h)
          · rw [← h2, he] at h4; cases h4
          · exact h

theorem ready_iff {ops : Array Oper} {m : List Bool} (hl : m.length = ops.size) {i : Nat} : i ∈ Region.ready .any ops m.toArray ↔ ∃ o, (i, o) ∈ readyE m ops.toList m 0 := by
  have hs : ops.toList.length = m.length := by simp [hl]
  rw [mem_ready]
  constructor
  · rintro ⟨h0, o, h1, h2⟩
    refine ⟨o, (mem_readyE hs).2 ⟨i, by omega, by simpa using h1, ?_, ?_⟩⟩
    · simp only [Array.getD_eq_getD_getElem?, List.getElem?_toArray] at h0
      have hi : i < m.length := by rw [hl]; exact (Array.getElem?_eq_some_iff.1 h1).1
      rw [List.getElem?_eq_getElem hi] at h0 ⊢
      simpa using h0
    · refine edgesIn_iff.2 fun e he hb => ?_
      have := h2 e (by simpa using he) hb
      simpa [Array.getD_eq_getD_getElem?, List.getD_eq_getElem?_getD] using this
  · rintro ⟨o, ho⟩
    obtain ⟨j, h1, h2, h3, h4⟩ := (mem_readyE hs).1 ho
    rw [Nat.zero_add] at h1; subst h1
    refine ⟨by simp [Array.getD_eq_getD_getElem?, h3], o, by simpa using h2, fun e he hb => ?_⟩
    have := edgesIn_iff.1 h4 e (by simpa using he) hb
    simpa [Array.getD_eq_getD_getElem?, List.getD_eq_getElem?_getD] using this

/-- What was listed is downward closed. -/
def Down (ops : Array Oper) (listed : Array Bool) : Prop := ∀ k o, listed.getD k false = true → ops[k]? = some o → ∀ e ∈ o.after, Region.binds .any e = true → listed.getD e.on false = true

theorem Down.set {ops : Array Oper} {listed : Array Bool} (h : Down ops listed) {i : Nat} (hi : i ∈ Region.ready .any ops listed) : Down ops (listed.setIfInBounds i true) := by
  intro k o hk ho e he hb
  by_cases hik : i = k
  · subst hik
    obtain ⟨_, o', ho', h2⟩ := mem_ready.1 hi
    rw [ho] at ho'; cases ho'
    exact getD_set_true (h2 e he hb)
  · rw [getD_set_ne false hik] at hk
    exact getD_set_true (h k o hk ho e he hb)

/-- All that is listed was listed ahead of i, whatever the order. -/
def Barrier (ops : Array Oper) (listed : Array Bool) (i : Nat) : Prop := ∀ L : Array Bool, L.size = listed.size → Down ops L → i ∈ Region.ready .any ops L → ∀ k, listed.getD k false = true → L.getD k false = true

def opM (r : Option Nat) (P : Program) (ops : Array Oper) (i : Nat) (K : Act → World → Prop) (a : Act) (w : World) : Prop := match ops[i]? with
  | none => K a w
  | some o => if Region.wanted o (yielded ops a.tmps) then o.wpIn (WF r) 0 P a w K (fun _ _ _ => False) else K (a.put o.dst undef) w

def wpM (N : Nat → Prop) (r : Option Nat) (P : Program) (ops : Array Oper) (R : Act → World → Prop) : Nat → Array Bool → Act → World → Prop
  | 0, listed, a, w => Region.ready .any ops listed = [] ∧ R a w
  | fuel + 1, listed, a, w => (Region.ready .any ops listed = [] → R a w) ∧
      ∀ i ∈ Region.ready .any ops listed, opM r P ops i (fun a' w' => (Barrier ops listed i ∨ Fr N w w') ∧ wpM N r P ops R fuel (listed.setIfInBounds i true) a' w') a w

theorem opM_mono {r : Option Nat} {P : Program} {ops : Array Oper} {i : Nat} {K K' : Act → World → Prop} {a : Act} {w : World} (h : ∀ a w, K a w → K' a w) (hh : opM r P ops i K a w) : opM r P ops i K' a w := by
  unfold opM at *
  split
  · rename_i ho; simp only [ho] at hh; exact h _ _ hh
  · rename_i o ho
    simp only [ho] at hh
    split
    · rename_i hw; simp only [hw, if_true] at hh; exact Oper.wpIn_mono h hh
    · rename_i hw; simp only [hw] at hh; exact h _ _ hh

theorem Oper.wpIn_weaken {F : Fence} {n : Nat} {P : Program} {o : Oper} {a : Act} {w : World} {K : Act → World → Prop} {Q : Exit → Act → World → Prop} (h : o.wpIn F n P a w K (fun _ _ _ => False)) : o.wpIn F n P a w K Q := by
  unfold Oper.wpIn at *
  refine ⟨h.1, ?_⟩
  have h := h.2
  have nl : ¬ LetsOut (fun _ _ _ => False) := fun ⟨_, _, h⟩ => h
  generalize (o.semAt F.round a.eval).run P w = x at *
  cases x with
  | ok y w' =>
    cases y <;> simp only [Oper.uponIn] at h ⊢ <;>
      first
        | exact h
        | exact ⟨h.1, CallsIn.mono h.2 (fun e w'' he => by cases e <;> first | exact he | exact he.elim | exact (nl he).elim)⟩
        | exact ⟨h.1, RoundIn.mono h.2 (fun e w'' he => by cases e <;> first | exact he | exact he.elim | exact (nl he).elim)⟩
  | halt y w' => cases y <;> simp only [Oper.uponIn] at h ⊢

theorem wpAnyIn_of_wpM {N : Nat → Prop} {r : Option Nat} {P : Program} {ops : Array Oper} {R : Act → World → Prop} : ∀ (fuel : Nat) (listed : Array Bool) (a : Act) (w : World), wpM N r P ops R fuel listed a w → wpAnyIn (WF r) 0 P .any ops (QN R) fuel listed a w
  | 0, _, _, _, h => h
  | fuel + 1, listed, a, w, h => ⟨h.1, fun i hi => by
      have h1 := opM_mono (K' := wpAnyIn (WF r) 0 P .any ops (QN R) fuel (listed.setIfInBounds i true)) (fun a' w' hk => wpAnyIn_of_wpM fuel _ a' w' hk.2) (h.2 i hi)
      unfold opM at h1
      unfold wpOpIn
      split
      · rename_i ho; simp only [ho] at h1; exact h1
      · rename_i o ho
        simp only [ho] at h1
        split
        · rename_i hw; simp only [hw, if_true] at h1; exact Oper.wpIn_weaken h1
        · rename_i hw; simp only [hw] at h1; exact ⟨fun _ _ => trivial, h1⟩⟩

/-- In whatever world that sees this one's cells, the operation gives this value and turns nothing. -/
def YieldsC (N : Nat → Prop) (P : Program) (ops : Array Oper) (o : Oper) (v : Value) (a : Act) (w : World) : Prop :=
  (Region.wanted o (yielded ops a.tmps) = true ∧ notDefer o.op = true ∧ ∀ w', Fr N w w' → (execOp a.eval o).run P w' = .ok (.value v) w') ∨
  (Region.wanted o (yielded ops a.tmps) = false ∧ v = undef)

theorem YieldsC.opM {N : Nat → Prop} {r : Option Nat} {P : Program} {ops : Array Oper} {i : Nat} {o : Oper} {v : Value} {a : Act} {w : World} (hi : ops[i]? = some o) (hy : YieldsC N P ops o v a w) {K : Act → World → Prop} (h : K (a.put o.dst v) w) : opM r P ops i K a w := by
  unfold Vc.opM
  simp only [hi]
  rcases hy with ⟨hw, hd, hv⟩ | ⟨hw, rfl⟩
  · simp only [hw, if_true]
    exact op_in hd (wp_of_value (hv w (Fr.refl _ _)) h)
  · simp only [hw, Bool.false_eq_true, if_false]; exact h

theorem YieldsC.of_same {N : Nat → Prop} {P : Program} {ops : Array Oper} {o : Oper} {v : Value} {a a' : Act} {w : World} (hy : YieldsC N P ops o v a w) (he : execOp a'.eval o = execOp a.eval o)
    (hw : Region.wanted o (yielded ops a'.tmps) = Region.wanted o (yielded ops a.tmps)) : YieldsC N P ops o v a' w := by
  unfold YieldsC at *
  rw [he, hw]
  exact hy
theorem YieldsC.later {N : Nat → Prop} {P : Program} {ops : Array Oper} {o : Oper} {v : Value} {a : Act} {w w' : World} (hy : YieldsC N P ops o v a w) (hb : Fr N w w') : YieldsC N P ops o v a w' := by
  rcases hy with ⟨h1, h2, h3⟩ | h
  · exact .inl ⟨h1, h2, fun w2 hw2 => h3 w2 (hb.trans hw2 (fun _ _ h => h))⟩
  · exact .inr h

theorem semAt_put {r : Option Nat} {oj : Oper} (hsj : ∀ cs b, oj.op ≠ .select cs b) {ops : Array Oper} {a : Act} {dst : Option Tmp} {v : Value} (h1 : ∀ d, dst = some d → d ∉ oj.looksAt ops) : oj.semAt r (a.put dst v).eval = oj.semAt r a.eval := by
  have he := execOp_put oj hsj a dst v h1
  unfold Oper.semAt
  cases r with
  | none => exact he
  | some l =>
    cases ho : oj.op with
    | defer c =>
      have hc : resolve (a.put dst v).eval c oj.type = resolve a.eval c oj.type :=
        resolve_congr c _ fun x hx => Act.eval_put fun d hd hxd => h1 d hd (by
          subst hxd
          exact List.mem_append_left _ (List.mem_filterMap.2 ⟨.tmp d, by rw [ho]; simpa [Op.operands] using hx, rfl⟩))
      simp only [hc]
    | _ => exact he

/-- One operation 'oj', apart from 'oi': whether oi's value is already in its slot makes no difference to it, and it makes none to oi. -/
theorem opM_put {N : Nat → Prop} {r : Option Nat} {P : Program} {ops : Array Oper} {j : Nat} {oi oj : Oper} {v : Value} (hj : ops[j]? = some oj) (hap : oi.apart ops oj = true)
    (hsi : ∀ cs b, oi.op ≠ .select cs b) (hsj : ∀ cs b, oj.op ≠ .select cs b) {K : Act → World → Prop} {a : Act} {w : World}
    (hy : YieldsC N P ops oi v a w) (h : opM r P ops j K (a.put oi.dst v) w) :
    opM r P ops j (fun a' w' => YieldsC N P ops oi v a' w ∧ K (a'.put oi.dst v) w') a w := by
  obtain ⟨h1, h2, h3⟩ := Oper.apart_spec hap
  have keep : ∀ (a : Act), YieldsC N P ops oi v a w → ∀ u, YieldsC N P ops oi v (a.put oj.dst u) w := fun a hy u =>
    hy.of_same (execOp_put oi hsi a oj.dst u h3) (wanted_put oi a oj.dst u h3)
  have keepD : ∀ d, YieldsC N P ops oi v { a with defers := d :: a.defers } w := fun d => hy.of_same rfl rfl
  unfold opM at *
  simp only [hj] at *
  rw [wanted_put oj a oi.dst v h1] at h
  split
  · rename_i hw
    simp only [hw, if_true] at h
    unfold Oper.wpIn at *
    refine ⟨fun _ _ => trivial, ?_⟩
    have h := h.2
    rw [semAt_put hsj h1] at h
    generalize (oj.semAt (WF r).round a.eval).run P w = x at *
    cases x with
    | ok n w' =>
      cases n <;> simp only [Oper.uponIn] at h ⊢
      case value u => exact ⟨keep a hy u, by rw [← Act.put_comm a v u h2]; exact h⟩
      case skip => exact ⟨keep a hy _, by rw [← Act.put_comm a v undef h2]; exact h⟩
      case defer d =>
        refine ⟨keep _ (keepD d) _, ?_⟩
        rw [← Act.put_comm _ v undef h2, ← Act.put_defers]
        exact h
      case enter f args =>
        refine ⟨h.1, CallsIn.mono h.2 fun e w'' he => ?_⟩
        cases e with
        | returned u => exact ⟨keep a hy u, by rw [← Act.put_comm a v u h2]; exact he⟩
        | panicked c => exact he.elim
        | outgrown => exact he
      case row row args => exact ⟨h.1, RowsIn.mono h.2 fun u w'' he => ⟨keep a hy u, by rw [← Act.put_comm a v u h2]; exact he⟩⟩
      case round l f tmps assign body =>
        refine ⟨h.1, RoundIn.mono h.2 fun e w'' he => ?_⟩
        cases e with
        | returned u => exact ⟨keep a hy u, by rw [← Act.put_comm a v u h2]; exact he⟩
        | panicked c => exact he.elim
        | outgrown => exact he
    | halt x w' => cases x <;> simp only [Oper.uponIn] at h ⊢
  · rename_i hw
    simp only [hw] at h
    exact ⟨keep a hy _, by rw [← Act.put_comm a v undef h2]; exact h⟩

/-- An operation that may come up now, and that gives its value in whatever later world, may be taken first. -/
theorem wpM_first {N : Nat → Prop} {r : Option Nat} {P : Program} {ops : Array Oper} {R : Act → World → Prop} {i : Nat} {oi : Oper} {v : Value} (hi : ops[i]? = some oi) (hsel : ∀ (j : Nat) (o : Oper) cs b, ops[j]? = some o → o.op ≠ .select cs b) :
    ∀ (fuel : Nat) (listed : Array Bool) (a : Act) (w : World), Down ops listed →
      (∀ j oj, ops[j]? = some oj → j ≠ i → listed.getD j true = false → (∀ e ∈ oj.after, Region.binds .any e = true → e.on ≠ i) → oi.apart ops oj = true) →
      i ∈ Region.ready .any ops listed → YieldsC N P ops oi v a w →
      wpM N r P ops R fuel (listed.setIfInBounds i true) (a.put oi.dst v) w → wpM N r P ops R (fuel + 1) listed a w := by
  intro fuel
  induction fuel with
  | zero =>
    intro listed a w _ _ hr hy H
    refine ⟨fun h => (by rw [h] at hr; cases hr), fun j hj => ?_⟩
    by_cases hji : j = i
    · subst hji; exact hy.opM hi ⟨.inr (Fr.refl _ _), H⟩
    · have := ready_mono hj hji
      rw [H.1] at this
      cases this
  | succ fuel ih =>
    intro listed a w hdown hfree hr hy H
    refine ⟨fun h => (by rw [h] at hr; cases hr), fun j hj => ?_⟩
    by_cases hji : j = i
    · subst hji; exact hy.opM hi ⟨.inr (Fr.refl _ _), H⟩
    · have h1 := H.2 j (ready_mono hj hji)
      obtain ⟨hjun, oj, hoj, hall⟩ := mem_ready.1 hj
      have hnot : ∀ e ∈ oj.after, Region.binds .any e = true → e.on ≠ i := fun e he hb heq => by
        have h1 := hall e he hb
        have h0 := (mem_ready.1 hr).1
        rw [heq] at h1
        rcases Nat.lt_or_ge i listed.size with h' | h'
        · simp [h'] at h0 h1; rw [h0] at h1; cases h1
        · simp [Array.getElem?_eq_none h'] at h1
      have h2 := opM_put hoj (hfree j oj hoj hji hjun hnot) (fun cs b => hsel i oi cs b hi) (fun cs b => hsel j oj cs b hoj) hy h1
      have hfree' : ∀ k ok, ops[k]? = some ok → k ≠ i → (listed.setIfInBounds j true).getD k true = false →
          (∀ e ∈ ok.after, Region.binds .any e = true → e.on ≠ i) → oi.apart ops ok = true := fun k ok hk hki hun hno => by
        refine hfree k ok hk hki ?_ hno
        by_cases hjk : j = k
        · subst hjk; exact hjun
        · rw [getD_set_ne true hjk] at hun; exact hun
      have isz : i < listed.size := by
        have h0 := (mem_ready.1 hr).1
        rcases Nat.lt_or_ge i listed.size with h' | h'
        · exact h'
        · simp [Array.getElem?_eq_none h'] at h0
      have noB : ¬ Barrier ops (listed.setIfInBounds i true) j := by
        intro hb
        have h3 := hb listed (by simp) hdown hj i (by simp [Array.getD_eq_getD_getElem?, isz])
        have h0 := (mem_ready.1 hr).1
        simp [isz] at h0 h3
        rw [h0] at h3; cases h3
      refine opM_mono (fun a' w' h3 => ?_) h2
      obtain ⟨h3, h4, h5⟩ := h3
      have hb := h4.resolve_left noB
      refine ⟨.inr hb, ih (listed.setIfInBounds j true) a' w' (hdown.set hj) hfree' (ready_mono hr (Ne.symm hji)) (h3.later hb) ?_⟩
      rw [Array.setIfInBounds_comm _ _ hji]
      exact h5

/-- Operations that turn nothing. -/
def stillOp : Op → Bool
  | .alloc _ => false
  | .box .. => false
  | .buildSlice .. => false
  | .makeSlice .. => false
  | .store .. => false
  | .call c => match c.callee with
    | .builtin .len => true
    | .builtin .cap => true
    | .builtin .min => true
    | .builtin .max => true
    | _ => false
  | .select .. => false
  | .defer _ => false
  | .go _ => false
  | .range .. => false
  | .next .. => false
  | .makeMap .. => false
  | .mapUpdate .. => false
  | .lookup .. => false
  | .convert .. => false
  | _ => true

def stillE (P : Program) (wr : Bool) (o : Oper) (ρ : Operand → Value) (w : World) (K : Value → Prop) : Prop := match o.op with
  | .call _ => rvalE P o ρ K
  | .convert .. => valE P wr o ρ w K
  | _ => valE P wr o ρ w K

def memOf (d : Tmp) : List Operand → Bool
  | [] => false
  | .tmp t :: r => match Nat.beq t d with | true => true | false => memOf d r
  | _ :: r => memOf d r
/-- The slot d is looked at. -/
def looksE (ops : List Oper) (o : Oper) (d : Tmp) : Bool := memOf d o.op.operands.toList || (match o.guard with
  | some (g, _) => (match gslotE ops g with | some t => Nat.beq t d | none => false)
  | none => false)
def isDst (o : Oper) (d : Tmp) : Bool := match o.dst with | some t => Nat.beq t d | none => false
def apartE (ops : List Oper) (x y : Oper) : Bool :=
  (match x.dst with | some d => !(looksE ops y d) && !(isDst y d) | none => true) && (match y.dst with | some d => !(looksE ops x d) | none => true)
def waitsE (i : Nat) : List Edge → Bool
  | [] => false
  | e :: r => (bindsE e && Nat.beq e.on i) || waitsE i r
def freeE (ops : List Oper) (i : Nat) (oi : Oper) : List Oper → List Bool → Nat → Bool
  | o :: r, b :: bs, k => (Nat.beq k i || b || waitsE i o.after.toList || apartE ops oi o) && freeE ops i oi r bs (k + 1)
  | _, _, _ => true

/-- The first operation that may come up now and turns nothing. -/
def pickE (ops : List Oper) (m : List Bool) : List (Nat × Oper) → Option (Nat × Oper)
  | [] => none
  | (i, o) :: r => match stillOp o.op with
    | false => pickE ops m r
    | true => match freeE ops i o ops m 0 with
      | true => some (i, o)
      | false => pickE ops m r

def markE : List Edge → List Bool → List Bool
  | [], m => m
  | e :: r, m => match bindsE e with | true => markE r (setAt m e.on) | false => markE r m
def ancE (ops : List Oper) : Nat → List Bool → List Bool
  | 0, m => m
  | k + 1, m => match bitAt m k with
    | true => (match nthO ops k with | some o => ancE ops k (markE o.after.toList m) | none => ancE ops k m)
    | false => ancE ops k m
def subE : List Bool → List Bool → Bool
  | [], _ => true
  | b :: r, c :: s => (match b with | true => c | false => true) && subE r s
  | b :: r, [] => (match b with | true => false | false => true) && subE r []
/-- Every listed one was ahead of it in whatever order. -/
def barrierE (ops : List Oper) (m : List Bool) (i : Nat) (o : Oper) : Bool := subE m (ancE ops i (markE o.after.toList (noBits ops)))

def noSelE : List Oper → Bool
  | [] => true
  | o :: r => match o.op with | .select .. => false | _ => noSelE r

def guardE (ops : List Oper) (e : Env) (o : Oper) (run skip : Env → Prop) : Prop := match o.guard with
  | none => run e
  | some (j, want) => match yieldB ops e j with
    | some b => bcase b (match want with | true => run (knowE ops j true e) | false => skip (knowE ops j true e)) (match want with | false => run (knowE ops j false e) | true => skip (knowE ops j false e))
    | none => skip e

def allOf (F : Nat → Oper → Prop) : List (Nat × Oper) → Prop
  | [] => True
  | [(i, o)] => F i o
  | (i, o) :: r => F i o ∧ allOf F r

/-- A value read while a region draws its order. -/
def stillN (N : Option (Nat → Prop)) (P : Program) (wr : Bool) (o : Oper) (ρ : Operand → Value) (w : World) (K : Value → Prop) : Prop := match N with
  | none => stillE P wr o ρ w K
  | some N => match ldB ρ o with
    | none => stillE P wr o ρ w K
    | some b => Own (¬ N b) ∧ stillE P wr o ρ w K
def keepN (N : Option (Nat → Prop)) (w w' : World) : Prop := match N with
  | none => Own (Below w.heap.size w w')
  | some N => Own (Fr N w w')

def mixE (P : Program) (N : Option (Nat → Prop)) (sp : List (Nat × CallSpec)) (Y : Option YieldAnn) (wr : Bool) (ops : List Oper) : Nat → List Bool → Env → World → World → (Env → World → Prop) → Prop
  | 0, m, e, _, w, K => match readyE m ops m 0 with | [] => K e w | _ => False
  | fuel + 1, m, e, wb, w, K => match pickE ops m (readyE m ops m 0) with
    | some (i, o) => guardE ops e o (fun e1 => stillN N P wr o (evalL e1) wb fun v => putK e1 o.dst v fun e' => mixE P N sp Y wr ops fuel (setAt m i) e' wb w K) (fun e1 => putK e1 o.dst undef fun e' => mixE P N sp Y wr ops fuel (setAt m i) e' wb w K)
    | none => match readyE m ops m 0 with
      | [] => K e w
      | x :: l => allOf (fun i o => match barrierE ops m i o with
          | true => guardE ops e o (fun e1 => actE P sp Y wr o (evalL e1) w fun v w' => putK e1 o.dst v fun e' => mixE P N sp Y wr ops fuel (setAt m i) e' w' w' K) (fun e1 => putK e1 o.dst undef fun e' => mixE P N sp Y wr ops fuel (setAt m i) e' wb w K)
          | false => guardE ops e o (fun e1 => actE P sp Y wr o (evalL e1) w fun v w' => keepN N w w' ∧ putK e1 o.dst v fun e' => mixE P N sp Y wr ops fuel (setAt m i) e' w' w' K) (fun e1 => putK e1 o.dst undef fun e' => mixE P N sp Y wr ops fuel (setAt m i) e' wb w K)) (x :: l)

/-- Only the count of draws has turned. -/
structure Drew (w w1 : World) : Prop where
  ext : Below w.heap.size w w1
  heap : w1.heap = w.heap

theorem actE_mono {P : Program} {sp : List (Nat × CallSpec)} {Y : Option YieldAnn} {wr : Bool} {o : Oper} {ρ : Operand → Value} {w : World} {K K' : Value → World → Prop} (h : actE P sp Y wr o ρ w K) (hk : K = K') : actE P sp Y wr o ρ w K' := hk ▸ h

theorem memOf_iff {d : Tmp} {l : List Operand} : memOf d l = true ↔ d ∈ l.filterMap (fun | .tmp t => some t | _ => none) := by
  induction l with
  | nil => simp [memOf]
  | cons x r ih =>
    cases x with
    | tmp t =>
      simp only [memOf, List.filterMap_cons, List.mem_cons]
      rcases @beqN t d with ⟨h1, h2⟩ | ⟨h1, h2⟩
      · simp [h1]
      · simp only [h2, ih]
        constructor
        · exact .inr
        · rintro (h | h)
          · exact absurd h.symm h1
          · exact h
    | _ => simp only [memOf, List.filterMap_cons]; exact ih

theorem gslotE_eq {ops : Array Oper} {g : Nat} : gslotE ops.toList g = (ops[g]?).bind (·.dst) := by
  unfold gslotE
  rw [nthO_eq, Array.getElem?_toList]
  cases ops[g]? <;> rfl

theorem looksE_iff {ops : Array Oper} {o : Oper} {d : Tmp} : looksE ops.toList o d = true ↔ d ∈ o.looksAt ops := by
  unfold looksE Oper.looksAt
  rw [Bool.or_eq_true, memOf_iff, List.mem_append]
  refine or_congr Iff.rfl ?_
  cases hg : o.guard with
  | none => simp
  | some p =>
    obtain ⟨g, b⟩ := p
    simp only [gslotE_eq]
    cases (ops[g]?).bind (·.dst) with
    | none => simp
    | some t =>
      simp only [Option.toList_some, List.mem_singleton]
      constructor
      · intro h; exact (Nat.eq_of_beq_eq_true h).symm
      · intro h; subst h; exact Nat.beq_refl _

theorem apartE_spec {ops : Array Oper} {x y : Oper} (h : apartE ops.toList x y = true) : x.apart ops y = true := by
  unfold apartE at h
  unfold Oper.apart
  rw [Bool.and_eq_true] at h ⊢
  obtain ⟨h1, h2⟩ := h
  have nl : ∀ {o : Oper} {d : Tmp}, looksE ops.toList o d = false → (o.looksAt ops).contains d = false := by
    intro o d h
    rw [Bool.eq_false_iff]
    intro hc
    have : looksE ops.toList o d = true := looksE_iff.2 (by simpa using hc)
    rw [this] at h; cases h
  constructor
  · cases hx : x.dst with
    | none => rfl
    | some d =>
      simp only [hx, Bool.and_eq_true, Bool.not_eq_true'] at h1
      simp only [Bool.and_eq_true, Bool.not_eq_true', nl h1.1, true_and]
      unfold isDst at h1
      cases hy : y.dst with
      | none => rfl
      | some t =>
        simp only [hy] at h1
        have : t ≠ d := by intro e; subst e; simp at h1
        simp [this]
  · cases hy : y.dst with
    | none => rfl
    | some d =>
      simp only [hy, Bool.not_eq_true'] at h2
      simp only [Bool.not_eq_true', nl h2]

theorem waitsE_spec {i : Nat} {l : List Edge} (h : waitsE i l = true) : ∃ e ∈ l, Region.binds .any e = true ∧ e.on = i := by
  induction l with
  | nil => simp [waitsE] at h
  | cons e r ih =>
    simp only [waitsE, Bool.or_eq_true, Bool.and_eq_true] at h
    rcases h with ⟨h1, h2⟩ | h
    · exact ⟨e, by simp, by rw [← bindsE_eq]; exact h1, Nat.eq_of_beq_eq_true h2⟩
    · obtain ⟨e', h1, h2⟩ := ih h
      exact ⟨e', by simp [h1], h2⟩

theorem freeE_spec {ops : Array Oper} {i : Nat} {oi : Oper} : ∀ {l : List Oper} {bs : List Bool} {k : Nat}, freeE ops.toList i oi l bs k = true → ∀ (j : Nat) (oj : Oper), l[j]? = some oj → bs[j]? = some false → k + j ≠ i →
    (∀ e ∈ oj.after, Region.binds .any e = true → e.on ≠ i) → oi.apart ops oj = true
  | [], bs, k, h, j, oj, h1, h2, h3, h4 => by simp at h1
  | o :: r, [], k, h, j, oj, h1, h2, h3, h4 => by simp at h2
  | o :: r, b :: bs, k, h, j, oj, h1, h2, h3, h4 => by
    simp only [freeE, Bool.and_eq_true] at h
    obtain ⟨h, hr⟩ := h
    cases j with
    | zero =>
      simp at h1 h2
      subst h1 h2
      simp only [Bool.or_false, Bool.or_eq_true] at h
      rcases h with (h | h) | h
      · exact absurd (Nat.eq_of_beq_eq_true h) (by simpa using h3)
      · obtain ⟨e, he, hb, hi⟩ := waitsE_spec h
        exact absurd hi (h4 e (by simpa using he) hb)
      · exact apartE_spec h
    | succ j => exact freeE_spec hr j oj (by simpa using h1) (by simpa using h2) (by omega) h4

theorem pickE_spec {ops : List Oper} {m : List Bool} {i : Nat} {o : Oper} : ∀ {l : List (Nat × Oper)}, pickE ops m l = some (i, o) → (i, o) ∈ l ∧ stillOp o.op = true ∧ freeE ops i o ops m 0 = true
  | [], h => by simp [pickE] at h
  | (j, p) :: r, h => by
    simp only [pickE] at h
    split at h
    · obtain ⟨h1, h2⟩ := pickE_spec h; exact ⟨by simp [h1], h2⟩
    · rename_i hs
      split at h
      · rename_i hf
        simp only [Option.some.injEq, Prod.mk.injEq] at h
        obtain ⟨rfl, rfl⟩ := h
        exact ⟨by simp, hs, hf⟩
      · obtain ⟨h1, h2⟩ := pickE_spec h; exact ⟨by simp [h1], h2⟩

theorem bitAt_set {m : List Bool} {n k : Nat} (h : bitAt (setAt m n) k = true) : k = n ∨ bitAt m k = true := by
  by_cases hk : k = n
  · exact .inl hk
  · right
    rw [bitAt_eq, setAt_eq, List.getD_eq_getElem?_getD, List.getElem?_set_ne (fun e => hk e.symm)] at h
    rw [bitAt_eq, List.getD_eq_getElem?_getD]
    exact h

theorem markE_inv {L : Array Bool} : ∀ {l : List Edge} {m : List Bool}, (∀ e ∈ l, Region.binds .any e = true → L.getD e.on false = true) → (∀ k, bitAt m k = true → L.getD k false = true) → ∀ k, bitAt (markE l m) k = true → L.getD k false = true
  | [], m, _, hm, k, h => hm k h
  | e :: r, m, hl, hm, k, h => by
    simp only [markE] at h
    split at h
    · rename_i hb
      refine markE_inv (fun e' he => hl e' (by simp [he])) (fun k hk => ?_) k h
      rcases bitAt_set hk with rfl | hk
      · exact hl e (by simp) (by rw [← bindsE_eq]; exact hb)
      · exact hm k hk
    · exact markE_inv (fun e' he => hl e' (by simp [he])) hm k h

theorem ancE_inv {ops : Array Oper} {L : Array Bool} (hd : Down ops L) : ∀ {n : Nat} {m : List Bool}, (∀ k, bitAt m k = true → L.getD k false = true) → ∀ k, bitAt (ancE ops.toList n m) k = true → L.getD k false = true
  | 0, m, hm, k, h => hm k h
  | n + 1, m, hm, k, h => by
    simp only [ancE] at h
    split at h
    · rename_i hb
      split at h
      · rename_i o ho
        rw [nthO_eq, Array.getElem?_toList] at ho
        exact ancE_inv hd (markE_inv (fun e he hbe => hd n o (hm n hb) ho e (by simpa using he) hbe) hm) k h
      · exact ancE_inv hd hm k h
    · exact ancE_inv hd hm k h

theorem subE_spec : ∀ {a b : List Bool}, subE a b = true → ∀ k, a.getD k false = true → b.getD k false = true
  | [], b, h, k, hk => by simp at hk
  | x :: r, [], h, k, hk => by
    simp only [subE, Bool.and_eq_true] at h
    cases k with
    | zero => simp at hk; rw [hk] at h; simp at h
    | succ k => exact absurd (subE_spec h.2 k (by simpa using hk)) (by simp)
  | x :: r, y :: s, h, k, hk => by
    simp only [subE, Bool.and_eq_true] at h
    cases k with
    | zero => simp at hk; rw [hk] at h; simpa using h.1
    | succ k => simpa using subE_spec h.2 k (by simpa using hk)

theorem barrierE_spec {ops : Array Oper} {m : List Bool} {i : Nat} {o : Oper} (ho : ops[i]? = some o) (h : barrierE ops.toList m i o = true) : Barrier ops m.toArray i := by
  intro L _ hd hi k hk
  obtain ⟨_, o', ho', h2⟩ := mem_ready.1 hi
  rw [ho] at ho'; cases ho'
  have h0 : ∀ k, bitAt (noBits ops.toList) k = true → L.getD k false = true := fun k hk => by
    rw [bitAt_eq, noBits_eq] at hk
    simp [List.getD_eq_getElem?_getD, List.getElem?_replicate] at hk
    split at hk <;> simp at hk
  have h1 : ∀ k, bitAt (markE o.after.toList (noBits ops.toList)) k = true → L.getD k false = true := markE_inv (fun e he hb => h2 e (by simpa using he) hb) h0
  refine ancE_inv hd (n := i) h1 k ?_
  rw [bitAt_eq]
  exact subE_spec h k (by simpa [Array.getD_eq_getD_getElem?, List.getD_eq_getElem?_getD] using hk)

theorem noSelE_spec {ops : Array Oper} (h : noSelE ops.toList = true) (j : Nat) (o : Oper) (cs : Array SelectCase) (b : Bool) (ho : ops[j]? = some o) : o.op ≠ .select cs b := by
  have main : ∀ l : List Oper, noSelE l = true → ∀ o ∈ l, o.op ≠ .select cs b := by
    intro l
    induction l with
    | nil => simp
    | cons x r ih =>
      intro h o ho e
      simp only [noSelE] at h
      split at h
      · cases h
      · rename_i hx
        rcases List.mem_cons.1 ho with h1 | h1
        · subst h1; exact hx _ _ e
        · exact ih h o h1 e
  exact main _ h o (by rw [← Array.getElem?_toList] at ho; exact List.mem_of_getElem? ho)

theorem allOf_spec {F : Nat → Oper → Prop} : ∀ {l : List (Nat × Oper)}, allOf F l → ∀ p ∈ l, F p.1 p.2
  | [], _, p, hp => by simp at hp
  | [(i, o)], h, p, hp => by simp at hp; subst hp; exact h
  | (i, o) :: q :: r, h, p, hp => by
    rcases List.mem_cons.1 hp with h1 | h1
    · subst h1; exact h.1
    · exact allOf_spec h.2 p h1

theorem sees_below {w w' : World} (h : Below w.heap.size w w') : Sees w w' := fun p v hv => by
  have hb : p.block < w.heap.size := World.block_lt_of_cell? w p hv
  exact (h.cell hb).trans hv

theorem stillE_spec {P : Program} {wr : Bool} {o : Oper} {ρ : Operand → Value} {w : World} {K : Value → Prop} (h : stillE P wr o ρ w K) : ∃ v, Gives P o ρ w v ∧ K v := by
  unfold stillE at h
  split at h
  · exact rvalE_spec w h
  · exact valE_spec h
  · exact valE_spec h

theorem stillN_spec {N : Option (Nat → Prop)} {P : Program} {wr : Bool} {o : Oper} {ρ : Operand → Value} {w : World} {K : Value → Prop} (h : stillN N P wr o ρ w K) : ∃ v, (∀ w', Fr (nOf N) w w' → (execOp ρ o).run P w' = .ok (.value v) w') ∧ K v := by
  unfold stillN at h
  split at h
  · obtain ⟨v, h1, h2⟩ := stillE_spec h
    exact ⟨v, fun w' hf => h1 w' (hf.sees (fun _ _ hn => hn)), h2⟩
  · split at h
    · rename_i hl
      obtain ⟨v, h1, h2⟩ := stillE_spec h
      exact ⟨v, fun w' hf => h1 w' (by rw [hl]; intro b hb; cases hb), h2⟩
    · rename_i b hl
      obtain ⟨hn, h⟩ := h
      obtain ⟨v, h1, h2⟩ := stillE_spec h
      exact ⟨v, fun w' hf => h1 w' (hf.sees (fun c hc => by rw [hl] at hc; cases hc; exact hn)), h2⟩
theorem keepN_spec {N : Option (Nat → Prop)} {w w' : World} (h : keepN N w w') : Fr (nOf N) w w' := by
  unfold keepN at h
  split at h
  · exact Fr.of_ext h
  · exact h

theorem stillOp_notDefer {o : Op} (h : stillOp o = true) : notDefer o = true := by cases o <;> first | rfl | simp [stillOp] at h

theorem mem_dsts {l : List Oper} {o : Oper} (ho : o ∈ l) {d : Tmp} (hd : o.dst = some d) : d ∈ dstsL l := by
  induction l with
  | nil => simp at ho
  | cons x r ih =>
    rw [dstsL_cons]
    rcases List.mem_cons.1 ho with h | h
    · subst h; simp [hd]
    · simp [ih h]

theorem mixE_sound {N : Option (Nat → Prop)} {P : Program} {sp : List (Nat × CallSpec)} (hsp : ∀ f s, specAt sp f = some s → s.Ok P f) {E : Nat → Prop} {Y : Option YieldAnn} (hY : ∀ y, Y = some y → YieldOk P E y) {r : Option Nat} {wr : Bool} {ops : Array Oper} (hsel : noSelE ops.toList = true)
    {R : Act → World → Prop} {K : Env → World → Prop} :
    ∀ (fuel : Nat) (m : List Bool) (e : Env) (a : Act) (wb w : World), Fr (nOf N) wb w → m.length = ops.size → Down ops m.toArray → Rep e a → (∀ d, d ∈ dstsL ops.toList → d < a.tmps.size) →
      (∀ e' a' w', Rep e' a' → Agree (dstsL ops.toList) a a' → KOE E w w' → K e' w' → R a' w') → mixE P N sp Y wr ops.toList fuel m e wb w K → wpM (nOf N) r P ops R fuel m.toArray a w := by
  have hset : ∀ (m : List Bool) (i : Nat), m.toArray.setIfInBounds i true = (setAt m i).toArray := fun m i => by rw [setAt_eq]; simp
  have hnil : ∀ {m : List Bool}, m.length = ops.size → readyE m ops.toList m 0 = [] → Region.ready .any ops m.toArray = [] := by
    intro m hl h
    refine List.eq_nil_iff_forall_not_mem.2 fun i hi => ?_
    obtain ⟨o, ho⟩ := (ready_iff hl).1 hi
    rw [h] at ho; simp at ho
  have hop : ∀ {m : List Bool} {i : Nat} {o : Oper}, m.length = ops.size → (i, o) ∈ readyE m ops.toList m 0 → ops[i]? = some o := by
    intro m i o hl h
    obtain ⟨j, h1, h2, _⟩ := (mem_readyE (by simp [hl])).1 h
    rw [Nat.zero_add] at h1; subst h1
    simpa using h2
  intro fuel
  induction fuel with
  | zero =>
    intro m e a wb w hwb hl hdn hr hd hQ h
    simp only [mixE] at h
    split at h
    · rename_i hn; exact ⟨hnil hl hn, hQ e a w hr (Agree.refl _ _) (KOE.refl _ _) h⟩
    · exact h.elim
  | succ fuel ih =>
    intro m e a wb w hwb hl hdn hr hd hQ h
    -- one goes on behind an operation
    have next : ∀ {i : Nat} {o : Oper} {e0 : Env} {v : Value} {wb' w' : World}, Fr (nOf N) wb' w' → (i, o) ∈ readyE m ops.toList m 0 → Rep e0 a → KOE E w w' → (putK e0 o.dst v fun e' => mixE P N sp Y wr ops.toList fuel (setAt m i) e' wb' w' K) →
        wpM (nOf N) r P ops R fuel (m.toArray.setIfInBounds i true) (a.put o.dst v) w' := by
      intro i o e0 v wb' w' hb' hi hr0 hko hk
      have hmem : o ∈ ops.toList := by have := hop hl hi; rw [← Array.getElem?_toList] at this; exact List.mem_of_getElem? this
      obtain ⟨e', hr', hk'⟩ := putK_spec hr0 (fun d hd' => hd d (mem_dsts hmem hd')) hk
      rw [hset]
      refine ih _ e' _ wb' w' hb' (by rw [setAt_eq]; simp [hl]) ?_ hr' (fun d hd' => by rw [size_put]; exact hd d hd')
        (fun e2 a2 w2 hr2 hag hko2 hk2 => hQ e2 a2 w2 hr2 ((Agree.trans Agree.put hag).mono (fun d hd' => ?_)) (hko.trans hko2) hk2) hk'
      · rw [← hset]; exact hdn.set ((ready_iff hl).2 ⟨o, hi⟩)
      · rcases List.mem_append.1 hd' with h1 | h1
        · exact mem_dsts hmem (by simpa using h1)
        · exact h1
    simp only [mixE] at h
    split at h
    · rename_i i o hp
      obtain ⟨hi, hst, hfr⟩ := pickE_spec hp
      have ho := hop hl hi
      have hready : i ∈ Region.ready .any ops m.toArray := (ready_iff hl).2 ⟨o, hi⟩
      have fin : ∀ {v : Value}, YieldsC (nOf N) P ops o v a w → wpM (nOf N) r P ops R fuel (m.toArray.setIfInBounds i true) (a.put o.dst v) w → wpM (nOf N) r P ops R (fuel + 1) m.toArray a w := by
        intro v hy hk
        refine wpM_first ho (noSelE_spec hsel) fuel m.toArray a w hdn (fun j oj hj hji hun hno => ?_) hready hy hk
        refine freeE_spec hfr j oj (by simpa using hj) ?_ (by omega) hno
        have hjl : j < m.length := by rw [hl]; exact (Array.getElem?_eq_some_iff.1 hj).1
        simp only [Array.getD_eq_getD_getElem?, List.getElem?_toArray, List.getElem?_eq_getElem hjl, Option.getD_some] at hun
        rw [List.getElem?_eq_getElem hjl, hun]
      have run : ∀ {e0 : Env}, Region.wanted o (yielded ops a.tmps) = true → Rep e0 a → (stillN N P wr o (evalL e0) wb fun v => putK e0 o.dst v fun e' => mixE P N sp Y wr ops.toList fuel (setAt m i) e' wb w K) → wpM (nOf N) r P ops R (fuel + 1) m.toArray a w := by
        intro e0 hw hr0 hs
        obtain ⟨v, hv, hk⟩ := stillN_spec hs
        exact fin (.inl ⟨hw, stillOp_notDefer hst, fun w' hb => by rw [hr0]; exact hv w' (hwb.trans hb (fun _ _ h => h))⟩) (next hwb hi hr0 (KOE.refl _ _) hk)
      have skip : ∀ {e0 : Env}, Region.wanted o (yielded ops a.tmps) = false → Rep e0 a → (putK e0 o.dst undef fun e' => mixE P N sp Y wr ops.toList fuel (setAt m i) e' wb w K) → wpM (nOf N) r P ops R (fuel + 1) m.toArray a w :=
        fun hw hr0 hk => fin (.inr ⟨hw, rfl⟩) (next hwb hi hr0 (KOE.refl _ _) hk)
      unfold guardE at h
      split at h
      · rename_i hg; exact run (wanted_none hg) hr h
      · rename_i j want hg
        have hye := yieldB_eq (ops := ops) hr j
        split at h
        · rename_i b hy
          rw [hy] at hye
          have hr0 := knowE_rep hr hy
          cases b <;> cases want <;> simp only [bcase] at h
          · exact run (by rw [wanted_some hg, hye]; rfl) hr0 h
          · exact skip (by rw [wanted_some hg, hye]; rfl) hr0 h
          · exact skip (by rw [wanted_some hg, hye]; rfl) hr0 h
          · exact run (by rw [wanted_some hg, hye]; rfl) hr0 h
        · rename_i hy
          rw [hy] at hye
          exact skip (by rw [wanted_some hg, hye]; rfl) hr h
    · split at h
      · rename_i hn
        have := hnil hl hn
        exact ⟨fun _ => hQ e a w hr (Agree.refl _ _) (KOE.refl _ _) h, fun i hi => by rw [this] at hi; cases hi⟩
      · rename_i x l hn
        refine ⟨fun h0 => ?_, fun i hi => ?_⟩
        · have : x.1 ∈ Region.ready .any ops m.toArray := (ready_iff hl).2 ⟨x.2, by rw [hn]; simp⟩
          rw [h0] at this; cases this
        · obtain ⟨o, hio⟩ := (ready_iff hl).1 hi
          have ho := hop hl hio
          have hF := allOf_spec h (i, o) (by rw [← hn]; exact hio)
          dsimp only at hF
          have run : ∀ {e0 : Env} {X : World → Prop}, Region.wanted o (yielded ops a.tmps) = true → Rep e0 a → (∀ w', X w' → Barrier ops m.toArray i ∨ Fr (nOf N) w w') →
              (actE P sp Y wr o (evalL e0) w fun v w' => X w' ∧ putK e0 o.dst v fun e' => mixE P N sp Y wr ops.toList fuel (setAt m i) e' w' w' K) →
              opM r P ops i (fun a' w' => (Barrier ops m.toArray i ∨ Fr (nOf N) w w') ∧ wpM (nOf N) r P ops R fuel (m.toArray.setIfInBounds i true) a' w') a w := by
            intro e0 X hw hr0 hX hs
            unfold opM
            simp only [ho, hw, if_true]
            exact actE_spec hsp hY hr0 (K := fun v w' => X w' ∧ putK e0 o.dst v fun e' => mixE P N sp Y wr ops.toList fuel (setAt m i) e' w' w' K) (fun v w' hv hko => ⟨hX w' hv.1, next (Fr.refl _ _) hio hr0 hko hv.2⟩) hs
          have skip : ∀ {e0 : Env}, Region.wanted o (yielded ops a.tmps) = false → Rep e0 a → (putK e0 o.dst undef fun e' => mixE P N sp Y wr ops.toList fuel (setAt m i) e' wb w K) →
              opM r P ops i (fun a' w' => (Barrier ops m.toArray i ∨ Fr (nOf N) w w') ∧ wpM (nOf N) r P ops R fuel (m.toArray.setIfInBounds i true) a' w') a w := by
            intro e0 hw hr0 hk
            unfold opM
            simp only [ho, hw, Bool.false_eq_true, if_false]
            exact ⟨.inr (Fr.refl _ _), next hwb hio hr0 (KOE.refl _ _) hk⟩
          have both : ∀ {X : World → Prop} {run' : Env → Prop}, (∀ w', X w' → Barrier ops m.toArray i ∨ Fr (nOf N) w w') → (∀ e0, run' e0 → actE P sp Y wr o (evalL e0) w fun v w' => X w' ∧ putK e0 o.dst v fun e' => mixE P N sp Y wr ops.toList fuel (setAt m i) e' w' w' K) →
              guardE ops.toList e o run' (fun e1 => putK e1 o.dst undef fun e' => mixE P N sp Y wr ops.toList fuel (setAt m i) e' wb w K) →
              opM r P ops i (fun a' w' => (Barrier ops m.toArray i ∨ Fr (nOf N) w w') ∧ wpM (nOf N) r P ops R fuel (m.toArray.setIfInBounds i true) a' w') a w := by
            intro X run' hX hrun h
            unfold guardE at h
            split at h
            · rename_i hg; exact run (wanted_none hg) hr hX (hrun _ h)
            · rename_i j want hg
              have hye := yieldB_eq (ops := ops) hr j
              split at h
              · rename_i b hy
                rw [hy] at hye
                have hr0 := knowE_rep hr hy
                cases b <;> cases want <;> simp only [bcase] at h
                · exact run (by rw [wanted_some hg, hye]; rfl) hr0 hX (hrun _ h)
                · exact skip (by rw [wanted_some hg, hye]; rfl) hr0 h
                · exact skip (by rw [wanted_some hg, hye]; rfl) hr0 h
                · exact run (by rw [wanted_some hg, hye]; rfl) hr0 hX (hrun _ h)
              · rename_i hy
                rw [hy] at hye
                exact skip (by rw [wanted_some hg, hye]; rfl) hr h
          split at hF
          · rename_i hb
            exact both (X := fun _ => True) (fun _ _ => .inl (barrierE_spec ho hb)) (fun e0 h0 => actE_mono h0 (by funext v w'; simp)) hF
          · exact both (X := fun w' => keepN N w w') (fun _ h => .inr (keepN_spec h)) (fun e0 h0 => h0) hF

def lenO : List Oper → Nat
  | [] => 0
  | _ :: r => lenO r + 1
theorem lenO_eq : ∀ l, lenO l = l.length
  | [] => rfl
  | _ :: r => by simp [lenO, lenO_eq r]

/-- A region that draws its order. -/
theorem mix_region {N : Option (Nat → Prop)} {P : Program} {sp : List (Nat × CallSpec)} (hsp : ∀ f s, specAt sp f = some s → s.Ok P f) {E : Nat → Prop} {Y : Option YieldAnn} (hY : ∀ y, Y = some y → YieldOk P E y) {r : Option Nat} {wr : Bool} {ops : Array Oper} {id : Nat} {K : Env → World → Prop} {R : Act → World → Prop}
    (hm : P.follows .mixedOrders = true) (hsel : noSelE ops.toList = true) {e : Env} {a : Act} {w : World} (hr : Rep e a) (hd : ∀ d, d ∈ dstsL ops.toList → d < a.tmps.size)
    (hQ : ∀ e' a' w', Rep e' a' → Agree (dstsL ops.toList) a a' → KOE E w w' → K e' w' → R a' w') (h : ∀ w1, Own (Drew w w1) → mixE P N sp Y wr ops.toList (lenO ops.toList) (noBits ops.toList) e w w1 K) :
    (Code.region id ops true).wpIn (WF r) 0 P (QN R) a w := by
  refine wpIn_region_any hm (wpAnyIn_of_wpM (N := nOf N) _ _ _ _ ?_)
  have hn : (noBits ops.toList).toArray = Array.replicate ops.size false := by rw [noBits_eq]; simp
  rw [← hn]
  have h1 := h { w with drawn := w.drawn + 1 } ⟨Below.drew (Below.refl _ w), rfl⟩
  rw [lenO_eq] at h1
  have hko : KOE E w { w with drawn := w.drawn + 1 } := ⟨Nat.le_refl _, fun _ _ _ h _ => h⟩
  have := mixE_sound (N := N) hsp hY (r := r) (wr := wr) (R := R) hsel ops.toList.length (noBits ops.toList) e a w _ (Fr.of_ext (Below.drew (Below.refl _ w))) (by rw [noBits_eq]; simp) (fun k o hk _ => by rw [hn] at hk; simp [Array.getD_eq_getD_getElem?, Array.getElem?_replicate] at hk; split at hk <;> simp at hk) hr hd
    (fun e' a' w' hr' hag hko' hk => hQ e' a' w' hr' hag (hko.trans hko') hk) h1
  rwa [Array.length_toList] at this

end Go.Proofs.YthkcphnkllnfcaaDoor.Vc
