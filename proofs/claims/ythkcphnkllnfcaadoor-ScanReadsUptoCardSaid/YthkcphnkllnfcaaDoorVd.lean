/-
  A small calculus of verification conditions, third part: code ('wpE', 'wpE_sound'), with ranges over functions; functions ('calls_of_E', 'ok_of_vc').
-/
import Derived.Test.YthkcphnkllnfcaaDoorVr
set_option linter.unusedVariables false
set_option linter.unusedSimpArgs false
namespace Go.Proofs.YthkcphnkllnfcaaDoor.Vc
open Go Go.RowKit

/-! ### Iterators -/

theorem Fr.putObj (w : World) (l : Nat) (o : Obj) : Fr (fun b => b = l) w (w.putObj l o) :=
  ⟨rfl, rfl, rfl, by simp, fun b _ hb => World.putObj_heap_other hb⟩

/-- D: the blocks that the rounds' party has for its own. -/
structure Mid (w : World) (D0 D : Nat → Prop) (W : World) : Prop where
  fr : Fr D0 w W
  dom : ∀ b, D b → b < W.heap.size ∧ (D0 b ∨ w.heap.size ≤ b)
structure Step (D : Nat → Prop) (W W' : World) (D' : Nat → Prop) : Prop where
  fr : Fr D W W'
  dom : ∀ b, D' b → b < W'.heap.size ∧ (D b ∨ W.heap.size ≤ b)

def Stab (n : Nat) (J : Nat → (Nat → Prop) → World → Prop) : Prop :=
  ∀ k D W W', J k D W → W.heap.size ≤ W'.heap.size → (∀ b, (b < n ∨ D b) → W'.heap[b]? = W.heap[b]?) → J k D W'
structure DomOk (w : World) (C D0 : Nat → Prop) : Prop where
  d0 : ∀ b, D0 b → b < w.heap.size
  c : ∀ b, C b → b < w.heap.size ∧ ¬ D0 b

/-- A range over the function value fv goes over these, in whatever later world in which the blocks C are as they were. -/
def IterAt (P : Program) (fv : Value) (xs : List (List Value)) (C : Nat → Prop) (w0 : World) : Prop :=
  ∃ gf lb, fv = .func (.func gf) #[] lb ∧ (∀ args w, (callFunc gf args).run P w = .ok (.enter gf args) w) ∧
  ∀ (E : Nat → Prop) (l : Nat) (J : Nat → (Nat → Prop) → World → Prop) (Jx : (Nat → Prop) → World → Prop) (D0 : Nat → Prop) (W : World),
    w0.heap.size ≤ W.heap.size → (∀ b, C b → W.heap[b]? = w0.heap[b]?) → E l → (∀ b, E b → b < W.heap.size) → (∀ b, D0 b → b < W.heap.size) → (∀ b, C b → ¬ D0 b) →
    Stab W.heap.size J → Stab W.heap.size (fun _ => Jx) →
    (∀ k D W1 args, xs[k]? = some args → J k D W1 → Mid W D0 D W1 →
      YieldAt (WF none) 0 P l args.toArray W1 fun e W2 => ∃ b, e = .returned (.bool b) ∧ KOE E W1 W2 ∧ ∃ D', Step D W1 W2 D' ∧ (b = true → J (k + 1) D' W2) ∧ (b = false → Jx D' W2)) →
    J 0 D0 W →
    Calls P gf (#[.func (.yield l) #[] #[]] ++ lb) W fun e W' => (∃ v, e = .returned v) ∧ KOE E W W' ∧ ∃ D', Mid W D0 D' W' ∧ (J xs.length D' W' ∨ Jx D' W')

theorem IterAt.later {P : Program} {fv : Value} {xs : List (List Value)} {C : Nat → Prop} {w0 w1 : World} (h : IterAt P fv xs C w0) (hs : w0.heap.size ≤ w1.heap.size) (hc : ∀ b, C b → w1.heap[b]? = w0.heap[b]?) : IterAt P fv xs C w1 := by
  obtain ⟨gf, lb, h1, h2, h3⟩ := h
  exact ⟨gf, lb, h1, h2, fun E l J Jx D0 W hW hC => h3 E l J Jx D0 W (Nat.le_trans hs hW) (fun b hb => (hC b hb).trans (hc b hb))⟩

/-! ### Code -/

/-- The number, the value in a slot. -/
def gi (e : Env) (d : Nat) : Int := match aget e d with | .int _ n => n | _ => 0
def gv (e : Env) (d : Nat) : Value := aget e d

structure LoopAnn where
  X : Type
  sh : Env → X → List (Nat × Value)
  inv : Env → World → X → World → Prop
  mu : Env → World → X → World → Nat

structure CutAnn where
  X : Type
  sh : Env → X → List (Nat × Value)
  inv : Env → World → X → World → Prop

structure RangeAnn where
  α : Type
  enc : α → List Value
  exs : List Exit := []
  J : Env → World → List α → Nat → (Nat → Prop) → World → Prop
  Jx : Env → World → List α → Exit → (Nat → Prop) → World → Prop

structure Ann where
  sp : List (Nat × CallSpec)
  loops : List (Nat × LoopAnn) := []
  cuts : List (Nat × Nat × CutAnn) := []
  wraps : List Nat := []
  yl : Option YieldAnn := none
  ranges : List (Nat × RangeAnn) := []
  frees : List (Nat × (Env → Nat → Prop)) := []

def dstsC : Code → List Tmp
  | .region _ ops _ => dstsL ops.toList
  | .seq a b => dstsC a ++ dstsC b
  | .cond _ a b => dstsC a ++ dstsC b
  | .block _ b => dstsC b
  | .loop b => dstsC b
  | .scope b => dstsC b
  | _ => []

/-- All slots that the code writes, in rounds too. -/
def slotsC : Code → List Tmp
  | .region _ ops _ => dstsL ops.toList
  | .seq a b => slotsC a ++ slotsC b
  | .cond _ a b => slotsC a ++ slotsC b
  | .block _ b => slotsC b
  | .loop b => slotsC b
  | .scope b => slotsC b
  | .rangeFunc _ ps a b => ps.toList ++ (slotsC a ++ slotsC b)
  | _ => []
theorem dsts_slots {c : Code} {d : Tmp} (h : d ∈ dstsC c) : d ∈ slotsC c := by
  induction c with
  | seq a b iha ihb => simp only [dstsC, slotsC, List.mem_append] at *; exact h.imp iha ihb
  | cond c a b iha ihb => simp only [dstsC, slotsC, List.mem_append] at *; exact h.imp iha ihb
  | region => exact h
  | block id b ih => exact ih h
  | loop b ih => exact ih h
  | scope b ih => exact ih h
  | _ => simp [dstsC] at h

/-- No range over a function. -/
def noR : Code → Bool
  | .seq a b => noR a && noR b
  | .cond _ a b => noR a && noR b
  | .block _ b => noR b
  | .loop b => noR b
  | .scope b => noR b
  | .rangeFunc .. => false
  | _ => true

def firstR : Code → Option Nat
  | .rangeFunc _ _ a b => (firstR a).or (firstR b)
  | .region id _ _ => some id
  | .seq a b => (firstR a).or (firstR b)
  | .cond _ a b => (firstR a).or (firstR b)
  | .block _ b => firstR b
  | .loop b => firstR b
  | .scope b => firstR b
  | _ => none
def lastR : Code → Option Nat
  | .rangeFunc _ _ a b => (lastR b).or (lastR a)
  | .region id _ _ => some id
  | .seq a b => (lastR b).or (lastR a)
  | .cond _ a b => (lastR b).or (lastR a)
  | .block _ b => lastR b
  | .loop b => lastR b
  | .scope b => lastR b
  | _ => none

def loopAt (l : List (Nat × LoopAnn)) (k : Option Nat) : Option LoopAnn := match l, k with
  | [], _ => none
  | _, none => none
  | (n, x) :: rest, some m => match Nat.beq n m with | true => some x | false => loopAt rest (some m)
def rangeAt (l : List (Nat × RangeAnn)) (k : Option Nat) : Option RangeAnn := match l, k with
  | [], _ => none
  | _, none => none
  | (n, x) :: rest, some m => match Nat.beq n m with | true => some x | false => rangeAt rest (some m)
def cutAt (l : List (Nat × Nat × CutAnn)) (k k' : Option Nat) : Option CutAnn := match l, k, k' with
  | [], _, _ => none
  | (n, n', x) :: rest, some m, some m' => match Nat.beq n m && Nat.beq n' m' with | true => some x | false => cutAt rest (some m) (some m')
  | _, _, _ => none

def freeAt (l : List (Nat × (Env → Nat → Prop))) (id : Nat) (e : Env) : Option (Nat → Prop) := match l with
  | [] => none
  | (n, f) :: r => match Nat.beq n id with | true => some (f e) | false => freeAt r id e
def memN (l : List Nat) (n : Nat) : Bool := match l with | [] => false | m :: r => Nat.beq m n || memN r n

/-- The slots listed hold whatever; then one goes on. -/
def havocK (u : Nat → Value) : List Tmp → Env → (Env → Prop) → Prop
  | [], e, K => K e
  | d :: ds, e, K => havocK u ds ((d, u d) :: e) K
def setK : List (Nat × Value) → Env → (Env → Prop) → Prop
  | [], e, K => K e
  | (d, v) :: l, e, K => setK l ((d, v) :: e) K
def slotsAre (e : Env) : List (Nat × Value) → Prop → Prop
  | [], A => A
  | (d, v) :: l, A => aget e d = v ∧ slotsAre e l A

def thenE (K : Env → World → Prop) (Q : Exit → Env → World → Prop) : Exit → Env → World → Prop := fun x e w => match x with
  | .normal => K e w
  | x => Q x e w

def anyGuard : List Oper → Bool
  | [] => false
  | o :: r => match o.guard with | some _ => true | none => anyGuard r
def allPure : List Oper → Bool
  | [] => true
  | o :: r => match pureOp o.op with | true => allPure r | false => false

def regionE (P : Program) (A : Ann) (id : Nat) (ops : Array Oper) (draw : Bool) (K : Env → World → Prop) (e : Env) (w : World) : Prop :=
  match draw with
  | false => match anyGuard ops.toList && allPure ops.toList with
    | true => bcase (purE P ops.toList ops.toList [] e).2 (copyK (purE P ops.toList ops.toList [] e).1 (dstsL ops.toList) e fun e' => forceLast (purE P ops.toList ops.toList [] e).1 (lastD ops.toList) e' fun e'' => K e'' w) False
    | false => seqE P A.sp A.yl (memN A.wraps id) ops.toList ops.toList false e w K
  | true => match P.follows .mixedOrders && noSelE ops.toList with
    | true => ∀ w1, Own (Drew w w1) → mixE P (freeAt A.frees id e) A.sp A.yl (memN A.wraps id) ops.toList (lenO ops.toList) (noBits ops.toList) e w w1 K
    | false => False

/-- Code of tests alone: 'case a, b, c:'. -/
def pureC : Code → Bool
  | .skip => true
  | .region _ ops false => allPure ops.toList
  | .seq a b => pureC a && pureC b
  | .cond _ a b => pureC a && pureC b
  | _ => false

def lastDC : Code → Option Tmp
  | .region _ ops _ => lastD ops.toList
  | .seq a b => match lastDC b with | some d => some d | none => lastDC a
  | .cond _ a b => match lastDC b with | some d => some d | none => lastDC a
  | _ => none

/-- Behind a test the slot's Boolean is known. -/
def condSet (c : Operand) (t : Bool) (e : Env) : Env := match c with
  | .tmp d => putE e (some d) (.bool t)
  | _ => e

theorem condSet_rep {c : Operand} {t : Bool} {e : Env} {a : Act} (hr : Rep e a) (h : evalL e c = .bool t) : Rep (condSet c t e) a := by
  cases c with
  | tmp d => exact hr.same h
  | _ => exact hr

def purC (P : Program) : Code → Env → Env × Bool
  | .skip, e => (e, true)
  | .region _ ops _, e => purE P ops.toList ops.toList [] e
  | .seq a b, e => ((purC P b (purC P a e).1).1, (purC P a e).2 && (purC P b (purC P a e).1).2)
  | .cond c a b, e => match evalL e c with
    | .bool t => mergeA t (dstsC a ++ dstsC b) e (purC P a (condSet c true e)) (purC P b (condSet c false e))
    | _ => (e, false)
  | _, e => (e, false)

/-- 'if !c { c = d }': one test more for c. -/
def joins (c : Operand) (x y : Code) : Option Tmp := match c, x with
  | .tmp d, .skip => match pureC y, lastDC y with
    | true, some d' => match Nat.beq d d' with | true => some d | false => none
    | _, _ => none
  | _, _ => none

def lenX {α : Type} : List α → Nat
  | [] => 0
  | _ :: r => lenX r + 1
theorem lenX_eq {α : Type} : ∀ l : List α, lenX l = l.length
  | [] => rfl
  | _ :: r => by simp [lenX, lenX_eq r]
def exMem : Exit → List Exit → Bool
  | _, [] => false
  | .ret, .ret :: _ => true
  | .exit i, .exit j :: r => match Nat.beq i j with | true => true | false => exMem (.exit i) r
  | .goto i, .goto j :: r => match Nat.beq i j with | true => true | false => exMem (.goto i) r
  | x, _ :: r => exMem x r
def allX (F : Exit → Prop) : List Exit → Prop
  | [] => True
  | [x] => F x
  | x :: r => F x ∧ allX F r

/-- The round's parameters. -/
def zipE : List Tmp → List Value → Env → (Env → Prop) → Prop
  | [], [], e, K => K e
  | d :: ds, v :: vs, e, K => zipE ds vs ((d, v) :: e) K
  | _, _, _, _ => False

/-- How a round may be left. -/
def roundE (exs : List Exit) (J : Nat → (Nat → Prop) → World → Prop) (Jx : Exit → (Nat → Prop) → World → Prop) (k : Nat) (D : Nat → Prop) (W : World) : Exit → Env → World → Prop := fun x _ W' => match x with
  | .normal => ∃ D', Own (Step D W W' D') ∧ Own (J (k + 1) D' W')
  | .ret => match exMem .ret exs with | true => ∃ D', Own (Step D W W' D') ∧ Own (Jx .ret D' W') | false => False
  | .exit id => match exMem (.exit id) exs with | true => ∃ D', Own (Step D W W' D') ∧ Own (Jx (.exit id) D' W') | false => False
  | .goto t => match exMem (.goto t) exs with | true => ∃ D', Own (Step D W W' D') ∧ Own (Jx (.goto t) D' W') | false => False
  | _ => False

/-- What a round's assignments leave: records may turn, new ones. -/
structure Turn (n : Nat) (w w' : World) : Prop where
  ext : Below n w w'
  size : w'.heap.size = w.heap.size
  cells : ∀ (k : Nat) (o : Obj), w.heap[k]? = some o → isRec o = false → w'.heap[k]? = some o

def wpE (P : Program) (A : Ann) : Code → (Exit → Env → World → Prop) → Env → World → Prop
  | .skip, Q, e, w => Q .normal e w
  | .label _, Q, e, w => Q .normal e w
  | .region id ops draw, Q, e, w => regionE P A id ops draw (Q .normal) e w
  | .seq x y, Q, e, w => match cutAt A.cuts (firstR x) (lastR x) with
    | some C => wpE P A x (thenE (fun e' w' => ∃ c : C.X, slotsAre e' (C.sh e c) (Own (C.inv e w c w'))) Q) e w ∧
        ∀ (u : Nat → Value) (c : C.X) (w' : World), Own (C.inv e w c w') → havocK u (dstsC x) e fun e1 => setK (C.sh e c) e1 fun e2 => wpE P A y Q e2 w'
    | none => wpE P A x (thenE (wpE P A y Q) Q) e w
  | .cond c x y, Q, e, w => match joins c x y with
    | some d => bcase (purC P (.cond c x y) e).2 (copyK (purC P (.cond c x y) e).1 (dstsC (.cond c x y)) e fun e' => forceLast (purC P (.cond c x y) e).1 (some d) e' fun e'' => Q .normal e'' w) False
    | none => match evalL e c with
      | .bool b => bcase b (wpE P A x Q e w) (wpE P A y Q e w)
      | _ => False
  | .block id b, Q, e, w => wpE P A b (fun x e' w' => match x with | .exit i => (match Nat.beq i id with | true => Q .normal e' w' | false => Q (.exit i) e' w') | x => Q x e' w') e w
  | .loop b, Q, e, w => match loopAt A.loops (firstR b) with
    | some L => (∃ x : L.X, slotsAre e (L.sh e x) (Own (L.inv e w x w))) ∧
        ∀ (u : Nat → Value) (x : L.X) (w' : World), Own (L.inv e w x w') → havocK u (dstsC b) e fun e1 => setK (L.sh e x) e1 fun e2 =>
          wpE P A b (thenE (fun e' w'' => ∃ y : L.X, slotsAre e' (L.sh e y) (Own (L.inv e w y w'') ∧ Own (L.mu e w y w'' < L.mu e w x w'))) Q) e2 w'
    | none => False
  | .scope b, Q, e, w => wpE P A b (fun x e' w' => match x with | .goto _ => False | x => Q x e' w') e w
  | .exit id, Q, e, w => Q (.exit id) e w
  | .ret, Q, e, w => Q .ret e w
  | .rangeFunc f ps asg b, Q, e, w => match rangeAt A.ranges ((firstR asg).or (firstR b)) with
    | some R => ∃ (xs : List R.α) (C D0 : Nat → Prop), Own (IterAt P (evalL e f) (xs.map R.enc) C w) ∧ Own (DomOk w C D0) ∧ Own (R.J e w xs 0 D0 w) ∧ Own (Stab w.heap.size (R.J e w xs)) ∧ Own (∀ x, Stab w.heap.size (fun _ => R.Jx e w xs x)) ∧
        (∀ (k : Nat) (x : R.α) (D : Nat → Prop) (W : World), xs[k]? = some x → Own (R.J e w xs k D W) → Own (Mid w D0 D W) → zipE ps.toList (R.enc x) e fun e1 => match pureC asg with
          | true => bcase (purC P asg e1).2 (copyK (purC P asg e1).1 (dstsC asg) e1 fun e2 => wpE P A b (roundE R.exs (R.J e w xs) (R.Jx e w xs) k D W) e2 W) False
          | false => wpE P A asg (thenE (fun e2 W1 => ∀ W2, Own (Turn w.heap.size W1 W2) → wpE P A b (roundE R.exs (R.J e w xs) (R.Jx e w xs) k D W) e2 W2) (fun _ _ _ => False)) e1 W) ∧
        (∀ (D : Nat → Prop) (W : World), Own (R.J e w xs (lenX xs) D W) → Own (Mid w D0 D W) → Q .normal e W) ∧
        allX (fun x => ∀ (D : Nat → Prop) (W : World), Own (R.Jx e w xs x D W) → Own (Mid w D0 D W) → Q x e W) R.exs
    | none => False
  | _, _, _, _ => False

theorem slotsAre_spec {e : Env} : ∀ {l : List (Nat × Value)} {A : Prop}, slotsAre e l A → (∀ p ∈ l, aget e p.1 = p.2) ∧ A
  | [], A, h => ⟨by simp, h⟩
  | (d, v) :: l, A, h => by
    obtain ⟨h1, h2⟩ := h
    obtain ⟨h3, h4⟩ := slotsAre_spec h2
    exact ⟨fun p hp => (List.mem_cons.1 hp).elim (fun e => by rw [e]; exact h1) (h3 p), h4⟩

theorem havocK_spec {u : Nat → Value} {K : Env → Prop} {ds : List Tmp} {e : Env} (h : havocK u ds e K) : ∃ e', K e' ∧ ∀ t, aget e' t = u t ∨ (t ∉ ds ∧ aget e' t = aget e t) := by
  induction ds generalizing e with
  | nil => exact ⟨e, h, fun t => .inr ⟨by simp, rfl⟩⟩
  | cons d ds ih =>
    obtain ⟨e', h1, h2⟩ := ih h
    refine ⟨e', h1, fun t => ?_⟩
    rcases h2 t with h3 | ⟨h3, h4⟩
    · exact .inl h3
    · by_cases hd : t = d
      · left
        rw [h4, hd]
        exact aget_put_same (e := e) (d := d)
      · right
        refine ⟨by simp [hd, h3], ?_⟩
        rw [h4]
        exact aget_put_other (e := e) hd

theorem setK_spec {K : Env → Prop} {a : Act} {l : List (Nat × Value)} {e : Env} (hr : Rep e a) (hl : ∀ p ∈ l, a.eval (.tmp p.1) = p.2) (h : setK l e K) : ∃ e', Rep e' a ∧ K e' := by
  induction l generalizing e with
  | nil => exact ⟨e, hr, h⟩
  | cons p l ih =>
    obtain ⟨d, v⟩ := p
    have h1 : a.eval (.tmp d) = v := hl (d, v) (by simp)
    exact ih (hr.same ((congrFun hr (.tmp d)).symm.trans h1)) (fun p hp => hl p (by simp [hp])) h

/-- A frame is known by what it holds in the slots that may have been written, and by the old frame. -/
theorem frame_is {ds : List Tmp} {e : Env} {a a' : Act} {l : List (Nat × Value)} {K : Env → Prop} (hr : Rep e a) (hag : Agree ds a a') (hl : ∀ p ∈ l, a'.eval (.tmp p.1) = p.2)
    (h : havocK (fun i => a'.eval (.tmp i)) ds e fun e1 => setK l e1 K) : ∃ e', Rep e' a' ∧ K e' := by
  obtain ⟨e1, h1, h2⟩ := havocK_spec h
  refine setK_spec ?_ hl h1
  refine Rep.of_agree hr hag (fun t ht => ?_) (fun t ht => ?_)
  · rcases h2 t with h3 | ⟨h3, _⟩
    · exact h3
    · exact absurd ht h3
  · rcases h2 t with h3 | ⟨_, h4⟩
    · rw [h3, ← show a.eval (.tmp t) = aget e t from congrFun hr (.tmp t)]
      simp only [Act.eval, Array.getD_eq_getD_getElem?, hag.slot t ht]
    · exact h4

theorem purC_sound {P : Program} {r : Option Nat} : ∀ (c : Code) (e : Env) (a : Act), Rep e a → (∀ d, d ∈ dstsC c → d < a.tmps.size) → pureC c = true → (purC P c e).2 = true →
    ∃ a', Rep (purC P c e).1 a' ∧ Agree (dstsC c) a a' ∧ ∀ (Q : Exit → Act → World → Prop) w, Q .normal a' w → c.wpIn (WF r) 0 P Q a w := by
  intro c
  induction c with
  | skip => intro e a hr hd hp h; exact ⟨a, hr, Agree.refl _ _, fun Q w hq => wpIn_skip hq⟩
  | region id ops draw =>
    intro e a hr hd hp h
    cases draw with
    | true => simp [pureC] at hp
    | false =>
      obtain ⟨a', h0, h1, h2⟩ := purE_sound (r := r) (ops := ops) ops.toList [] e a (by intro d c h; simp [kvAt] at h) hr hd h
      exact ⟨a', h0, h1, fun Q w hq => wpIn_region_list (h2 Q w hq)⟩
  | seq x y ihx ihy =>
    intro e a hr hd hp h
    simp only [pureC, Bool.and_eq_true] at hp
    simp only [purC, Bool.and_eq_true] at h ⊢
    obtain ⟨a1, h0, h1, h2⟩ := ihx e a hr (fun d h => hd d (by simp [dstsC, h])) hp.1 h.1
    obtain ⟨a2, h3, h4, h5⟩ := ihy _ a1 h0 (fun d h => by rw [h1.size]; exact hd d (by simp [dstsC, h])) hp.2 h.2
    exact ⟨a2, h3, h1.trans h4, fun Q w hq => wpIn_seq (h2 _ w (h5 Q w hq))⟩
  | cond c x y ihx ihy =>
    intro e a hr hd hp h
    simp only [pureC, Bool.and_eq_true] at hp
    simp only [purC] at h ⊢
    split at h
    case h_2 => cases h
    rename_i b hb
    cases b with
    | true =>
      simp only [mergeA] at h ⊢
      obtain ⟨a1, h0, h1, h2⟩ := ihx _ a (condSet_rep hr hb) (fun d h => hd d (by simp [dstsC, h])) hp.1 (okM_true h)
      have h1' : Agree (dstsC x ++ dstsC y) a a1 := h1.mono (by simp +contextual)
      exact ⟨a1, merge_rep (b := true) (fun u v => mergeV_true u v) rfl hr h1' h0, h1', fun Q w hq => wpIn_cond (t := true) ((congrFun hr c).trans hb) (h2 Q w hq)⟩
    | false =>
      simp only [mergeA] at h ⊢
      obtain ⟨a1, h0, h1, h2⟩ := ihy _ a (condSet_rep hr hb) (fun d h => hd d (by simp [dstsC, h])) hp.2 (okM_false h)
      have h1' : Agree (dstsC x ++ dstsC y) a a1 := h1.mono (by simp +contextual)
      exact ⟨a1, merge_rep (b := false) (fun u v => mergeV_false u v) rfl hr h1' h0, h1', fun Q w hq => wpIn_cond (t := false) ((congrFun hr c).trans hb) (h2 Q w hq)⟩
  | _ => intro e a hr hd hp h; simp [pureC] at hp

/-- The slots written are copied behind the old list. -/
theorem copy_rep {x e e' : Env} {a a' : Act} {ds : List Tmp} (hr : Rep e a) (h0 : Rep x a') (h1 : Agree ds a a') (h4 : ∀ t, aget e' t = aget x t ∨ (t ∉ ds ∧ aget e' t = aget e t)) : Rep e' a' := by
  refine Rep.of_agree hr h1 (fun t ht => ?_) (fun t ht => ?_)
  · rcases h4 t with h5 | ⟨h5, _⟩
    · rw [h5]; exact (congrFun h0 (.tmp t)).symm
    · exact absurd ht h5
  · rcases h4 t with h5 | ⟨_, h6⟩
    · rw [h5, ← show a'.eval (.tmp t) = aget x t from congrFun h0 (.tmp t), ← show a.eval (.tmp t) = aget e t from congrFun hr (.tmp t)]
      simp only [Act.eval, Array.getD_eq_getD_getElem?, h1.slot t ht]
    · exact h6

theorem forceLast_rep {x e' : Env} {a' : Act} {d : Option Tmp} {K : Env → Prop} (hr' : Rep e' a') (h0 : Rep x a') (h3 : forceLast x d e' K) : ∃ e'', Rep e'' a' ∧ K e'' := by
  unfold forceLast at h3
  split at h3
  · exact ⟨e', hr', h3⟩
  · rename_i d
    rw [forceV_eq] at h3
    refine ⟨_, hr'.same (d := d) (v := aget x d) ?_, h3⟩
    rw [← show a'.eval (.tmp d) = aget e' d from congrFun hr' (.tmp d)]
    exact congrFun h0 (.tmp d)


/-! ### What holds at every point of a function's code -/

structure Agr (ds : List Tmp) (a a' : Act) : Prop where
  size : a'.tmps.size = a.tmps.size
  slot : ∀ i, i ∉ ds → a'.tmps[i]? = a.tmps[i]?
theorem Agr.refl (ds : List Tmp) (a : Act) : Agr ds a a := ⟨rfl, fun _ _ => rfl⟩
theorem Agr.trans {d1 d2 : List Tmp} {a b c : Act} (h : Agr d1 a b) (k : Agr d2 b c) : Agr (d1 ++ d2) a c :=
  ⟨k.size.trans h.size, fun i hi => by
    simp only [List.mem_append, not_or] at hi
    exact (k.slot i hi.2).trans (h.slot i hi.1)⟩
theorem Agr.mono {d1 d2 : List Tmp} {a b : Act} (h : Agr d1 a b) (hs : ∀ i, i ∈ d1 → i ∈ d2) : Agr d2 a b := ⟨h.size, fun i hi => h.slot i fun h1 => hi (hs i h1)⟩
theorem Agree.agr {ds : List Tmp} {a b : Act} (h : Agree ds a b) : Agr ds a b := ⟨h.size, h.slot⟩

/-- The marks that the function's loops over functions have left among its deferred calls. -/
def MkOk (B : Nat) (w : World) : List Deferred → Prop
  | [] => True
  | m :: ms => (∃ d, m = { target := .collected d, args := #[] } ∧ B ≤ d ∧ w.heap[d]? = some (.deferred (some [])) ∧ ∀ m' ∈ ms, ∀ d', m'.target = .collected d' → d' < d) ∧ MkOk B w ms
theorem MkOk.keep {B : Nat} {w w' : World} {E : Nat → Prop} (hE : ∀ k, E k → k < B) (hk : KOE E w w') : ∀ {ms : List Deferred}, MkOk B w ms → MkOk B w' ms
  | [], _ => trivial
  | m :: ms, ⟨⟨d, h1, h2, h3, h4⟩, h⟩ => ⟨⟨d, h1, h2, hk.same d _ (fun he => Nat.lt_irrefl d (Nat.lt_of_lt_of_le (hE d he) h2)) h3 rfl, h4⟩, h.keep hE hk⟩
theorem MkOk.lt {B : Nat} {w : World} : ∀ {ms : List Deferred}, MkOk B w ms → ∀ m ∈ ms, ∀ d, m.target = .collected d → d < w.heap.size
  | [], _, m, hm, d, hd => by simp at hm
  | x :: ms, ⟨⟨d', h1, h2, h3, h4⟩, h⟩, m, hm, d, hd => by
    rcases List.mem_cons.1 hm with e | e
    · subst e; rw [h1] at hd; simp at hd; subst hd; exact (Array.getElem?_eq_some_iff.1 h3).1
    · exact h.lt m e d hd

structure St (B : Nat) (r : Option Nat) (w : World) (ds : List Deferred) : Prop where
  size : B ≤ w.heap.size
  round : ∀ l, r = some l → B ≤ l ∧ ∃ rec, w.heap[l]? = some (.loop rec)
  marks : MkOk B w ds

theorem St.step {B : Nat} {E : Nat → Prop} (hE : ∀ k, E k → k < B) {r : Option Nat} {w w' : World} {ds ds' : List Deferred} (h : St B r w ds) (hk : KOE E w w') (hm : MkOk B w' ds') : St B r w' ds' :=
  ⟨Nat.le_trans h.size hk.size, fun l hl => by
    obtain ⟨h1, rec, h2⟩ := h.round l hl
    exact ⟨h1, rec, hk.same l _ (fun he => Nat.lt_irrefl l (Nat.lt_of_lt_of_le (hE l he) h1)) h2 rfl⟩, hm⟩

/-- What the calculus shows of code. -/
def PostE (B : Nat) (E : Nat → Prop) (Q : Exit → Env → World → Prop) (c : Code) (a : Act) (w : World) : Exit → Act → World → Prop := fun x a' w' =>
  (∃ e', Rep e' a' ∧ Q x e' w') ∧ Agr (dstsC c) a a' ∧ KOE E w w' ∧ MkOk B w' a'.defers ∧ (noR c = true → a'.defers = a.defers)

theorem zip_rep {K : Env → Prop} : ∀ {ps : List Tmp} {xs : List Value} {e : Env} {a : Act}, Rep e a → (∀ d, d ∈ ps → d < a.tmps.size) → zipE ps xs e K →
    xs.length = ps.length ∧ ∃ e', K e' ∧ Rep e' { tmps := (ps.zip xs).foldl (fun t (p : Tmp × Value) => t.setIfInBounds p.1 p.2) a.tmps, defers := [] } ∧ ((ps.zip xs).foldl (fun t (p : Tmp × Value) => t.setIfInBounds p.1 p.2) a.tmps).size = a.tmps.size
  | [], [], e, a, hr, _, h => ⟨rfl, e, h, by funext x; rw [show Act.eval _ x = a.eval x from by cases x <;> rfl]; exact congrFun hr x, rfl⟩
  | d :: ds, v :: vs, e, a, hr, hd, h => by
    simp only [zipE] at h
    obtain ⟨h1, e', h2, h3, h4⟩ := zip_rep (a := a.put (some d) v) (hr.put (hd d (by simp)) v) (fun d' hd' => by rw [size_put]; exact hd d' (by simp [hd'])) h
    exact ⟨by simp [h1], e', h2, h3, h4.trans size_put⟩
  | [], v :: vs, e, a, _, _, h => h.elim
  | d :: ds, [], e, a, _, _, h => h.elim

theorem allX_spec {F : Exit → Prop} : ∀ {l : List Exit}, allX F l → ∀ x ∈ l, F x
  | [], _, x, hx => by simp at hx
  | [y], h, x, hx => by simp at hx; subst hx; exact h
  | y :: z :: r, h, x, hx => by
    rcases List.mem_cons.1 hx with h1 | h1
    · subst h1; exact h.1
    · exact allX_spec h.2 x h1
theorem exMem_spec {x : Exit} : ∀ {l : List Exit}, exMem x l = true → x ∈ l
  | [], h => by cases x <;> simp [exMem] at h
  | y :: r, h => by
    have ih : exMem x r = true → x ∈ y :: r := fun h => List.mem_cons_of_mem y (exMem_spec h)
    have nat : ∀ {i j : Nat}, (match Nat.beq i j with | true => true | false => exMem x r) = true → i = j ∨ x ∈ y :: r := by
      intro i j h
      rcases @beqN i j with ⟨h1, h2⟩ | ⟨_, h2⟩
      · exact .inl h1
      · simp only [h2] at h; exact .inr (ih h)
    cases x with
    | ret => cases y with
      | ret => simp
      | _ => exact ih h
    | exit i => cases y with
      | exit j => rcases nat h with h1 | h1; subst h1; simp; exact h1
      | _ => exact ih h
    | goto i => cases y with
      | goto j => rcases nat h with h1 | h1; subst h1; simp; exact h1
      | _ => exact ih h
    | _ => cases y <;> exact ih h

def jumpOf : Exit → Option Code
  | .ret => some .ret
  | .exit i => some (.exit i)
  | .goto t => some (.goto t)
  | _ => none

/-- 'for .. := range f': entering. -/
theorem enter_any {P : Program} {B : Nat} {r : Option Nat} {w : World} {ds : List Deferred} (hst : St B r w ds) (fn : FuncId) (tmps : Array Value) (ps : Array Tmp) (asg b : Code) :
    ∃ (l : Nat) (mark : List Deferred) (W : World) (dd : Nat), (Instr.enterLoop fn tmps ps asg b r).run P w = .ok (l, mark) W ∧ w.heap.size ≤ l ∧ Below w.heap.size w W ∧
      W.heap[l]? = some (.loop { state := .ready, pending := none, fn, tmps, params := ps, assign := asg, body := b, defers := dd }) ∧
      (∀ (W' : World) (E : Nat → Prop), (∀ k, E k → k < B ∨ k = l) → KOE E W W' → KOE E w W → MkOk B W' (mark ++ ds)) := by
  cases r with
  | none =>
    refine ⟨w.heap.size + 1, _, _, w.heap.size, run_enterLoop_outer _ _ _ _ _, by omega, ((Below.refl _ w).alloc (Nat.le_refl _) _).alloc (by simp) _, ?_, ?_⟩
    · have := World.alloc_heap_new (w.alloc (.deferred (some []))) (.loop { state := .ready, pending := none, fn, tmps, params := ps, assign := asg, body := b, defers := w.heap.size })
      rwa [World.size_alloc] at this
    · intro W' E hE hk hk0
      have hd : ((w.alloc (.deferred (some []))).alloc (.loop { state := .ready, pending := none, fn, tmps, params := ps, assign := asg, body := b, defers := w.heap.size })).heap[w.heap.size]? = some (.deferred (some [])) :=
        (Below.heap_alloc _ _ _ (by simp)).trans (World.alloc_heap_new w _)
      have hs := hst.size
      refine ⟨⟨_, rfl, hst.size, hk.same _ _ (fun he => ?_) hd rfl, fun m' hm d' hd' => hst.marks.lt m' hm d' hd'⟩, ?_⟩
      · rcases hE _ he with h | h <;> omega
      · have old : ∀ {ms : List Deferred}, MkOk B w ms → MkOk B W' ms := by
          intro ms
          induction ms with
          | nil => exact fun _ => trivial
          | cons m ms ih =>
            rintro ⟨⟨d, h1, h2, h3, h4⟩, h⟩
            have hlt := (Array.getElem?_eq_some_iff.1 h3).1
            refine ⟨⟨d, h1, h2, (hk0.trans hk).same d _ (fun he => ?_) h3 rfl, h4⟩, ih h⟩
            rcases hE _ he with h | h <;> omega
        exact old hst.marks
  | some l0 =>
    obtain ⟨h1, rec, h2⟩ := hst.round l0 rfl
    refine ⟨w.heap.size, _, _, rec.defers, run_enterLoop_inner h2 _ _ _ _ _, Nat.le_refl _, (Below.refl _ w).alloc (Nat.le_refl _) _, World.alloc_heap_new w _, ?_⟩
    intro W' E hE hk hk0
    have hs := hst.size
    have old : ∀ {ms : List Deferred}, MkOk B w ms → MkOk B W' ms := by
      intro ms
      induction ms with
      | nil => exact fun _ => trivial
      | cons m ms ih =>
        rintro ⟨⟨d, h1, h2, h3, h4⟩, h⟩
        have hlt := (Array.getElem?_eq_some_iff.1 h3).1
        refine ⟨⟨d, h1, h2, (hk0.trans hk).same d _ (fun he => ?_) h3 rfl, h4⟩, ih h⟩
        rcases hE _ he with h | h <;> omega
    exact old hst.marks

theorem turn_put {n l : Nat} {w : World} {o o' : Obj} (hl : n ≤ l) (h : w.heap[l]? = some o) (ho : isRec o = true) : Turn n w (w.putObj l o') :=
  ⟨⟨rfl, rfl, rfl, by simp, fun k hk => World.putObj_heap_other (by omega)⟩, by simp, fun k o2 hk ho2 => by
    by_cases e : k = l
    · subst e; rw [h] at hk; cases hk; rw [ho] at ho2; cases ho2
    · rw [World.putObj_heap_other e]; exact hk⟩

theorem KOE.putObj {E : Nat → Prop} {w : World} {l : Nat} {o : Obj} (h : E l) : KOE E w (w.putObj l o) :=
  ⟨by simp, fun k o2 hk h2 _ => by rw [World.putObj_heap_other (fun e => by subst e; exact hk h)]; exact h2⟩

def Sound (P : Program) (A : Ann) (B : Nat) (E : Nat → Prop) (c : Code) : Prop :=
  ∀ (r : Option Nat) (Q : Exit → Env → World → Prop) (e : Env) (a : Act) (w : World), St B r w a.defers → Rep e a → (∀ d, d ∈ slotsC c → d < a.tmps.size) → wpE P A c Q e w → c.wpIn (WF r) 0 P (PostE B E Q c a w) a w

theorem range_sound {P : Program} {A : Ann} {B : Nat} {E : Nat → Prop} (hE : ∀ k, E k → k < B) {f : Operand} {ps : Array Tmp} {asg b : Code} (iha : Sound P A B E asg) (ihb : Sound P A B E b) : Sound P A B E (.rangeFunc f ps asg b) := by
  intro r Q e a w hst hr hd h
  simp only [wpE] at h
  split at h
  case h_2 => exact h.elim
  rename_i R hR
  obtain ⟨xs, C, D0, hit, hdom, hJ0, hstab, hstabx, hbody, hdone, hstop⟩ := h
  rw [lenX_eq] at hdone
  obtain ⟨gf, lb, hfv, eg, hit⟩ := hit
  have hfe : a.eval f = .func (.func gf) #[] lb := (congrFun hr f).trans hfv
  have hsB := hst.size
  refine wpIn_rangeFunc ?_
  intro fn hfn
  obtain ⟨l, mark, W1, dd, hent, hl, hb1, hrec1, hmk⟩ := enter_any hst fn a.tmps ps asg b
  have hl1 : l < W1.heap.size := (Array.getElem?_eq_some_iff.1 hrec1).1
  obtain ⟨rec, hrec⟩ : ∃ rec : LoopState → Option Code → Loop, rec = fun st pe => { state := st, pending := pe, fn, tmps := a.tmps, params := ps, assign := asg, body := b, defers := dd } := ⟨_, rfl⟩
  have hrec1 : W1.heap[l]? = some (.loop (rec .ready none)) := by rw [hrec]; exact hrec1
  have hlE : ¬ E l := fun h => Nat.lt_irrefl l (Nat.lt_of_lt_of_le (hE l h) (Nat.le_trans hsB hl))
  refine ⟨l, mark, W1, { target := .fn (.func gf) lb, args := #[.func (.yield l) #[] #[]] }, W1, gf, #[.func (.yield l) #[] #[]] ++ lb, W1, hent, ?_, fun _ _ => trivial, ?_, (fun h => by cases h), ?_⟩
  · simp only [resolve, hfe]
    simp [go_sem]
  · simp [invoke, go_sem, eg]
  obtain ⟨E', hE'⟩ : ∃ E' : Nat → Prop, E' = fun k => E k ∨ k = l := ⟨_, rfl⟩
  have hE'l : E' l := by rw [hE']; exact .inr rfl
  have toE' : ∀ {x y : World}, KOE E x y → KOE E' x y := fun h => h.mono (fun k hk => by rw [hE']; exact .inl hk)
  have hE'B : ∀ k, E' k → k < B ∨ k = l := fun k hk => by rw [hE'] at hk; exact hk.imp (hE k) id
  obtain ⟨J2, hJ2⟩ : ∃ J2 : Nat → (Nat → Prop) → World → Prop, J2 = fun k Dx W => ∃ D, ¬ D l ∧ (∀ b, Dx b ↔ D b ∨ b = l) ∧ R.J e w xs k D W ∧ W.heap[l]? = some (.loop (rec .ready none)) := ⟨_, rfl⟩
  obtain ⟨Jx2, hJx2⟩ : ∃ Jx2 : (Nat → Prop) → World → Prop, Jx2 = fun Dx W => ∃ x c D, jumpOf x = some c ∧ x ∈ R.exs ∧ ¬ D l ∧ (∀ b, Dx b ↔ D b ∨ b = l) ∧ R.Jx e w xs x D W ∧ W.heap[l]? = some (.loop (rec .done (some c))) := ⟨_, rfl⟩
  have hD0l : ¬ D0 l := fun h => by have := hdom.d0 l h; omega
  -- what a turn of the record leaves
  have keepJ : ∀ {k : Nat} {D : Nat → Prop} {W : World} {o : Obj}, ¬ D l → R.J e w xs k D W → R.J e w xs k D (W.putObj l o) := fun hn hj =>
    hstab _ _ _ _ hj (by simp) (fun b hb => World.putObj_heap_other (fun e => by subst e; rcases hb with hb | hb; omega; exact hn hb))
  have keepX : ∀ {x : Exit} {D : Nat → Prop} {W : World} {o : Obj}, ¬ D l → R.Jx e w xs x D W → R.Jx e w xs x D (W.putObj l o) := fun hn hj =>
    hstabx _ 0 _ _ _ hj (by simp) (fun b hb => World.putObj_heap_other (fun e => by subst e; rcases hb with hb | hb; omega; exact hn hb))
  -- the party's own blocks, seen from the loop's beginning
  have toMid : ∀ {D Dx : Nat → Prop} {W : World}, (∀ b, Dx b ↔ D b ∨ b = l) → Mid W1 (fun b => D0 b ∨ b = l) Dx W → Mid w D0 D W := by
    intro D Dx W hDx hm
    refine ⟨Fr.trans (Fr.of_ext hb1) hm.fr (fun b hb hh => ?_), fun b hb => ?_⟩
    · rcases hh with h1 | h1
      · exact h1
      · omega
    · obtain ⟨h1, h2⟩ := hm.dom b ((hDx b).2 (.inl hb))
      refine ⟨h1, ?_⟩
      have := hb1.size
      rcases h2 with (h2 | h2) | h2
      · exact .inl h2
      · right; omega
      · right; omega
  have midPut : ∀ {D : Nat → Prop} {W : World} {o : Obj}, Mid w D0 D W → Mid w D0 D (W.putObj l o) := by
    intro D W o hm
    refine ⟨Fr.trans hm.fr (Fr.putObj W l o) (fun b hb hh => by omega), fun b hb => by have := hm.dom b hb; simpa using this⟩
  have hC := hit E' l J2 Jx2 (fun b => D0 b ∨ b = l) W1 hb1.size (fun b hb => hb1.block b (hdom.c b hb).1) hE'l
    (fun k hk => by rcases hE'B k hk with h | h; have := hb1.size; omega; omega)
    (fun k hk => by rcases hk with h | h; have := hdom.d0 k h; have := hb1.size; omega; omega)
    (fun k hk hh => by obtain ⟨h1, h2⟩ := hdom.c k hk; rcases hh with h | h; exact h2 h; omega)
    ?stabJ ?stabX ?yield ?init
  case stabJ =>
    rw [hJ2]
    rintro k Dx W W' ⟨D, h1, h2, h3, h4⟩ hs hsame
    exact ⟨D, h1, h2, hstab k D W W' h3 hs (fun b hb => hsame b (hb.elim (fun h => .inl (by have := hb1.size; omega)) (fun h => .inr ((h2 b).2 (.inl h))))), (hsame l (.inl hl1)).trans h4⟩
  case stabX =>
    rw [hJx2]
    rintro k Dx W W' ⟨x, c, D, h0, h0', h1, h2, h3, h4⟩ hs hsame
    exact ⟨x, c, D, h0, h0', h1, h2, hstabx x 0 D W W' h3 hs (fun b hb => hsame b (hb.elim (fun h => .inl (by have := hb1.size; omega)) (fun h => .inr ((h2 b).2 (.inl h))))), (hsame l (.inl hl1)).trans h4⟩
  case init =>
    rw [hJ2]
    exact ⟨D0, hD0l, fun b => Iff.rfl, hstab 0 D0 w W1 hJ0 hb1.size (fun b hb => hb1.block b (hb.elim id (hdom.d0 b))), hrec1⟩
  case yield =>
    intro k Dx Wa args hargs hj hmid
    rw [hJ2] at hj
    obtain ⟨D, hnl, hDx, hJ, hreca⟩ := hj
    rw [List.getElem?_map] at hargs
    obtain ⟨x, hx, rfl⟩ := Option.map_eq_some_iff.1 hargs
    have hmid' := toMid hDx hmid
    have hla : l < Wa.heap.size := (Array.getElem?_eq_some_iff.1 hreca).1
    have hwa := hmid'.fr.size
    -- a round's end
    have fin : ∀ {Wm W2 W3 : World} {xx : Exit} {a3 : Act} {e3 : Env}, Fr (fun b => b = l) Wa Wm → Wm.heap.size = Wa.heap.size → W2.heap[l]? = some (.loop { rec .ready none with state := .busy }) → KOE E' Wa W2 → KOE E W2 W3 →
        roundE R.exs (R.J e w xs) (R.Jx e w xs) k D Wm xx e3 W3 →
        roundPost P l (fun en W4 => ∃ b, en = .returned (.bool b) ∧ KOE E' Wa W4 ∧ ∃ D', Step Dx Wa W4 D' ∧ (b = true → J2 (k + 1) D' W4) ∧ (b = false → Jx2 D' W4)) xx a3 W3 := by
      intro Wm W2 W3 xx a3 e3 hfm hsm hrec2 hk2 hk3 hround
      have hrec3 : W3.heap[l]? = some (.loop { rec .ready none with state := .busy }) := hk3.same l _ hlE hrec2 rfl
      have hl3 : l < W3.heap.size := (Array.getElem?_eq_some_iff.1 hrec3).1
      have ke : ∀ (o : Obj), KOE E' Wa (W3.putObj l o) := fun o => (hk2.trans (toE' hk3)).trans (KOE.putObj hE'l)
      have nl : ∀ {D' : Nat → Prop}, Step D Wm W3 D' → ¬ D' l := fun hs hh => by
        rcases (hs.dom l hh).2 with h1 | h1
        · exact hnl h1
        · omega
      have st : ∀ {D' : Nat → Prop} {o : Obj}, Step D Wm W3 D' → Step Dx Wa (W3.putObj l o) (fun b => D' b ∨ b = l) := fun {D' o} hs => by
        refine ⟨Fr.trans (Fr.trans (hfm.mono (T := Dx) (fun b _ hb => (hDx b).2 (.inr hb))) hs.fr (fun b _ hb => (hDx b).2 (.inl hb))) (Fr.putObj W3 l o) (fun b _ hb => (hDx b).2 (.inr hb)), fun b hb => ?_⟩
        rcases hb with hb | hb
        · obtain ⟨h1, h2⟩ := hs.dom b hb
          refine ⟨by simpa using h1, ?_⟩
          rcases h2 with h2 | h2
          · exact .inl ((hDx b).2 (.inl h2))
          · right; omega
        · subst hb; exact ⟨by simpa using hl3, .inl ((hDx b).2 (.inr rfl))⟩
      have hend : ∀ jump : Option Code, (Instr.endRound l jump).run P W3 = .ok (.bool jump.isNone) (W3.putObj l (.loop (rec (if jump.isNone then .ready else .done) jump))) := fun jump => by
        have := run_endRound (P := P) jump hrec3
        rw [hrec] at this ⊢
        exact this
      have leave : ∀ {y : Exit} {c : Code}, jumpOf y = some c → y ∈ R.exs → (∃ D', Own (Step D Wm W3 D') ∧ Own (R.Jx e w xs y D' W3)) →
          ∃ v w', (Instr.endRound l (some c)).run P W3 = .ok v w' ∧ ∃ b, Ending.returned v = .returned (.bool b) ∧ KOE E' Wa w' ∧ ∃ D', Step Dx Wa w' D' ∧ (b = true → J2 (k + 1) D' w') ∧ (b = false → Jx2 D' w') := by
        rintro y c hj hm ⟨D', hs, hjx⟩
        refine ⟨_, _, hend (some c), false, rfl, ke _, _, st hs, (fun h => by cases h), fun _ => ?_⟩
        rw [hJx2]
        exact ⟨y, c, D', hj, hm, nl hs, fun b => Iff.rfl, keepX (nl hs) hjx, World.putObj_heap_same hl3⟩
      cases xx with
      | normal =>
        obtain ⟨D', hs, hjn⟩ := hround
        refine ⟨_, _, hend none, true, rfl, ke _, _, st hs, (fun _ => ?_), fun h => by cases h⟩
        rw [hJ2]
        exact ⟨D', nl hs, fun b => Iff.rfl, keepJ (nl hs) hjn, World.putObj_heap_same hl3⟩
      | ret =>
        simp only [roundE] at hround
        split at hround
        · rename_i hm; exact leave rfl (exMem_spec hm) hround
        · exact hround.elim
      | exit id =>
        simp only [roundE] at hround
        split at hround
        · rename_i hm; exact leave rfl (exMem_spec hm) hround
        · exact hround.elim
      | goto t =>
        simp only [roundE] at hround
        split at hround
        · rename_i hm; exact leave rfl (exMem_spec hm) hround
        · exact hround.elim
      | panic ch => exact hround.elim
      | outgrown => exact hround.elim
    -- the round is called
    have call : ∀ {tm : Array Value}, (ps.zip (R.enc x).toArray).foldl (fun t (p : Tmp × Value) => t.setIfInBounds p.1 p.2) a.tmps = tm → (R.enc x).length = ps.toList.length →
        asg.wpIn (WF (some l)) 0 P (Exit.then (fun a₁ w₁ => ∃ w₂, (Instr.beginRound l).run P w₁ = .ok () w₂ ∧ b.wpIn (WF (some l)) 0 P (roundPost P l (fun en W4 => ∃ b, en = .returned (.bool b) ∧ KOE E' Wa W4 ∧ ∃ D', Step Dx Wa W4 D' ∧ (b = true → J2 (k + 1) D' W4) ∧ (b = false → Jx2 D' W4))) a₁ w₂) (fun _ _ _ => False)) { tmps := tm, defers := [] } Wa →
        YieldAt (WF none) 0 P l (R.enc x).toArray Wa fun en W4 => ∃ b, en = .returned (.bool b) ∧ KOE E' Wa W4 ∧ ∃ D', Step Dx Wa W4 D' ∧ (b = true → J2 (k + 1) D' W4) ∧ (b = false → Jx2 D' W4) := by
      intro tm htm hlen hw
      have hy := run_yield (P := P) (args := (R.enc x).toArray) hreca (by rw [hrec]; simpa using hlen)
      refine ⟨fn, tm, asg, b, ?_, roundIn_of_wpIn (F := WF none) trivial hw⟩
      rw [hy, hrec, ← htm]
    have hzip : ∀ tm0 : Array Value, (ps.zip (R.enc x).toArray).foldl (fun t (p : Tmp × Value) => t.setIfInBounds p.1 p.2) tm0 = (ps.toList.zip (R.enc x)).foldl (fun t (p : Tmp × Value) => t.setIfInBounds p.1 p.2) tm0 := fun tm0 => by
      rw [← Array.foldl_toList, Array.toList_zip]
    have hps : ∀ d, d ∈ ps.toList → d < a.tmps.size := fun d h => hd d (by simp only [slotsC, List.mem_append]; exact .inl h)
    have hsa : ∀ d, d ∈ slotsC asg → d < a.tmps.size := fun d h => hd d (by simp only [slotsC, List.mem_append]; exact .inr (.inl h))
    have hsb : ∀ d, d ∈ slotsC b → d < a.tmps.size := fun d h => hd d (by simp only [slotsC, List.mem_append]; exact .inr (.inr h))
    cases hp : pureC asg with
    | true =>
      have hJb := keepJ (o := .loop { rec .ready none with state := .busy }) hnl hJ
      have hv := hbody k x D _ hx hJb (midPut hmid')
      obtain ⟨hlen, e1, hv, hr1, hsz⟩ := zip_rep hr hps hv
      rw [hp] at hv
      have hok : (purC P asg e1).2 = true := by
        cases hb : (purC P asg e1).2 with
        | true => rfl
        | false => rw [hb] at hv; exact hv.elim
      rw [hok] at hv
      obtain ⟨a2, h0, h1, h2⟩ := purC_sound (r := some l) asg e1 _ hr1 (fun d h => by show d < Array.size _; rw [hsz]; exact hsa d (dsts_slots h)) hp hok
      obtain ⟨e2, h3, h4⟩ := copyK_spec hv
      have hr2 := copy_rep hr1 h0 h1 h4
      refine call (hzip _) hlen (h2 _ Wa ⟨_, run_beginRound hreca (by rw [hrec]), ?_⟩)
      have hrb : (Wa.putObj l (.loop { rec .ready none with state := .busy })).heap[l]? = some (.loop { rec .ready none with state := .busy }) := World.putObj_heap_same hla
      have hst2 : St B (some l) (Wa.putObj l (.loop { rec .ready none with state := .busy })) a2.defers := by
        refine ⟨by simp; omega, fun l' hl' => by cases hl'; exact ⟨by omega, _, hrb⟩, ?_⟩
        rw [h1.defers]; trivial
      refine wpIn_mono (ihb (some l) _ e2 a2 _ hst2 hr2 (fun d h => by rw [h1.size]; show d < Array.size _; rw [hsz]; exact hsb d h) h3) ?_
      rintro xx a3 W3 ⟨⟨e3, _, hq⟩, _, hk3, _, _⟩
      exact fin (Fr.putObj _ _ _) (by simp) hrb (KOE.putObj hE'l) hk3 hq
    | false =>
      have hv := hbody k x D _ hx hJ hmid'
      obtain ⟨hlen, e1, hv, hr1, hsz⟩ := zip_rep hr hps hv
      rw [hp] at hv
      have hst1 : St B (some l) Wa [] := ⟨by omega, fun l' hl' => by cases hl'; exact ⟨by omega, _, hreca⟩, trivial⟩
      refine call (hzip _) hlen (wpIn_mono (iha (some l) _ e1 _ Wa hst1 hr1 (fun d h => by show d < Array.size _; rw [hsz]; exact hsa d h) hv) ?_)
      rintro x1 a2 Wc ⟨⟨e2, hr2, hq⟩, hag, hkc, hmc, _⟩
      cases x1 with
      | normal =>
        have hrc : Wc.heap[l]? = some (.loop (rec .ready none)) := hkc.same l _ hlE hreca rfl
        have hlc : l < Wc.heap.size := (Array.getElem?_eq_some_iff.1 hrc).1
        refine ⟨_, run_beginRound hrc (by rw [hrec]), ?_⟩
        have hrb : (Wc.putObj l (.loop { rec .ready none with state := .busy })).heap[l]? = some (.loop { rec .ready none with state := .busy }) := World.putObj_heap_same hlc
        have hkcb : KOE E' Wa (Wc.putObj l (.loop { rec .ready none with state := .busy })) := (toE' hkc).trans (KOE.putObj hE'l)
        have hst2 : St B (some l) (Wc.putObj l (.loop { rec .ready none with state := .busy })) a2.defers := by
          refine ⟨by have := hkc.size; simp; omega, fun l' hl' => by cases hl'; exact ⟨by omega, _, hrb⟩, ?_⟩
          have hput : ∀ {ms : List Deferred}, MkOk B Wc ms → MkOk B (Wc.putObj l (.loop { rec .ready none with state := .busy })) ms := by
            intro ms
            induction ms with
            | nil => exact fun _ => trivial
            | cons m ms ih =>
              rintro ⟨⟨d, g1, g2, g3, g4⟩, g⟩
              refine ⟨⟨d, g1, g2, ?_, g4⟩, ih g⟩
              rw [World.putObj_heap_other (fun e => by subst e; rw [hrc] at g3; cases g3)]; exact g3
          exact hput hmc
        refine wpIn_mono (ihb (some l) _ e2 a2 _ hst2 hr2 (fun d h => by rw [hag.size]; show d < Array.size _; rw [hsz]; exact hsb d h) (hq _ (turn_put hl hrc rfl))) ?_
        rintro xx a3 W3 ⟨⟨e3, _, hq⟩, _, hk3, _, _⟩
        exact fin (Fr.refl _ _) rfl hrb hkcb hk3 hq
      | _ => exact hq.elim
  -- behind the iterator
  refine CallsIn.mono (calls_in hC) ?_
  rintro en W2 ⟨⟨v, rfl⟩, hko2, D2, hmid2, hfin⟩
  have hk01 : KOE E' w W1 := (KO.below hb1 (Nat.le_refl _)).to
  have post : ∀ {o : Obj} {x : Exit}, Q x e (W2.putObj l o) → PostE B E Q (.rangeFunc f ps asg b) a w x { a with defers := mark ++ a.defers } (W2.putObj l o) := by
    intro o x hq
    have hk12 : KOE E' W1 (W2.putObj l o) := hko2.trans (KOE.putObj hE'l)
    refine ⟨⟨e, ?_, hq⟩, ⟨rfl, fun _ _ => rfl⟩, ?_, hmk _ E' hE'B hk12 hk01, (fun h => by cases h)⟩
    · funext y
      rw [show Act.eval { a with defers := mark ++ a.defers } y = a.eval y from by cases y <;> rfl]
      exact congrFun hr y
    · have hk := hk01.trans hk12
      refine ⟨hk.size, fun k o' hn hk' ho' => hk.same k o' (fun he => ?_) hk' ho'⟩
      rw [hE'] at he
      rcases he with he | he
      · exact hn he
      · have := (Array.getElem?_eq_some_iff.1 hk').1; omega
  rcases hfin with hfin | hfin
  · rw [hJ2, List.length_map] at hfin
    obtain ⟨D, hnl, hDx, hJ, hrec2⟩ := hfin
    refine ⟨none, W2.putObj l (.loop { rec .ready none with state := .exhausted }), ?_, post (hdone D _ (keepJ hnl hJ) (midPut (toMid hDx hmid2)))⟩
    have := run_endLoop (P := P) hrec2 (by rw [hrec]; simp)
    rw [hrec] at this ⊢
    exact this
  · rw [hJx2] at hfin
    obtain ⟨x, c, D, hjc, hm, hnl, hDx, hJ, hrec2⟩ := hfin
    have hq := allX_spec hstop x hm D _ (keepX (o := .loop { rec .done (some c) with state := .exhausted }) hnl hJ) (midPut (toMid hDx hmid2))
    refine ⟨some c, W2.putObj l (.loop { rec .done (some c) with state := .exhausted }), ?_, ?_⟩
    · have := run_endLoop (P := P) hrec2 (by rw [hrec]; simp)
      rw [hrec] at this ⊢
      exact this
    · cases x with
      | ret => cases hjc; exact wpIn_ret (post hq)
      | exit id => cases hjc; exact wpIn_exit (post hq)
      | goto t => cases hjc; exact wpIn_goto (post hq)
      | _ => cases hjc

theorem PostE.weaken {B : Nat} {E : Nat → Prop} {Q Q' : Exit → Env → World → Prop} {c c' : Code} {a : Act} {w : World} {x : Exit} {a' : Act} {w' : World} (h : PostE B E Q c a w x a' w') (hc : ∀ d, d ∈ dstsC c → d ∈ dstsC c') (hn : noR c' = true → noR c = true) (hq : ∀ e, Q x e w' → Q' x e w') : PostE B E Q' c' a w x a' w' := by
  obtain ⟨⟨e', h1, h2⟩, h3, h4, h5, h6⟩ := h
  exact ⟨⟨e', h1, hq e' h2⟩, h3.mono hc, h4, h5, fun h => h6 (hn h)⟩

theorem postE_here {B : Nat} {E : Nat → Prop} {Q : Exit → Env → World → Prop} {c : Code} {r : Option Nat} {e : Env} {a : Act} {w : World} {x : Exit} (hst : St B r w a.defers) (hr : Rep e a) (h : Q x e w) : PostE B E Q c a w x a w :=
  ⟨⟨e, hr, h⟩, Agr.refl _ _, KOE.refl _ _, hst.marks, fun _ => rfl⟩

theorem wpIn_scope_straight {r : Option Nat} {P : Program} {c : Code} {Q : Exit → Act → World → Prop} {a : Act} {w : World} (h : c.wpIn (WF r) 0 P (Exit.noGoto Q) a w) : (Code.scope c).wpIn (WF r) 0 P Q a w := by
  intro b k cs hro hb hr
  have h0 : (lone (b.atR a (.code (.scope c) :: k)) cs w).fenced P (WF r) := fenced_calm hb hr rfl
  have s0 : step P (lone (b.atR a (.code (.scope c) :: k)) cs w) = .next (lone (b.atR a (.code c :: .inScope c :: k)) cs w) := step_lone_go (by simp [stepG, stepG.exec, Frame.atR])
  obtain ⟨e, a₁, w₁, hq, harr⟩ := h b (.inScope c :: k) cs hro hb hr
  cases e with
  | normal =>
    have s1 : step P (lone (b.atR a₁ (.inScope c :: k)) cs w₁) = .next (lone (b.atR a₁ k) cs w₁) := step_lone_go (by simp [stepG, stepG.exec, Frame.atR])
    exact ⟨.normal, a₁, w₁, hq, .head h0 s0 (StepsIn.trans harr (.one (fenced_calm hb hr rfl) s1))⟩
  | exit id =>
    have hx : exitTo id (.inScope c :: k) = exitTo id k := by simp [exitTo]
    exact ⟨_, a₁, w₁, hq, fun k' hk => .head h0 s0 (harr.1 k' (by rw [hx]; exact hk)), fun hr' hk => let ⟨k₁, h1, h2⟩ := harr.2 hr' (by rw [hx]; exact hk); ⟨k₁, h1, .head h0 s0 h2⟩⟩
  | goto l => exact hq.elim
  | ret => exact ⟨_, a₁, w₁, hq, .of_steps (.one h0 s0) harr⟩
  | panic ch => exact ⟨_, a₁, w₁, hq, .of_steps (.one h0 s0) harr⟩
  | outgrown => exact ⟨_, a₁, w₁, hq, .of_steps (.one h0 s0) harr⟩

theorem wpIn_loop_ghost {F : Fence} {n : Nat} {P : Program} {c : Code} {Q : Exit → Act → World → Prop} {a : Act} {w : World} (I : Nat → Act → World → Prop) (n₀ : Nat) (h₀ : I n₀ a w)
    (round : ∀ m a w, I m a w → c.wpIn F n P (Exit.then (fun a' w' => ∃ m', m' < m ∧ I m' a' w') Q) a w) : (Code.loop c).wpIn F n P Q a w := by
  intro b k cs hro hb hr
  have key : ∀ j a w, I j a w → ∃ e a' w', Q e a' w' ∧ ArrivesIn (Machine.fenced P F) P (lone (b.atR a (.code c :: .inLoop c :: k)) cs w) b k cs e a' w' := by
    intro j
    induction j using Nat.strongRecOn with
    | _ j ih =>
      intro a w hI
      obtain ⟨e, a₁, w₁, hq, harr⟩ := round j a w hI b (.inLoop c :: k) cs hro hb hr
      cases e with
      | normal =>
        obtain ⟨m', hlt, hI₁⟩ := hq
        obtain ⟨e₂, a₂, w₂, hq₂, harr₂⟩ := ih m' hlt a₁ w₁ hI₁
        exact ⟨e₂, a₂, w₂, hq₂, .of_steps (StepsIn.trans harr (.one (fenced_calm hb hr rfl) stepR_inLoop)) harr₂⟩
      | exit id => exact ⟨_, a₁, w₁, hq, .pass (x := .inLoop c) rfl (fun _ _ => .inl (by simp)) harr⟩
      | goto l => exact ⟨_, a₁, w₁, hq, .pass (x := .inLoop c) rfl (fun _ _ => .inl (by simp)) harr⟩
      | ret => exact ⟨_, a₁, w₁, hq, .pass (x := .inLoop c) rfl (fun _ _ => .inl (by simp)) harr⟩
      | panic ch => exact ⟨_, a₁, w₁, hq, .pass (x := .inLoop c) rfl (fun _ _ => .inl (by simp)) harr⟩
      | outgrown => exact ⟨_, a₁, w₁, hq, .pass (x := .inLoop c) rfl (fun _ _ => .inl (by simp)) harr⟩
  obtain ⟨e, a', w', hq, harr⟩ := key _ a w h₀
  exact ⟨e, a', w', hq, .of_steps (.one (fenced_calm hb hr rfl) stepR_loop) harr⟩

theorem frame_is' {ds : List Tmp} {e : Env} {a a' : Act} {l : List (Nat × Value)} {K : Env → Prop} (hr : Rep e a) (hag : Agr ds a a') (hl : ∀ p ∈ l, a'.eval (.tmp p.1) = p.2)
    (h : havocK (fun i => a'.eval (.tmp i)) ds e fun e1 => setK l e1 K) : ∃ e', Rep e' a' ∧ K e' := by
  have hr2 : Rep e { a with defers := a'.defers } := by
    funext y
    rw [show Act.eval { a with defers := a'.defers } y = a.eval y from by cases y <;> rfl]
    exact congrFun hr y
  exact frame_is hr2 (a' := a') ⟨hag.size, rfl, hag.slot⟩ hl h

theorem wpE_sound {P : Program} {A : Ann} (hsp : ∀ f s, specAt A.sp f = some s → s.Ok P f) {B : Nat} {E : Nat → Prop} (hE : ∀ k, E k → k < B) (hY : ∀ y, A.yl = some y → YieldOk P E y) : ∀ c : Code, Sound P A B E c := by
  intro c
  induction c with
  | skip => intro r Q e a w hst hr hd h; exact wpIn_skip (postE_here hst hr h)
  | label l => intro r Q e a w hst hr hd h; exact wpIn_label (postE_here hst hr h)
  | region id ops draw =>
    intro r Q e a w hst hr hd h
    have fin : ∀ {e' : Env} {a' : Act} {w' : World}, Rep e' a' → Agree (dstsL ops.toList) a a' → KOE E w w' → Q .normal e' w' → PostE B E Q (.region id ops draw) a w .normal a' w' := fun hr' hag hko hq =>
      ⟨⟨_, hr', hq⟩, hag.agr, hko, by rw [hag.defers]; exact hst.marks.keep hE hko, fun _ => hag.defers⟩
    have out : ∀ (x : Exit) (a' : Act) (w' : World), QN (fun a' w' => PostE B E Q (.region id ops draw) a w .normal a' w') x a' w' → PostE B E Q (.region id ops draw) a w x a' w' := by
      intro x a' w' h
      cases x with
      | normal => exact h
      | _ => exact h.elim
    simp only [wpE, regionE] at h
    cases draw with
    | false =>
      simp only at h
      split at h
      · have hok : (purE P ops.toList ops.toList [] e).2 = true := by
          cases hb : (purE P ops.toList ops.toList [] e).2 with
          | true => rfl
          | false => rw [hb] at h; exact h.elim
        rw [hok] at h
        obtain ⟨a', h0, h1, h2⟩ := purE_sound (r := r) (ops := ops) ops.toList [] e a (by intro d c h; simp [kvAt] at h) hr hd hok
        obtain ⟨e', h3, h4⟩ := copyK_spec h
        obtain ⟨e'', hr'', hq⟩ := forceLast_rep (copy_rep hr h0 h1 h4) h0 h3
        exact wpIn_region_list (h2 _ w (fin hr'' h1 (KOE.refl _ _) hq))
      · exact wpIn_mono (wpIn_region_list (seqE_sound hsp hY _ _ _ _ hr hd (fun e' a' w' hr' hag hko hk => fin hr' hag hko hk) h)) out
    | true =>
      simp only at h
      split at h
      case h_2 => exact h.elim
      rename_i hc
      simp only [Bool.and_eq_true] at hc
      exact wpIn_mono (mix_region hsp hY hc.1 hc.2 hr hd (fun e' a' w' hr' hag hko hk => fin hr' hag hko hk) h) out
  | seq x y ihx ihy =>
    intro r Q e a w hst hr hd h
    have hdx : ∀ d, d ∈ slotsC x → d < a.tmps.size := fun d h => hd d (by simp [slotsC, h])
    have hdy : ∀ {a' : Act}, Agr (dstsC x) a a' → ∀ d, d ∈ slotsC y → d < a'.tmps.size := fun hag d h => by rw [hag.size]; exact hd d (by simp [slotsC, h])
    have nx : noR (.seq x y) = true → noR x = true ∧ noR y = true := fun h => by simpa [noR] using h
    have both : ∀ {x1 : Exit} {a' a'' : Act} {w' w'' : World}, Agr (dstsC x) a a' → KOE E w w' → (noR x = true → a'.defers = a.defers) → PostE B E Q y a' w' x1 a'' w'' → PostE B E Q (.seq x y) a w x1 a'' w'' := by
      rintro x1 a' a'' w' w'' hag hko hdf ⟨h1, h2, h3, h4, h5⟩
      exact ⟨h1, hag.trans h2, hko.trans h3, h4, fun h => (h5 (nx h).2).trans (hdf (nx h).1)⟩
    simp only [wpE] at h
    split at h
    · rename_i C hC
      obtain ⟨h1, h2⟩ := h
      refine wpIn_seq (wpIn_mono (ihx r _ e a w hst hr hdx h1) ?_)
      rintro x' a' w' hp
      cases x' with
      | normal =>
        obtain ⟨⟨e', hr', hq⟩, hag, hko, hmk, hdf⟩ := hp
        obtain ⟨c, hs⟩ := hq
        obtain ⟨hsl, hinv⟩ := slotsAre_spec hs
        obtain ⟨e2, hr2, h3⟩ := frame_is' hr hag (fun p hp => (congrFun hr' (.tmp p.1)).trans (hsl p hp)) (h2 (fun i => a'.eval (.tmp i)) c w' hinv)
        exact wpIn_mono (ihy r Q e2 a' w' (hst.step hE hko hmk) hr2 (hdy hag) h3) fun x a'' w'' hp2 => both hag hko hdf hp2
      | _ => exact hp.weaken (by simp +contextual [dstsC]) (fun h => (nx h).1) (fun _ h => h)
    · refine wpIn_seq (wpIn_mono (ihx r _ e a w hst hr hdx h) ?_)
      rintro x' a' w' hp
      cases x' with
      | normal =>
        obtain ⟨⟨e', hr', hq⟩, hag, hko, hmk, hdf⟩ := hp
        exact wpIn_mono (ihy r Q e' a' w' (hst.step hE hko hmk) hr' (hdy hag) hq) fun x a'' w'' hp2 => both hag hko hdf hp2
      | _ => exact hp.weaken (by simp +contextual [dstsC]) (fun h => (nx h).1) (fun _ h => h)
  | cond c x y ihx ihy =>
    intro r Q e a w hst hr hd h
    have hdd : ∀ d, d ∈ dstsC (.cond c x y) → d < a.tmps.size := fun d h => hd d (dsts_slots h)
    simp only [wpE] at h
    split at h
    · rename_i d hj
      have hp : pureC (.cond c x y) = true := by
        unfold joins at hj
        split at hj
        · split at hj
          · rename_i hy _
            simp [pureC, hy]
          · cases hj
        · cases hj
      have hok : (purC P (.cond c x y) e).2 = true := by
        cases hb : (purC P (.cond c x y) e).2 with
        | true => rfl
        | false => rw [hb] at h; exact h.elim
      rw [hok] at h
      obtain ⟨a', h0, h1, h2⟩ := purC_sound (r := r) (.cond c x y) e a hr hdd hp hok
      obtain ⟨e', h3, h4⟩ := copyK_spec h
      obtain ⟨e'', hr'', hq⟩ := forceLast_rep (copy_rep hr h0 h1 h4) h0 h3
      exact h2 _ w ⟨⟨e'', hr'', hq⟩, h1.agr, KOE.refl _ _, by rw [h1.defers]; exact hst.marks, fun _ => h1.defers⟩
    split at h
    case h_2 => exact h.elim
    rename_i b hb
    refine wpIn_cond (t := b) ((congrFun hr c).trans hb) ?_
    cases b with
    | true => exact wpIn_mono (ihx r Q e a w hst hr (fun d h => hd d (by simp [slotsC, h])) h) fun x a' w' hp => hp.weaken (by simp +contextual [dstsC]) (fun h => by simp [noR] at h; exact h.1) (fun _ h => h)
    | false => exact wpIn_mono (ihy r Q e a w hst hr (fun d h => hd d (by simp [slotsC, h])) h) fun x a' w' hp => hp.weaken (by simp +contextual [dstsC]) (fun h => by simp [noR] at h; exact h.2) (fun _ h => h)
  | block id b ih =>
    intro r Q e a w hst hr hd h
    refine wpIn_block (wpIn_mono (ih r _ e a w hst hr hd h) ?_)
    rintro x a' w' hp
    cases x with
    | exit i =>
      simp only [Exit.inBlock]
      obtain ⟨⟨e', hr', hq⟩, h3⟩ := hp
      rcases @beqN i id with ⟨h1, h2⟩ | ⟨h1, h2⟩
      · rw [if_pos h1]; simp only [h2] at hq; exact ⟨⟨e', hr', hq⟩, h3⟩
      · rw [if_neg h1]; simp only [h2] at hq; exact ⟨⟨e', hr', hq⟩, h3⟩
    | _ => exact hp
  | loop b ih =>
    intro r Q e a w hst hr hd h
    simp only [wpE] at h
    split at h
    case h_2 => exact h.elim
    rename_i L hL
    obtain ⟨⟨x0, h0⟩, hround⟩ := h
    obtain ⟨hs0, hi0⟩ := slotsAre_spec h0
    refine wpIn_loop_ghost (fun n a' w' => Agr (dstsC b) a a' ∧ KOE E w w' ∧ MkOk B w' a'.defers ∧ (noR b = true → a'.defers = a.defers) ∧ ∃ x, (∀ p ∈ L.sh e x, a'.eval (.tmp p.1) = p.2) ∧ L.inv e w x w' ∧ L.mu e w x w' = n) (L.mu e w x0 w)
      ⟨Agr.refl _ _, KOE.refl _ _, hst.marks, fun _ => rfl, x0, fun p hp => (congrFun hr (.tmp p.1)).trans (hs0 p hp), hi0, rfl⟩ ?_
    rintro n a' w' ⟨hag, hko, hmk, hdf, x, hsl, hinv, rfl⟩
    obtain ⟨e2, hr2, h3⟩ := frame_is' hr hag hsl (hround (fun i => a'.eval (.tmp i)) x w' hinv)
    refine wpIn_mono (ih r _ e2 a' w' (hst.step hE hko hmk) hr2 (fun d h => by rw [hag.size]; exact hd d h) h3) ?_
    rintro x' a'' w'' ⟨⟨e', hr', hq⟩, hag2, hko2, hmk2, hdf2⟩
    cases x' with
    | normal =>
      obtain ⟨y, hy⟩ := hq
      obtain ⟨hs1, hi1, hm1⟩ := slotsAre_spec hy
      exact ⟨_, hm1, (hag.trans hag2).mono (by simp), hko.trans hko2, hmk2, (fun h => (hdf2 h).trans (hdf h)), y, fun p hp => (congrFun hr' (.tmp p.1)).trans (hs1 p hp), hi1, rfl⟩
    | _ => exact ⟨⟨e', hr', hq⟩, (hag.trans hag2).mono (by simp [dstsC]), hko.trans hko2, hmk2, fun h => (hdf2 h).trans (hdf h)⟩
  | scope b ih =>
    intro r Q e a w hst hr hd h
    refine wpIn_scope_straight (wpIn_mono (ih r _ e a w hst hr hd h) ?_)
    rintro x a' w' hp
    cases x with
    | goto l => obtain ⟨⟨e', hr', hq⟩, _⟩ := hp; exact hq.elim
    | _ => exact hp
  | exit id => intro r Q e a w hst hr hd h; exact wpIn_exit (postE_here hst hr h)
  | ret => intro r Q e a w hst hr hd h; exact wpIn_ret (postE_here hst hr h)
  | goto l => intro r Q e a w hst hr hd h; exact h.elim
  | rangeFunc f ps asg b iha ihb => exact range_sound hE iha ihb
  | refuse why => intro r Q e a w hst hr hd h; exact h.elim

/-! ### Functions -/

def resE (P : Program) (e : Env) (w : World) : List ResultVar → (List Value → Prop) → Prop
  | [], K => K []
  | .tmp t :: r, K => forceV (aget e t) fun v => resE P e w r fun vs => K (v :: vs)
  | .cell s ty :: r, K => match aget e s with
    | .pointer p => ptrE p fun b o => loadE P ty (.pointer (some ⟨b, o, none⟩)) w fun v => resE P e w r fun vs => K (v :: vs)
    | _ => False

def valOf : List Value → Value
  | [v] => v
  | vs => .tuple vs.toArray

/-- What is asked at the function's end; 'sh': it holds ranges over functions, whose blocks for deferred calls are shut. -/
def retE (P : Program) (sh : Bool) (n : Nat) (rs : List ResultVar) (R : Value → World → Prop) : Exit → Env → World → Prop := fun x e w => match x with
  | .normal => resE P e w rs fun vs => (match sh with | false => Own (R (valOf vs) w) | true => ∀ w2, Own (Turn n w w2) → Own (R (valOf vs) w2))
  | .ret => resE P e w rs fun vs => (match sh with | false => Own (R (valOf vs) w) | true => ∀ w2, Own (Turn n w w2) → Own (R (valOf vs) w2))
  | _ => False

def resM (a : Act) : ResultVar → Sem Value
  | .tmp t => pure (a.tmps.getD t undef)
  | .cell s t => do loadVar t (← asAddr (a.tmps.getD s undef))

theorem resE_spec {P : Program} {e : Env} {a : Act} (hr : Rep e a) {w : World} : ∀ (rs : List ResultVar) {K : List Value → Prop}, resE P e w rs K → ∃ vs, (∀ w2, Sees w w2 → (rs.mapM (resM a)).run P w2 = .ok vs w2) ∧ K vs
  | [], K, h => ⟨[], fun _ _ => rfl, h⟩
  | .tmp t :: r, K, h => by
    simp only [resE, forceV_eq] at h
    obtain ⟨vs, h1, h2⟩ := resE_spec hr r h
    refine ⟨_, fun w2 hw2 => ?_, h2⟩
    have ht : a.tmps.getD t undef = aget e t := congrFun hr (.tmp t)
    simp [List.mapM_cons, resM, h1 w2 hw2, ht]
  | .cell s t :: r, K, h => by
    simp only [resE] at h
    split at h
    case h_2 => exact h.elim
    rename_i p hp
    obtain ⟨b, o, rfl, h'⟩ := ptrE_spec h
    obtain ⟨v, h1, h2⟩ := loadE_spec h'
    obtain ⟨vs, h3, h4⟩ := resE_spec hr r h2
    refine ⟨_, fun w2 hw2 => ?_, h4⟩
    have h5 := h1 w2 (hw2.b _)
    have h3 := h3 w2 hw2
    simp only [Instr.loadAt, Instr.sureAddr, Sem.run_bind, Sem.run_pure, Result.andThen] at h5
    have ht : a.tmps.getD s undef = .pointer (some ⟨b, o, none⟩) := (congrFun hr (.tmp s)).trans hp
    simp [List.mapM_cons, resM, ht, asAddr, h3, h5]

def argsK : List Value → Nat → Env → (Env → Prop) → Prop
  | [], _, e, K => K e
  | v :: vs, i, e, K => argsK vs (i + 1) ((i, v) :: e) K

theorem argsK_spec {K : Env → Prop} {vs : List Value} {i : Nat} {e : Env} (h : argsK vs i e K) : ∃ e', K e' ∧ ∀ t, aget e' t = if t < i then aget e t else if t < i + vs.length then vs.getD (t - i) undef else aget e t := by
  induction vs generalizing i e with
  | nil =>
    refine ⟨e, h, fun t => ?_⟩
    split
    · rfl
    · rename_i h1
      rw [if_neg (by simp; omega)]
  | cons v vs ih =>
    obtain ⟨e', h1, h2⟩ := ih h
    refine ⟨e', h1, fun t => ?_⟩
    have h2 := h2 t
    simp only [List.length_cons]
    by_cases h3 : t < i
    · rw [if_pos h3]
      rw [if_pos (show t < i + 1 by omega)] at h2
      rw [h2]
      exact aget_put_other (e := e) (d := i) (i := t) (Nat.ne_of_lt h3)
    · rw [if_neg h3]
      by_cases h4 : t = i
      · rw [if_pos (show t < i + 1 by omega)] at h2
        rw [h2, if_pos (by omega)]
        subst h4
        rw [show aget ((t, v) :: e) t = v from aget_put_same (e := e)]
        simp
      · rw [if_neg (show ¬ t < i + 1 by omega)] at h2
        rw [h2]
        by_cases h5 : t < i + 1 + vs.length
        · rw [if_pos h5, if_pos (by omega)]
          rw [show t - i = (t - (i + 1)) + 1 from by omega]
          simp
        · rw [if_neg h5, if_neg (by omega)]
          exact aget_put_other (e := e) (d := i) (i := t) h4

/-- Every slot that the code writes is one of the frame's. -/
def ltAll (n : Nat) : List Tmp → Bool
  | [] => true
  | d :: r => match Nat.blt d n with | true => ltAll n r | false => false
theorem ltAll_spec {n : Nat} : ∀ {l : List Tmp}, ltAll n l = true → ∀ d, d ∈ l → d < n
  | [], _, d, h => by simp at h
  | x :: r, h, d, hd => by
    simp only [ltAll] at h
    split at h
    · rename_i hx
      rcases List.mem_cons.1 hd with h1 | h1
      · rw [h1]; simpa using hx
      · exact ltAll_spec h d h1
    · cases h

def lenL : List Value → Nat
  | [] => 0
  | _ :: r => lenL r + 1
theorem lenL_eq : ∀ l, lenL l = l.length
  | [] => rfl
  | _ :: r => by simp [lenL, lenL_eq r]

theorem leaves_marks {P : Program} {fn : Func} {tmps : Array Value} {R : Ending → World → Prop} {B : Nat} : ∀ {ds : List Deferred} {w : World}, MkOk B w ds → (∀ w2, Turn B w w2 → ∃ v, (results fn tmps).run P w2 = .ok v w2 ∧ R (.returned v) w2) →
    LeavesInM (WF none) 0 P fn tmps R ds .returning w
  | [], w, _, h => h w ⟨Below.refl _ _, rfl, fun _ _ h _ => h⟩
  | m :: ms, w, ⟨⟨d, h1, h2, h3, h4⟩, hms⟩, h => by
    subst h1
    refine ⟨by simp, .inl ⟨d, _, rfl, run_takeDeferred h3, leaves_marks (B := B) ?_ (fun w2 ht => h w2 ?_)⟩⟩
    · have put : ∀ {ms' : List Deferred}, (∀ m' ∈ ms', ∀ d', m'.target = .collected d' → d' < d) → MkOk B w ms' → MkOk B (w.putObj d (.deferred none)) ms' := by
        intro ms'
        induction ms' with
        | nil => exact fun _ _ => trivial
        | cons m ms ih =>
          rintro hlt ⟨⟨d', g1, g2, g3, g4⟩, g⟩
          have : d' < d := hlt m (by simp) d' (by rw [g1])
          exact ⟨⟨d', g1, g2, by rw [World.putObj_heap_other (by omega)]; exact g3, g4⟩, ih (fun m' hm => hlt m' (by simp [hm])) g⟩
      exact put h4 hms
    · have ht1 : Turn B w (w.putObj d (.deferred none)) := turn_put h2 h3 rfl
      exact ⟨ht1.ext.trans ht.ext, ht.size.trans ht1.size, fun k o hk ho => ht.cells k o (ht1.cells k o hk ho) ho⟩

theorem Turn.sees {n : Nat} {w w2 : World} (h : Turn n w w2) : Sees w w2 := by
  intro p v hv
  unfold World.cell? at hv ⊢
  cases ho : w.heap[p.block]? with
  | none => simp [ho] at hv
  | some o =>
    cases o with
    | cells c t fr => rw [h.cells _ _ ho rfl]; simpa [ho] using hv
    | _ => simp [ho] at hv

theorem calls_of_E {P : Program} {A : Ann} {f : FuncId} {fn : Func} {c : Code} {args : List Value} {w : World} {R : Value → World → Prop} (hsp : ∀ f s, specAt A.sp f = some s → s.Ok P f) {E : Nat → Prop} (hE : ∀ k, E k → k < w.heap.size) (hY : ∀ y, A.yl = some y → YieldOk P E y)
    (hf : P.funcs[f]? = some fn) (hb : fn.body = some c) (hl : Nat.ble (lenL args) fn.ntmps = true) (hd : ltAll fn.ntmps (slotsC c) = true)
    (h : argsK args 0 [] fun e => wpE P A c (retE P (!(noR c)) w.heap.size fn.results.toList R) e w) :
    Calls P f args.toArray w fun e w' => ∃ v, e = .returned v ∧ R v w' ∧ KOE E w w' := by
  have hl' : args.length ≤ fn.ntmps := by rw [← lenL_eq]; simpa using hl
  obtain ⟨e, h1, h2⟩ := argsK_spec h
  have hsz : (args.toArray ++ Array.replicate (fn.ntmps - args.toArray.size) undef).size = fn.ntmps := by simp; omega
  have hr : Rep e { tmps := args.toArray ++ Array.replicate (fn.ntmps - args.toArray.size) undef, defers := [] } := by
    funext x
    cases x with
    | tmp t =>
      show (args.toArray ++ Array.replicate (fn.ntmps - args.toArray.size) undef).getD t undef = aget e t
      rw [h2 t, if_neg (by omega), Array.getD_eq_getD_getElem?, Array.getElem?_append]
      by_cases ht : t < args.length
      · rw [if_pos (by simpa using ht), if_pos (by simpa using ht)]
        simp [List.getD]
      · rw [if_neg (by simpa using ht), if_neg (by simpa using ht), Array.getElem?_replicate]
        split <;> rfl
    | _ => rfl
  have hst : St w.heap.size none w [] := ⟨Nat.le_refl _, (fun l h => by cases h), trivial⟩
  refine (callsIn_wide (n := 0)).1 (callsIn_of_wp_marks (F := WF none) hf hb trivial (wpIn_mono (wpE_sound hsp hE hY c none _ e _ w hst hr (fun d hd' => by show d < Array.size _; rw [hsz]; exact ltAll_spec hd d hd') h1) ?_))
  rintro x a w' ⟨⟨e', hr', hq⟩, hag, hko, hmk, hdf⟩
  have fin : (resE P e' w' fn.results.toList fun vs => (match !(noR c) with | false => Own (R (valOf vs) w') | true => ∀ w2, Own (Turn w.heap.size w' w2) → Own (R (valOf vs) w2))) →
      LeavesInM (WF none) 0 P fn a.tmps (fun en w2 => ∃ v, en = .returned v ∧ R v w2 ∧ KOE E w w2) a.defers .returning w' := by
    intro hres
    obtain ⟨vs, h1, h2⟩ := resE_spec hr' _ hres
    have hrun : ∀ w2, Sees w' w2 → (results fn a.tmps).run P w2 = .ok (valOf vs) w2 := by
      intro w2 hw2
      have hm : fn.results.mapM (resM a) = Functor.map List.toArray (fn.results.toList.mapM (resM a)) := Array.mapM_eq_mapM_toList
      have hr : (fn.results.mapM (resM a)).run P w2 = .ok vs.toArray w2 := by rw [hm]; simp [h1 w2 hw2]
      have hres : results fn a.tmps = (do let vs ← fn.results.mapM (resM a); pure (if h : vs.size = 1 then vs[0] else .tuple vs)) := by
        unfold results
        congr 2
      rw [hres]
      simp only [Sem.run_bind]
      rw [hr]
      simp only [Result.andThen, Sem.run_pure]
      match vs with
      | [] => rfl
      | [v] => rfl
      | v :: u :: r => simp [valOf]
    cases hn : noR c with
    | true =>
      rw [hn] at h2
      rw [hdf hn]
      exact ⟨_, hrun w' (Sees.refl _), _, rfl, h2, hko⟩
    | false =>
      rw [hn] at h2
      refine leaves_marks hmk (fun w2 ht => ⟨_, hrun w2 ht.sees, _, rfl, h2 w2 ht, ?_⟩)
      refine ⟨by rw [ht.size]; exact hko.size, fun k o hk ho hrec => ?_⟩
      have hlt := (Array.getElem?_eq_some_iff.1 ho).1
      rw [ht.ext.block k hlt]
      exact hko.same k o hk ho hrec
  cases x with
  | normal => exact fin hq
  | ret => exact fin hq
  | exit i => exact hq.elim
  | goto l => exact hq.elim
  | panic ch => exact hq.elim
  | outgrown => exact hq.elim

def SpecsOk (P : Program) : List (Nat × CallSpec) → Prop
  | [] => True
  | (f, s) :: r => s.Ok P f ∧ SpecsOk P r

theorem specsOk_at {P : Program} : ∀ {l : List (Nat × CallSpec)}, SpecsOk P l → ∀ f s, specAt l f = some s → s.Ok P f
  | [], _, f, s, h => by simp [specAt] at h
  | (g, t) :: r, hl, f, s, h => by
    simp only [specAt] at h
    rcases @beqN g f with ⟨h1, h2⟩ | ⟨h1, h2⟩
    · simp only [h2, Option.some.injEq] at h; subst h h1; exact hl.1
    · simp only [h2] at h; exact specsOk_at hl.2 f s h

/-- What is asked of a function's code for its specification. -/
def specE (P : Program) (s : CallSpec) (A : s.G → World → Ann) (fn : Func) (c : Code) : Prop :=
  ∀ (g : s.G) (w : World), Own (s.pre g w) → argsK (s.args g).toList 0 [] fun e => wpE P (A g w) c (retE P (!(noR c)) w.heap.size fn.results.toList fun v w' => ∃ x : s.X, v = s.res x ∧ s.post g w x w') e w

/-- What is asked besides, closed. -/
def fitE (s : CallSpec) (fn : Func) (c : Code) (n : Nat) : Prop := (∀ g, lenL (s.args g).toList = n) ∧ (Nat.ble n fn.ntmps && ltAll fn.ntmps (slotsC c)) = true

theorem ok_of_vc {P : Program} {f : FuncId} {fn : Func} {c : Code} (s : CallSpec) (A : s.G → World → Ann) (sp : List (Nat × CallSpec)) (hA : ∀ g w, (A g w).sp = sp) (hA2 : ∀ g w, (A g w).yl = none) (hsp : SpecsOk P sp)
    (hf : P.funcs[f]? = some fn) (hb : fn.body = some c) {n : Nat} (hn : ∀ g, lenL (s.args g).toList = n) (hd : (Nat.ble n fn.ntmps && ltAll fn.ntmps (slotsC c)) = true) (h : specE P s A fn c) : s.Ok P f := by
  intro g w hp
  simp only [Bool.and_eq_true] at hd
  have h1 := calls_of_E (A := A g w) (by rw [hA]; exact specsOk_at hsp) (E := fun _ => False) (fun _ h => h.elim) (by rw [hA2]; intro y h; cases h) hf hb (by rw [hn]; exact hd.1) hd.2 (h g w hp)
  rw [Array.toArray_toList] at h1
  refine h1.mono ?_
  rintro e w' ⟨v, rfl, ⟨x, rfl, hx⟩, hko⟩
  exact ⟨x, rfl, hx, hko⟩

/-! ### Iterators, proved -/

/-- A function literal that is ranged over: what it has captured, what it goes over. -/
structure IterSpec where
  G : Type
  cap : G → List Value
  xs : G → List (List Value)
  C : G → Nat → Prop
  pre : G → World → Prop

/-- The party that the iterator meets. -/
structure ItG where
  E : Nat → Prop
  l : Nat
  J : Nat → (Nat → Prop) → World → Prop
  Jx : (Nat → Prop) → World → Prop
  D0 : Nat → Prop

structure ItPre (xs : List (List Value)) (C : Nat → Prop) (i : ItG) (W : World) : Prop where
  el : i.E i.l
  eb : ∀ b, i.E b → b < W.heap.size
  d0 : ∀ b, i.D0 b → b < W.heap.size
  cd : ∀ b, C b → ¬ i.D0 b
  cl : ∀ b, C b → b < W.heap.size
  stab : Stab W.heap.size i.J
  stabx : Stab W.heap.size (fun _ => i.Jx)
  j0 : i.J 0 i.D0 W

def ItPost (xs : List (List Value)) (i : ItG) (W W' : World) : Prop := ∃ D', Mid W i.D0 D' W' ∧ (i.J xs.length D' W' ∨ i.Jx D' W')

def ylOf (xs : List (List Value)) (i : ItG) (W : World) : YieldAnn where
  l := i.l
  Q := Nat × (Nat → Prop)
  args := fun q => xs.getD q.1 []
  pre := fun q W1 => q.1 < xs.length ∧ i.J q.1 q.2 W1 ∧ Mid W i.D0 q.2 W1
  post := fun q b W1 W2 => ∃ D', Step q.2 W1 W2 D' ∧ (b = true → i.J (q.1 + 1) D' W2) ∧ (b = false → i.Jx D' W2)

def IterSpec.Ok (P : Program) (f : FuncId) (s : IterSpec) : Prop :=
  ∀ g w0, s.pre g w0 → (∀ b, s.C g b → b < w0.heap.size) → (∀ W, w0.heap.size ≤ W.heap.size → (∀ b, s.C g b → W.heap[b]? = w0.heap[b]?) → s.pre g W) → IterAt P (.func (.func f) #[] (s.cap g).toArray) (s.xs g) (s.C g) w0

def iterE (P : Program) (s : IterSpec) (A : s.G → ItG → World → Ann) (fn : Func) (c : Code) : Prop :=
  ∀ (g : s.G) (i : ItG) (W : World), Own (s.pre g W) → Own (ItPre (s.xs g) (s.C g) i W) → argsK (.func (.yield i.l) #[] #[] :: s.cap g) 0 [] fun e => wpE P (A g i W) c (retE P (!(noR c)) W.heap.size fn.results.toList fun _ w' => ItPost (s.xs g) i W w') e W

theorem iter_of_vc {P : Program} {f : FuncId} {fn : Func} {c : Code} (s : IterSpec) (A : s.G → ItG → World → Ann) (sp : List (Nat × CallSpec)) (hA : ∀ g i w, (A g i w).sp = sp) (hA2 : ∀ g i w, (A g i w).yl = some (ylOf (s.xs g) i w)) (hsp : SpecsOk P sp)
    (hent : ∀ args w, (callFunc f args).run P w = .ok (.enter f args) w) (hf : P.funcs[f]? = some fn) (hb : fn.body = some c) {n : Nat} (hn : ∀ g, lenL (s.cap g) = n) (hd : (Nat.ble (n + 1) fn.ntmps && ltAll fn.ntmps (slotsC c)) = true) (h : iterE P s A fn c) : s.Ok P f := by
  intro g w0 hp hcl hkeep
  refine ⟨f, _, rfl, hent, ?_⟩
  intro E l J Jx D0 W hW hC hEl hEb hD0 hCD hst hstx hy h0
  simp only [Bool.and_eq_true] at hd
  have h1 := calls_of_E (A := A g ⟨E, l, J, Jx, D0⟩ W) (by rw [hA]; exact specsOk_at hsp) (E := E) hEb ?_ hf hb (args := .func (.yield l) #[] #[] :: s.cap g) (by simp only [lenL]; rw [hn]; exact hd.1) hd.2
    (h g ⟨E, l, J, Jx, D0⟩ W (hkeep W hW hC) ⟨hEl, hEb, hD0, hCD, fun b hb => Nat.lt_of_lt_of_le (hcl b hb) hW, hst, hstx, h0⟩)
  · have e1 : (Value.func (.yield l) #[] #[] :: s.cap g).toArray = #[.func (.yield l) #[] #[]] ++ (s.cap g).toArray := by simp
    rw [e1] at h1
    refine h1.mono ?_
    rintro e w' ⟨v, rfl, ⟨D', h2, h3⟩, h4⟩
    exact ⟨⟨v, rfl⟩, h4, D', h2, h3⟩
  · rw [hA2]
    rintro y hyy
    cases hyy
    rintro ⟨k, D⟩ w1 ⟨h2, h3, h4⟩
    obtain ⟨fn', tmps, asg, body, h5, h6⟩ := hy k D w1 ((s.xs g).getD k []) (by simp [List.getD_eq_getElem?_getD, List.getElem?_eq_getElem h2]) h3 h4
    refine ⟨fn', tmps, asg, body, h5, RoundIn.mono (F := WF none) h6 ?_⟩
    rintro e w' ⟨b, rfl, h7, D', h8, h9, h10⟩
    exact ⟨b, rfl, ⟨D', h8, h9, h10⟩, h7⟩

theorem vcast {A B : Prop} (h : A = B) (a : A) : B := h ▸ a

end Go.Proofs.YthkcphnkllnfcaaDoor.Vc
