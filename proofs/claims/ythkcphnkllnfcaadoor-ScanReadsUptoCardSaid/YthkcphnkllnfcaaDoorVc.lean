/-
  A small calculus of verification conditions over the model's own 'Code.wp': 'wpE' computes, from a function's code, a plain proposition; 'wpE_sound' says that it suffices.
  It is generic in the program. Loops and joins are annotated ('LoopAnn', 'CutAnn'); callees are met by specifications ('CallSpec').
-/
import Derived.WalkKit
import Derived.Deep.Quiet
import Derived.RangeFuncNested
import Derived.Laws.IdiomStrings
import Derived.Laws.Cover4
import Derived.Test.YthkcphnkllnfcaaDoorDc
set_option linter.unusedVariables false
set_option linter.unusedSimpArgs false
namespace Go.Proofs.YthkcphnkllnfcaaDoor.Vc
open Go Go.RowKit

/-! ### Records of loops -/

/-- The objects that the machine keeps for loops over functions. -/
def isRec : Obj → Bool
  | .loop _ => true
  | .deferred _ => true
  | _ => false

/-- Records lie as they lay, but for those in E. -/
structure KOE (E : Nat → Prop) (w w' : World) : Prop where
  size : w.heap.size ≤ w'.heap.size
  same : ∀ k o, ¬ E k → w.heap[k]? = some o → isRec o = true → w'.heap[k]? = some o
abbrev KO (w w' : World) : Prop := KOE (fun _ => False) w w'

theorem KOE.refl (E : Nat → Prop) (w : World) : KOE E w w := ⟨Nat.le_refl _, fun _ _ _ h _ => h⟩
theorem KOE.trans {E : Nat → Prop} {a b c : World} (h : KOE E a b) (k : KOE E b c) : KOE E a c :=
  ⟨Nat.le_trans h.size k.size, fun i o hE hi ho => k.same i o hE (h.same i o hE hi ho) ho⟩
theorem KOE.mono {E E' : Nat → Prop} {a b : World} (h : KOE E a b) (hE : ∀ k, E k → E' k) : KOE E' a b :=
  ⟨h.size, fun i o hi => h.same i o (fun h => hi (hE i h))⟩
theorem KO.to {E : Nat → Prop} {a b : World} (h : KO a b) : KOE E a b := h.mono (fun _ h => h.elim)
theorem KO.below {B : Nat} {w w' : World} (h : Below B w w') (hB : w.heap.size ≤ B) : KO w w' :=
  ⟨h.size, fun k o _ hk _ => (h.block k (Nat.lt_of_lt_of_le (Array.getElem?_eq_some_iff.1 hk).1 hB)).trans hk⟩
theorem KO.alloc (w : World) (o : Obj) : KO w (w.alloc o) := KO.below ((Below.refl w.heap.size w).alloc (Nat.le_refl _) o) (Nat.le_refl _)
theorem KO.setCell (w : World) (a : Addr) (v : Value) : KO w (w.setCell a v) :=
  ⟨by show w.heap.size ≤ (w.heap.modify _ _).size; rw [Array.size_modify]; exact Nat.le_refl _, fun k o _ hk ho => by
    by_cases e : k = a.block
    · subst e
      obtain ⟨hlt, hk'⟩ := Array.getElem?_eq_some_iff.1 hk
      show (w.heap.modify a.block _)[a.block]? = some o
      rw [Array.getElem?_eq_getElem (by rw [Array.size_modify]; exact hlt), Array.getElem_modify_self, hk']
      cases o <;> first | rfl | (simp [isRec] at ho)
    · exact (Below.heap_setCell w a v k e).trans hk⟩
theorem KO.grown {w w' : World} {row : Option Nat} (hg : w.grownBy w' row) (hrow : ∀ (j : Nat) (o : Obj), row = some j → w.heap[j]? = some o → isRec o = false) : KO w w' :=
  ⟨hg.size, fun k o _ hk ho => by
    refine (hg.block k (Array.getElem?_eq_some_iff.1 hk).1 ?_).trans hk
    intro e
    rw [hrow k o e.symm hk] at ho; cases ho⟩

/-! ### Running without looking at the world -/

def plain {α : Type} (P : Program) : Sem α → Option α
  | .pure a => some a
  | .program k => plain P (k P)
  | .mark _ k => plain P k
  | _ => none

theorem plain_run {α : Type} {P : Program} : ∀ (s : Sem α) {v : α}, plain P s = some v → ∀ w, s.run P w = .ok v w := by
  intro s
  induction s with
  | pure a => intro v h w; simp only [plain, Option.some.injEq] at h; subst h; rfl
  | program k ih => intro v h w; exact ih P h w
  | mark m k ih => intro v h w; exact ih h w
  | _ => intro v h; simp [plain] at h

/-- A mark for a proposition of one's own. -/
@[reducible] def Own (p : Prop) : Prop := p

/-! ### Tests -/

def bcase (b : Bool) (A B : Prop) : Prop := match b with | true => A | false => B
theorem bcase_mk {b : Bool} {A B : Prop} (h1 : b = true → A) (h2 : b = false → B) : bcase b A B := by cases b <;> simp_all [bcase]
theorem bcase_mono {b : Bool} {A B A' B' : Prop} (h : bcase b A B) (h1 : b = true → A → A') (h2 : b = false → B → B') : bcase b A' B' := by cases b <;> simp_all [bcase]

/-- A number fits its kind. -/
def InR (k : IntKind) (n : Int) : Prop := k.min ≤ n ∧ n ≤ k.max

theorem InR.wrap {k : IntKind} {n : Int} (h : InR k n) : k.wrap n = n := by
  obtain ⟨h1, h2⟩ := h
  cases k <;> simp [IntKind.wrap, IntKind.min, IntKind.max, IntKind.signed, IntKind.bits] at * <;> omega

/-! ### Cells -/

inductive Leaf where
  | int (k : IntKind) | bool | str | slc | ptr | other

def leafOf : TypeDesc → Leaf
  | .int k => .int k
  | .bool => .bool
  | .string => .str
  | .slice _ => .slc
  | .pointer _ => .ptr
  | _ => .other

def cellAs (w : World) (p : Addr) : Leaf → (Value → Prop) → Prop
  | .int k, K => ∃ n : Int, w.cell? p = some (.int k n) ∧ K (.int k n)
  | .bool, K => ∃ b : Bool, w.cell? p = some (.bool b) ∧ K (.bool b)
  | .str, K => ∃ s : ByteArray, w.cell? p = some (.string s) ∧ K (.string s)
  | .slc, K => ∃ (a : Option Addr) (n c : Nat), w.cell? p = some (.slice a n c) ∧ K (.slice a n c)
  | .ptr, K => ∃ a : Option Addr, w.cell? p = some (.pointer a) ∧ K (.pointer a)
  | .other, K => ∃ v : Value, w.cell? p = some v ∧ K v

theorem cellAs_spec {w : World} {p : Addr} {l : Leaf} {K : Value → Prop} (h : cellAs w p l K) : ∃ v, w.cell? p = some v ∧ K v := by
  cases l with
  | int k => obtain ⟨n, h1, h2⟩ := h; exact ⟨_, h1, h2⟩
  | bool => obtain ⟨n, h1, h2⟩ := h; exact ⟨_, h1, h2⟩
  | str => obtain ⟨n, h1, h2⟩ := h; exact ⟨_, h1, h2⟩
  | slc => obtain ⟨a, n, c, h1, h2⟩ := h; exact ⟨_, h1, h2⟩
  | ptr => obtain ⟨a, h1, h2⟩ := h; exact ⟨_, h1, h2⟩
  | other => obtain ⟨v, h1, h2⟩ := h; exact ⟨_, h1, h2⟩

def leavesOf (P : Program) : Nat → TypeId → List Leaf
  | 0, _ => []
  | f + 1, t => match P.underlying t with
    | some (.struct fs) => fs.toList.flatMap fun fd => leavesOf P f fd.type
    | some (.array n e) => (List.replicate n ()).flatMap fun _ => leavesOf P f e
    | some d => [leafOf d]
    | none => []

def addN (o : Nat) : Nat → Nat
  | 0 => o
  | i + 1 => o + (i + 1)
theorem addN_eq (o i : Nat) : addN o i = o + i := by cases i <;> rfl

theorem add_lit (b o i : Nat) : (⟨b, o, none⟩ : Addr).add i = ⟨b, o + i, none⟩ := by unfold Addr.add; split <;> simp_all

def cellsAs (w : World) (b o : Nat) : Nat → List Leaf → (List Value → Prop) → Prop
  | _, [], K => K []
  | i, l :: ls, K => cellAs w ⟨b, addN o i, none⟩ l fun v => cellsAs w b o (i + 1) ls fun vs => K (v :: vs)

theorem cellsAs_spec {w : World} {b o : Nat} : ∀ {ls : List Leaf} {i : Nat} {K : List Value → Prop}, cellsAs w b o i ls K →
    ∃ vs : List Value, vs.length = ls.length ∧ (∀ (j : Nat) v, vs[j]? = some v → w.cell? ⟨b, o + (i + j), none⟩ = some v) ∧ K vs
  | [], i, K, h => ⟨[], rfl, by simp, h⟩
  | l :: ls, i, K, h => by
    obtain ⟨v, h1, h2⟩ := cellAs_spec h
    obtain ⟨vs, h3, h4, h5⟩ := cellsAs_spec h2
    refine ⟨v :: vs, by simp [h3], ?_, h5⟩
    intro j u hj
    cases j with
    | zero => simp at hj; subst hj; rw [addN_eq] at h1; exact h1
    | succ j => simp at hj; have := h4 j u hj; rw [show i + (j + 1) = i + 1 + j from by omega]; exact this

/-- Every cell of 'w' is there in 'w''. -/
def Sees (w w' : World) : Prop := ∀ p v, w.cell? p = some v → w'.cell? p = some v

theorem run_load_at {P : Program} {w : World} {p : Addr} {v : Value} (h : w.cell? p = some v) : (Go.load p).run P w = .ok v w := by
  simp [h]

def isAggB (P : Program) (t : TypeId) : Option Bool := match P.underlying t with
  | some (.struct _) => some true
  | some (.array ..) => some true
  | some _ => some false
  | none => none

theorem run_loadVar_one {P : Program} {w : World} {t : TypeId} {p : Addr} {v : Value} (ht : isAggB P t = some false) (h : w.cell? p = some v) : (loadVar t p).run P w = .ok v w := by
  unfold isAggB at ht
  cases hu : P.underlying t with
  | none => simp [hu] at ht
  | some d => cases d <;> simp [hu] at ht <;> simp [loadVar, isAgg, run_underlying hu, h]

theorem run_loadVar_agg {P : Program} {w : World} {t : TypeId} {b o : Nat} {vs : List Value} (ht : isAggB P t = some true) (hl : vs.length = P.cellsOf t)
    (hi : (P.info? t).isSome = true) (h : ∀ (j : Nat) v, vs[j]? = some v → w.cell? ⟨b, o + j, none⟩ = some v) : (loadVar t ⟨b, o, none⟩).run P w = .ok (.agg vs.toArray) w := by
  obtain ⟨i, hi⟩ := Option.isSome_iff_exists.1 hi
  have hsz : (sizeOf t).run P w = .ok vs.length w := by
    simp [sizeOf, typeInfo, hi, hl, Program.cellsOf]
  have hlc := run_loadCells_list (P := P) w ⟨b, o, none⟩ vs (fun j v hj => by rw [add_lit]; exact h j v hj)
  unfold isAggB at ht
  cases hu : P.underlying t with
  | none => simp [hu] at ht
  | some d => cases d <;> simp [hu] at ht <;> simp [loadVar, isAgg, run_underlying hu, hsz, hlc]

/-! ### Operations that give a value and leave the world -/

/-- An address that must be there. -/
def ptrE (p : Option Addr) (K : Nat → Nat → Prop) : Prop := match p with
  | some ⟨b, o, none⟩ => K b o
  | _ => False
theorem ptrE_spec {p : Option Addr} {K : Nat → Nat → Prop} (h : ptrE p K) : ∃ b o, p = some ⟨b, o, none⟩ ∧ K b o := by
  unfold ptrE at h
  split at h
  · exact ⟨_, _, rfl, h⟩
  · exact h.elim

def timesN (k : Nat) : Nat → Nat
  | 1 => k
  | n => k * n
theorem timesN_eq (k n : Nat) : timesN k n = k * n := by
  unfold timesN; split <;> simp

/-- Where a slice of a slice begins. -/
def SlAt (ad ad' : Option Addr) (m l size : Nat) : Prop := ad' = if m = l then ad else ad.map (·.add (l * size))
theorem SlAt.lt {b o m l size : Nat} {ad' : Option Addr} (h : SlAt (some ⟨b, o, none⟩) ad' m l size) (hl : l < m) : ad' = some ⟨b, o + l * size, none⟩ := by
  unfold SlAt at h; rw [h, if_neg (by omega)]; simp [add_lit]

def loadE (P : Program) (t : TypeId) (x : Value) (w : World) (K : Value → Prop) : Prop :=
  match x with
  | .pointer p => ptrE p fun b o => match isAggB P t with
    | some true => if (P.info? t).isSome && (leavesOf P 30 t).length == P.cellsOf t then cellsAs w b o 0 (leavesOf P 30 t) fun vs => K (.agg vs.toArray) else False
    | some false => cellAs w ⟨b, o, none⟩ (match P.underlying t with | some d => leafOf d | none => .other) K
    | none => False
  | _ => False

def indexAddrE (P : Program) (t : TypeId) (x i : Value) (K : Value → Prop) : Prop :=
  match i with
  | .int _ iv => match P.underlying t with
    | some (.slice e) => match x with
      | .slice ad n _ => if (P.info? e).isSome then ∃ k : Nat, iv = (k : Int) ∧ k < n ∧ ptrE ad fun b o => K (.pointer (some ⟨b, o + timesN k (P.cellsOf e), none⟩)) else False
      | _ => False
    | some (.array n e) => match x with
      | .pointer ad => if (P.info? e).isSome then ∃ k : Nat, iv = (k : Int) ∧ k < n ∧ ptrE ad fun b o => K (.pointer (some ⟨b, o + timesN k (P.cellsOf e), none⟩)) else False
      | _ => False
    | _ => False
  | _ => False

/-- A leaf's value, known to be this one. -/
def leafAs (v : Option Value) : Leaf → (Value → Prop) → Prop
  | .int k, K => ∃ n : Int, v = some (.int k n) ∧ K (.int k n)
  | .bool, K => ∃ b : Bool, v = some (.bool b) ∧ K (.bool b)
  | .str, K => ∃ s : ByteArray, v = some (.string s) ∧ K (.string s)
  | _, K => ∃ u : Value, v = some u ∧ K u
theorem leafAs_spec {v : Option Value} {l : Leaf} {K : Value → Prop} (h : leafAs v l K) : ∃ u, v = some u ∧ K u := by
  cases l with
  | int k => obtain ⟨n, h1, h2⟩ := h; exact ⟨_, h1, h2⟩
  | bool => obtain ⟨n, h1, h2⟩ := h; exact ⟨_, h1, h2⟩
  | str => obtain ⟨n, h1, h2⟩ := h; exact ⟨_, h1, h2⟩
  | slc => exact h
  | ptr => exact h
  | other => exact h

def indexE (P : Program) (t : TypeId) (x i : Value) (K : Value → Prop) : Prop :=
  match i with
  | .int _ iv => match P.underlying t with
    | some (.array n e) => match x with
      | .agg cs => match isAggB P e with
        | some false => if (P.info? e).isSome && P.cellsOf e == 1 then ∃ k : Nat, iv = (k : Int) ∧ k < n ∧ leafAs cs[k]? (match P.underlying e with | some d => leafOf d | none => .other) K else False
        | _ => False
      | _ => False
    | some .string => match x with
      | .string s => ∃ k : Nat, iv = (k : Int) ∧ k < s.size ∧ K (.int .u8 ((s.data.toList.getD k 0).toNat : Int))
      | _ => False
    | _ => False
  | _ => False

def optInt : Option Value → Option (Option Int)
  | none => some none
  | some (.int _ n) => some (some n)
  | _ => none

def boundE : Option Int → Nat → (Nat → Prop) → Prop
  | none, d, K => K d
  | some v, _, K => ∃ k : Nat, v = (k : Int) ∧ K k

def sliceE (P : Program) (t : TypeId) (x : Value) (lo hi mx : Option Value) (K : Value → Prop) : Prop :=
  match P.underlying t with
  | some (.slice e) => match x with
    | .slice ad n c => if (P.info? e).isSome then (match optInt mx with
      | some none => match optInt lo, optInt hi with
        | some none, some none => K (.slice ad n c)
        | some none, some (some h) => ∃ hn : Nat, h = (hn : Int) ∧ hn ≤ c ∧ K (.slice ad hn c)
        | some (some l), some none => ∃ ln : Nat, l = (ln : Int) ∧ ln ≤ n ∧ ∀ ad', SlAt ad ad' c ln (P.cellsOf e) → K (.slice ad' (n - ln) (c - ln))
        | some (some l), some (some h) => ∃ ln hn : Nat, l = (ln : Int) ∧ h = (hn : Int) ∧ ln ≤ hn ∧ hn ≤ c ∧ ∀ ad', SlAt ad ad' c ln (P.cellsOf e) → K (.slice ad' (hn - ln) (c - ln))
        | _, _ => False
      | some (some m) => match optInt lo, optInt hi with
        | some none, some (some h) => ∃ mn hn : Nat, m = (mn : Int) ∧ h = (hn : Int) ∧ hn ≤ mn ∧ mn ≤ c ∧ K (.slice ad hn mn)
        | some (some l), some (some h) => ∃ mn ln hn : Nat, m = (mn : Int) ∧ l = (ln : Int) ∧ h = (hn : Int) ∧ ln ≤ hn ∧ hn ≤ mn ∧ mn ≤ c ∧ ∀ ad', SlAt ad ad' mn ln (P.cellsOf e) → K (.slice ad' (hn - ln) (mn - ln))
        | _, _ => False
      | none => False) else False
    | _ => False
  | some .string => match x with
    | .string s => match optInt lo, optInt hi, optInt mx with
      | some l, some h, some none => boundE l 0 fun ln => boundE h s.size fun hn => ln ≤ hn ∧ hn ≤ s.size ∧ K (.string (s.extract ln hn))
      | _, _, _ => False
    | _ => False
  | _ => False

/-- A value, to its constructor. -/
def forceV (v : Value) (K : Value → Prop) : Prop := match v with
  | .bool b => K (.bool b)
  | .int k n => K (.int k n)
  | .float k b => K (.float k b)
  | .complex k x y => K (.complex k x y)
  | .string s => K (.string s)
  | .pointer a => K (.pointer a)
  | .slice a n c => K (.slice a n c)
  | .map r => K (.map r)
  | .chan r => K (.chan r)
  | .func f x y => K (.func f x y)
  | .nilFunc => K .nilFunc
  | .iface t x => K (.iface t x)
  | .nilIface => K .nilIface
  | .agg cs => K (.agg cs)
  | .tuple vs => K (.tuple vs)
theorem forceV_eq (v : Value) (K : Value → Prop) : forceV v K = K v := by cases v <;> rfl

def rvalE (P : Program) (o : Oper) (ρ : Operand → Value) (K : Value → Prop) : Prop :=
  match plain P (execOp ρ o) with
  | some (.value v) => forceV v K
  | _ => False

/-- Sums that must fit (unless 'wr': then they wrap). -/
def arithE (wr : Bool) (k : IntKind) (n : Int) (K : Value → Prop) : Prop := match wr with
  | true => K (.int k (k.wrap n))
  | false => InR k n ∧ K (.int k n)

def binE (P : Program) (wr : Bool) (o : Oper) (ρ : Operand → Value) (op : BinOp) (x y : Value) (K : Value → Prop) : Prop :=
  match op, x, y with
  | .add, .int k m, .int k' n => if k = k' then arithE wr k (m + n) K else False
  | .sub, .int k m, .int k' n => if k = k' then arithE wr k (m - n) K else False
  | .mul, .int k m, .int k' n => if k = k' then arithE wr k (m * n) K else False
  | .quo, .int k m, .int k' n => if k = k' then (match wr with | true => rvalE P o ρ K | false => 0 ≤ m ∧ 0 < n ∧ InR k (m / n) ∧ K (.int k (m / n))) else False
  | .rem, .int k m, .int k' n => if k = k' then (match wr with | true => Own (n ≠ 0) ∧ K (.int k (m.tmod n)) | false => 0 ≤ m ∧ 0 < n ∧ K (.int k (m % n))) else False
  | .add, .string a, .string b => Own (a.size + b.size ≤ 9223372036854775807) ∧ K (.string (a ++ b))
  | _, _, _ => rvalE P o ρ K

def convE (P : Program) (wr : Bool) (o : Oper) (ρ : Operand → Value) (dst : TypeId) (x : Value) (K : Value → Prop) : Prop :=
  match P.underlying dst, x with
  | some (.int k), .int _ n => arithE wr k n K
  | _, _ => rvalE P o ρ K

def valE (P : Program) (wr : Bool) (o : Oper) (ρ : Operand → Value) (w : World) (K : Value → Prop) : Prop :=
  match o.op with
  | .load t x => loadE P t (ρ x) w K
  | .indexAddr t x i => indexAddrE P t (ρ x) (ρ i) K
  | .index t x i => indexE P t (ρ x) (ρ i) K
  | .slice t x lo hi mx => match P.underlying t with
    | some (.array ..) => rvalE P o ρ K
    | _ => sliceE P t (ρ x) (lo.map ρ) (hi.map ρ) (mx.map ρ) K
  | .binOp op _ x y _ => binE P wr o ρ op (ρ x) (ρ y) K
  | .convert s d x => match P.underlying s with
    | some _ => convE P wr o ρ d (ρ x) K
    | none => False
  | _ => rvalE P o ρ K

/-- The block that an operation looks into. -/
def vB : Value → Option Nat
  | .pointer (some ⟨b, _, none⟩) => some b
  | _ => none
def ldB (ρ : Operand → Value) (o : Oper) : Option Nat := match o.op with
  | .load _ x => vB (ρ x)
  | _ => none
/-- Every cell of such a block is there. -/
def SeesB (q : Option Nat) (w w' : World) : Prop := ∀ b, q = some b → ∀ p v, p.block = b → w.cell? p = some v → w'.cell? p = some v
theorem SeesB.refl (q : Option Nat) (w : World) : SeesB q w w := fun _ _ _ _ _ h => h
theorem Sees.b {w w' : World} (h : Sees w w') (q : Option Nat) : SeesB q w w' := fun _ _ p v _ hv => h p v hv

/-- What an operation without a trace gives, in every world that sees this one's cells. -/
def Gives (P : Program) (o : Oper) (ρ : Operand → Value) (w : World) (v : Value) : Prop := ∀ w', SeesB (ldB ρ o) w w' → (execOp ρ o).run P w' = .ok (.value v) w'

theorem rvalE_spec {P : Program} {o : Oper} {ρ : Operand → Value} {K : Value → Prop} (w : World) (h : rvalE P o ρ K) : ∃ v, Gives P o ρ w v ∧ K v := by
  unfold rvalE at h
  split at h
  · rename_i v hv; rw [forceV_eq] at h; exact ⟨v, fun w' _ => plain_run _ hv w', h⟩
  · exact h.elim

theorem Sees.refl (w : World) : Sees w w := fun _ _ h => h

theorem run_indexAt {P : Program} {w : World} {t e : TypeId} {x : Value} {k : IntKind} {ad : Option Addr} {n i b o : Nat} (hx : (∃ c, P.underlying t = some (.slice e) ∧ x = .slice ad n c) ∨ (P.underlying t = some (.array n e) ∧ x = .pointer ad))
    (hi : (P.info? e).isSome = true) (had : ad = some ⟨b, o, none⟩) (hlt : i < n) :
    (Instr.indexAt t x (.int k (i : Int))).run P w = .ok (.pointer (some ⟨b, o + timesN i (P.cellsOf e), none⟩)) w := by
  obtain ⟨inf, hinf⟩ := Option.isSome_iff_exists.1 hi
  subst had
  have hsz : ∀ w, (sizeOf e).run P w = .ok (P.cellsOf e) w := fun w => by simp [sizeOf, typeInfo, hinf, Program.cellsOf]
  rcases hx with ⟨c, hu, rfl⟩ | ⟨hu, rfl⟩
  · simp [Instr.indexAt, asIntOf, run_underlying hu, hlt, hsz, add_lit, timesN_eq]
  · simp [Instr.indexAt, asIntOf, run_underlying hu, hlt, hsz, add_lit, timesN_eq, Instr.sureAddr]

theorem Gives.of {P : Program} {o : Oper} {ρ : Operand → Value} {w : World} {v : Value} {s : Sem Value} (he : execOp ρ o = (do pure (.value (← s)))) (h : ∀ w', SeesB (ldB ρ o) w w' → s.run P w' = .ok v w') : Gives P o ρ w v := by
  intro w' hw
  rw [he]
  simp [h w' hw]

theorem loadE_spec {P : Program} {t : TypeId} {x : Value} {w : World} {K : Value → Prop} (h : loadE P t x w K) : ∃ v, (∀ w', SeesB (vB x) w w' → (Instr.loadAt t x).run P w' = .ok v w') ∧ K v := by
  unfold loadE at h
  split at h
  case h_2 => exact h.elim
  rename_i p
  obtain ⟨b, o, rfl, h⟩ := ptrE_spec h
  split at h
  · rename_i hag
    split at h
    · rename_i hc
      simp only [Bool.and_eq_true, beq_iff_eq] at hc
      obtain ⟨vs, h1, h2, h3⟩ := cellsAs_spec h
      refine ⟨_, fun w' hw => ?_, h3⟩
      simp only [Instr.loadAt, Instr.sureAddr, Sem.run_bind, Sem.run_pure, Result.andThen]
      exact run_loadVar_agg hag (by omega) hc.1 (fun j v hj => hw b rfl _ _ rfl (by have := h2 j v hj; rw [Nat.zero_add] at this; exact this))
    · exact h.elim
  · rename_i hag
    obtain ⟨v, h1, h2⟩ := cellAs_spec h
    refine ⟨v, fun w' hw => ?_, h2⟩
    simp only [Instr.loadAt, Instr.sureAddr, Sem.run_bind, Sem.run_pure, Result.andThen]
    exact run_loadVar_one hag (hw b rfl _ _ rfl h1)
  · exact h.elim

theorem indexAddrE_spec {P : Program} {t : TypeId} {x i : Value} {w : World} {K : Value → Prop} (h : indexAddrE P t x i K) : ∃ v, (∀ w', (Instr.indexAt t x i).run P w' = .ok v w') ∧ K v := by
  unfold indexAddrE at h
  split at h
  case h_2 => exact h.elim
  split at h
  case h_3 => exact h.elim
  · rename_i e hu
    split at h
    case h_2 => exact h.elim
    split at h
    case isFalse => exact h.elim
    rename_i hinf
    obtain ⟨k, rfl, hlt, hp⟩ := h
    obtain ⟨b, o, rfl, hK⟩ := ptrE_spec hp
    exact ⟨_, fun w' => run_indexAt (.inl ⟨_, hu, rfl⟩) hinf rfl hlt, hK⟩
  · rename_i n e hu
    split at h
    case h_2 => exact h.elim
    split at h
    case isFalse => exact h.elim
    rename_i hinf
    obtain ⟨k, rfl, hlt, hp⟩ := h
    obtain ⟨b, o, rfl, hK⟩ := ptrE_spec hp
    exact ⟨_, fun w' => run_indexAt (.inr ⟨hu, rfl⟩) hinf rfl hlt, hK⟩

theorem indexE_spec {P : Program} {t : TypeId} {x i : Value} {w : World} {K : Value → Prop} (h : indexE P t x i K) : ∃ v, (∀ w', (Instr.index t x i).run P w' = .ok v w') ∧ K v := by
  unfold indexE at h
  split at h
  case h_2 => exact h.elim
  split at h
  case h_3 => exact h.elim
  · rename_i n e hu
    split at h
    case h_2 => exact h.elim
    rename_i cs
    split at h
    case h_2 => exact h.elim
    rename_i hag
    split at h
    case isFalse => exact h.elim
    rename_i hc
    simp only [Bool.and_eq_true, beq_iff_eq] at hc
    obtain ⟨inf, hinf⟩ := Option.isSome_iff_exists.1 hc.1
    obtain ⟨k, rfl, hlt, hl⟩ := h
    obtain ⟨u, hu1, hK⟩ := leafAs_spec hl
    refine ⟨u, fun w' => ?_, hK⟩
    have hsz : ∀ w, (sizeOf e).run P w = .ok 1 w := fun w => by rw [← hc.2]; simp [sizeOf, typeInfo, hinf, Program.cellsOf]
    have hia : ∀ w, (isAgg e).run P w = .ok false w := fun w => by
      unfold isAggB at hag
      cases hue : P.underlying e with
      | none => simp [hue] at hag
      | some d => cases d <;> simp [hue] at hag <;> simp [isAgg, run_underlying hue]
    simp [Instr.index, asIntOf, run_underlying hu, hlt, hsz, part, hia, hu1]
  · rename_i hu
    split at h
    case h_2 => exact h.elim
    rename_i s
    obtain ⟨k, rfl, hlt, hK⟩ := h
    refine ⟨_, fun w' => ?_, hK⟩
    have h1 : s.data.toList.getD k 0 = s[k] := by
      rw [List.getD_eq_getElem?_getD, List.getElem?_eq_getElem (by simpa using hlt)]; rfl
    simp [Instr.index, asIntOf, run_underlying hu, hlt]
    rfl

theorem run_sliceBound {P : Program} {w : World} {k : IntKind} {i y : Nat} (c : BoundsCode) (h : i ≤ y) : (Instr.sliceBound (.int k (i : Int)) y c).run P w = .ok i w := by
  simp [Instr.sliceBound, asIntOf, h]

theorem optInt_none {v : Option Value} (hv : optInt v = some none) : v = none := by
  cases v with
  | none => rfl
  | some u => cases u <;> simp [optInt] at hv
theorem optInt_some {v : Option Value} {n : Int} (hv : optInt v = some (some n)) : ∃ k, v = some (.int k n) := by
  cases v with
  | none => simp [optInt] at hv
  | some u => cases u <;> simp [optInt] at hv; subst hv; exact ⟨_, rfl⟩

theorem add_zero (a : Addr) : a.add 0 = a := rfl
theorem map_add_zero (ad : Option Addr) (m s : Nat) : (if m = 0 then ad else ad.map (·.add (0 * s))) = ad := by
  split
  · rfl
  · cases ad <;> simp [add_zero]

theorem sliceE_spec {P : Program} {t : TypeId} {x : Value} {lo hi mx : Option Value} {w : World} {K : Value → Prop} (h : sliceE P t x lo hi mx K) : ∃ v, (∀ w', (Instr.slice t x lo hi mx).run P w' = .ok v w') ∧ K v := by
  unfold sliceE at h
  split at h
  case h_3 => exact h.elim
  · rename_i e hu
    split at h
    case h_2 => exact h.elim
    rename_i ad n c
    split at h
    case isFalse => exact h.elim
    rename_i hinf
    obtain ⟨inf, hinf⟩ := Option.isSome_iff_exists.1 hinf
    have hsz : ∀ w, (sizeOf e).run P w = .ok (P.cellsOf e) w := fun w => by simp [sizeOf, typeInfo, hinf, Program.cellsOf]
    split at h
    case h_3 => exact h.elim
    · rename_i hm
      split at h
      case h_5 => exact h.elim
      · rename_i hl hh
        rw [optInt_none hl, optInt_none hh, optInt_none hm]
        refine ⟨_, fun w' => ?_, h⟩
        simp [Instr.slice, run_underlying hu, Instr.sliceBounds, hsz]
        intro _; cases ad <;> simp [add_zero]
      · rename_i h' hl hh
        obtain ⟨hk, eh⟩ := optInt_some hh
        obtain ⟨hn, e1, h2, h3⟩ := h
        rw [optInt_none hl, eh, optInt_none hm, e1]
        refine ⟨_, fun w' => ?_, h3⟩
        simp [Instr.slice, run_underlying hu, Instr.sliceBounds, hsz, run_sliceBound _ h2]
        intro _; cases ad <;> simp [add_zero]
      · rename_i l hl hh
        obtain ⟨lk, el⟩ := optInt_some hl
        obtain ⟨ln, e1, h2, h3⟩ := h
        rw [el, optInt_none hh, optInt_none hm, e1]
        refine ⟨_, fun w' => ?_, h3 _ rfl⟩
        simp [Instr.slice, run_underlying hu, Instr.sliceBounds, hsz, run_sliceBound _ h2]
      · rename_i l h' hl hh
        obtain ⟨lk, el⟩ := optInt_some hl
        obtain ⟨hk, eh⟩ := optInt_some hh
        obtain ⟨ln, hn, e1, e2, h2, h3, h4⟩ := h
        rw [el, eh, optInt_none hm, e1, e2]
        refine ⟨_, fun w' => ?_, h4 _ rfl⟩
        simp [Instr.slice, run_underlying hu, Instr.sliceBounds, hsz, run_sliceBound _ h2, run_sliceBound _ h3]
    · rename_i m hm
      obtain ⟨mk, em⟩ := optInt_some hm
      split at h
      case h_3 => exact h.elim
      · rename_i h' hl hh
        obtain ⟨hk, eh⟩ := optInt_some hh
        obtain ⟨mn, hn, e1, e2, h2, h3, h4⟩ := h
        rw [optInt_none hl, eh, em, e1, e2]
        refine ⟨_, fun w' => ?_, h4⟩
        simp [Instr.slice, run_underlying hu, Instr.sliceBounds, hsz, run_sliceBound _ h2, run_sliceBound _ h3]
        intro _; cases ad <;> simp [add_zero]
      · rename_i l h' hl hh
        obtain ⟨hk, eh⟩ := optInt_some hh
        obtain ⟨lk, el⟩ := optInt_some hl
        obtain ⟨mn, ln, hn, e1, e2, e3, h2, h3, h4, h5⟩ := h
        rw [el, eh, em, e1, e2, e3]
        refine ⟨_, fun w' => ?_, h5 _ rfl⟩
        simp [Instr.slice, run_underlying hu, Instr.sliceBounds, hsz, run_sliceBound _ h2, run_sliceBound _ h3, run_sliceBound _ h4]
  · rename_i hu
    split at h
    case h_2 => exact h.elim
    rename_i s
    split at h
    case h_2 => exact h.elim
    rename_i l h' hl hh hm
    rw [optInt_none hm]
    have key : ∀ (ln hn : Nat), ln ≤ hn → hn ≤ s.size → (lo = none ∧ ln = 0 ∨ ∃ k, lo = some (.int k (ln : Int))) → (hi = none ∧ hn = s.size ∨ ∃ k, hi = some (.int k (hn : Int))) →
        ∀ w', (Instr.slice t (.string s) lo hi none).run P w' = .ok (.string (s.extract ln hn)) w' := by
      intro ln hn h1 h2 h3 h4 w'
      rcases h3 with ⟨rfl, rfl⟩ | ⟨k, rfl⟩ <;> rcases h4 with ⟨rfl, rfl⟩ | ⟨k', rfl⟩ <;>
        simp [Instr.slice, run_underlying hu, Instr.sliceBounds, run_sliceBound _ h1, run_sliceBound _ h2]
    cases l with
    | none =>
      cases h' with
      | none => obtain ⟨h1, h2, h3⟩ := h; exact ⟨_, fun w' => key _ _ h1 h2 (.inl ⟨optInt_none hl, rfl⟩) (.inl ⟨optInt_none hh, rfl⟩) w', h3⟩
      | some hv =>
        obtain ⟨hn, e1, h1, h2, h3⟩ := h
        obtain ⟨k, ek⟩ := optInt_some hh
        exact ⟨_, fun w' => key _ _ h1 h2 (.inl ⟨optInt_none hl, rfl⟩) (.inr ⟨k, by rw [ek, e1]⟩) w', h3⟩
    | some lv =>
      cases h' with
      | none =>
        obtain ⟨ln, e1, h1, h2, h3⟩ := h
        obtain ⟨k, ek⟩ := optInt_some hl
        exact ⟨_, fun w' => key _ _ h1 h2 (.inr ⟨k, by rw [ek, e1]⟩) (.inl ⟨optInt_none hh, rfl⟩) w', h3⟩
      | some hv =>
        obtain ⟨ln, e1, hn, e2, h1, h2, h3⟩ := h
        obtain ⟨k, ek⟩ := optInt_some hl
        obtain ⟨k2, ek2⟩ := optInt_some hh
        exact ⟨_, fun w' => key _ _ h1 h2 (.inr ⟨k, by rw [ek, e1]⟩) (.inr ⟨k2, by rw [ek2, e2]⟩) w', h3⟩

theorem arithE_spec {wr : Bool} {k : IntKind} {n : Int} {K : Value → Prop} (h : arithE wr k n K) : K (.int k (k.wrap n)) := by
  cases wr with
  | true => exact h
  | false => obtain ⟨h1, h2⟩ := h; rw [h1.wrap]; exact h2

theorem binE_spec {P : Program} {wr : Bool} {o : Oper} {ρ : Operand → Value} {op : BinOp} {t t' : TypeId} {x y : Operand} {K : Value → Prop} (w : World) (ho : o.op = .binOp op t x y t')
    (h : binE P wr o ρ op (ρ x) (ρ y) K) : ∃ v, Gives P o ρ w v ∧ K v := by
  have g : ∀ {k : IntKind} {m n : Int} {v : Value}, ρ x = .int k m → ρ y = .int k n → (∀ w, (binOp op t (.int k m) (.int k n)).run P w = .ok v w) → Gives P o ρ w v := by
    intro k m n v hx hy hr
    refine Gives.of (s := do eqGuard op t x y (ρ x) (ρ y); binOp op t (ρ x) (ρ y)) (by simp [execOp, ho]) (fun w' _ => ?_)
    rw [hx, hy]
    have : (eqGuard op t x y (.int k m) (.int k n)).run P w' = .ok () w' := by unfold eqGuard; split <;> rfl
    simp [this, hr]
  unfold binE at h
  split at h
  case h_7 => exact rvalE_spec w h
  · rename_i k m k' n hx hy
    split at h
    case isFalse => exact h.elim
    rename_i hk; subst hk
    exact ⟨_, g hx hy (fun w => by simp [binOp, Op.intArith]), arithE_spec h⟩
  · rename_i k m k' n hx hy
    split at h
    case isFalse => exact h.elim
    rename_i hk; subst hk
    exact ⟨_, g hx hy (fun w => by simp [binOp, Op.intArith]), arithE_spec h⟩
  · rename_i k m k' n hx hy
    split at h
    case isFalse => exact h.elim
    rename_i hk; subst hk
    exact ⟨_, g hx hy (fun w => by simp [binOp, Op.intArith]), arithE_spec h⟩
  · rename_i k m k' n hx hy
    split at h
    case isFalse => exact h.elim
    rename_i hk; subst hk
    split at h
    · exact rvalE_spec w h
    · obtain ⟨h1, h2, h3, h4⟩ := h
      refine ⟨_, g hx hy (fun w => ?_), h4⟩
      rw [← h3.wrap]
      simp [binOp, Op.intDiv, show n ≠ 0 from by omega, Int.tdiv_eq_ediv_of_nonneg h1, h3.wrap]
  · rename_i k m k' n hx hy
    split at h
    case isFalse => exact h.elim
    rename_i hk; subst hk
    split at h
    · obtain ⟨h1, h4⟩ := h
      have h1 : n ≠ 0 := h1
      refine ⟨_, g hx hy (fun w => ?_), h4⟩
      simp [binOp, Op.intDiv, h1]
    · obtain ⟨h1, h2, h4⟩ := h
      refine ⟨_, g hx hy (fun w => ?_), h4⟩
      simp [binOp, Op.intDiv, show n ≠ 0 from by omega, Int.tmod_eq_emod_of_nonneg h1]
  · rename_i a b hx hy
    obtain ⟨h1, h4⟩ := h
    have h1 : a.size + b.size ≤ 9223372036854775807 := h1
    refine ⟨_, Gives.of (s := do eqGuard .add t x y (ρ x) (ρ y); binOp .add t (ρ x) (ρ y)) (by simp [execOp, ho]) (fun w' _ => ?_), h4⟩
    rw [hx, hy]
    have hg : (eqGuard .add t x y (.string a) (.string b)).run P w' = .ok () w' := by unfold eqGuard; rfl
    simp [hg, binOp, Op.stringOp]
    omega

theorem convE_spec {P : Program} {wr : Bool} {o : Oper} {ρ : Operand → Value} {s d : TypeId} {x : Operand} {K : Value → Prop} (w : World) (ho : o.op = .convert s d x) (hs : (P.underlying s).isSome = true)
    (h : convE P wr o ρ d (ρ x) K) : ∃ v, Gives P o ρ w v ∧ K v := by
  obtain ⟨sd, hs⟩ := Option.isSome_iff_exists.1 hs
  unfold convE at h
  split at h
  case h_2 => exact rvalE_spec w h
  rename_i k k' n hd hx
  refine ⟨_, Gives.of (s := convert s d (ρ x)) (by simp [execOp, ho]) (fun w' _ => ?_), arithE_spec h⟩
  rw [hx]
  simp [convert, run_underlying hs, run_underlying hd, Conv.intToInt]

theorem valE_spec {P : Program} {wr : Bool} {o : Oper} {ρ : Operand → Value} {w : World} {K : Value → Prop} (h : valE P wr o ρ w K) : ∃ v, Gives P o ρ w v ∧ K v := by
  unfold valE at h
  split at h
  case h_7 => exact rvalE_spec w h
  · rename_i t x ho
    obtain ⟨v, h1, h2⟩ := loadE_spec h
    exact ⟨v, Gives.of (s := Instr.loadAt t (ρ x)) (by simp [execOp, ho]) (fun w' hw => h1 w' (by simpa only [ldB, ho] using hw)), h2⟩
  · rename_i t x i ho
    obtain ⟨v, h1, h2⟩ := indexAddrE_spec (w := w) h
    exact ⟨v, Gives.of (s := Instr.indexAt t (ρ x) (ρ i)) (by simp [execOp, ho]) (fun w' _ => h1 w'), h2⟩
  · rename_i t x i ho
    obtain ⟨v, h1, h2⟩ := indexE_spec (w := w) h
    exact ⟨v, Gives.of (s := Instr.index t (ρ x) (ρ i)) (by simp [execOp, ho]) (fun w' _ => h1 w'), h2⟩
  · rename_i t x lo hi mx ho
    split at h
    · exact rvalE_spec w h
    · rename_i hna
      obtain ⟨v, h1, h2⟩ := sliceE_spec (w := w) h
      refine ⟨v, Gives.of (s := Instr.sliceAt t (ρ x) (lo.map ρ) (hi.map ρ) (mx.map ρ)) (by simp [execOp, ho]) (fun w' hw => ?_), h2⟩
      rw [← h1 w']
      cases hu : P.underlying t with
      | none =>
        simp [Instr.sliceAt, Instr.slice, underlying, hu]
      | some d =>
        simp only [Instr.sliceAt, Sem.run_bind, run_underlying hu, Result.andThen]
        cases d with
        | array n e => exact (hna n e hu).elim
        | _ => rfl
  · rename_i op t x y t' ho
    exact binE_spec w ho h
  · rename_i s d x ho
    split at h
    case h_2 => exact h.elim
    rename_i sd hs
    exact convE_spec w ho (by simp [hs]) h

/-! ### Operations that make or change memory; calls -/

/-- A new block. -/
def New (w : World) (o : Obj) (b : Nat) (w1 : World) : Prop := b = w.heap.size ∧ w1 = w.alloc o
/-- A store into one cell. -/
def Stored (w : World) (p : Addr) (v : Value) (w1 : World) : Prop := w1 = w.setCell p v

def zeroOf (P : Program) (t : TypeId) : Option Value := (P.info? t).bind (·.zero)

def oneB : Value → Bool
  | .agg _ => false
  | .tuple _ => false
  | _ => true

def storesE (b o : Nat) : Nat → List Value → World → (World → Prop) → Prop
  | _, [], w, K => K w
  | i, v :: vs, w, K => oneB v = true ∧ (∃ old, w.cell? ⟨b, addN o i, none⟩ = some old) ∧ w.frozen? ⟨b, addN o i, none⟩ = false ∧
      ∀ w1, Stored w ⟨b, addN o i, none⟩ v w1 → storesE b o (i + 1) vs w1 K

structure CallSpec where
  G : Type
  args : G → Array Value
  pre : G → World → Prop
  X : Type
  res : X → Value
  post : G → World → X → World → Prop

def CallSpec.Ok (P : Program) (f : FuncId) (s : CallSpec) : Prop :=
  ∀ g w, s.pre g w → Calls P f (s.args g) w fun e w' => ∃ x, e = .returned (s.res x) ∧ s.post g w x w' ∧ KO w w'

def specAt (sp : List (Nat × CallSpec)) (f : Nat) : Option CallSpec := match sp with
  | [] => none
  | (g, s) :: rest => match Nat.beq g f with
    | true => some s
    | false => specAt rest f

def callE (sp : List (Nat × CallSpec)) (f : FuncId) (args : Array Value) (w : World) (K : Value → World → Prop) : Prop :=
  match specAt sp f with
  | some s => ∃ g : s.G, args = s.args g ∧ Own (s.pre g w) ∧ ∀ (x : s.X) (w' : World), Own (s.post g w x w') → K (s.res x) w'
  | none => False

/-- What a row of n copies holds. -/
def mkRow (z : Array Value) (n : Nat) : Array Value := (Array.range (n * z.size)).map fun i => z[i % z.size]!

def makeSliceE (P : Program) (t : TypeId) (l c : Value) (w : World) (K : Value → World → Prop) : Prop :=
  match P.underlying t with
  | some (.slice e) => match P.info? e with
    | some inf => match inf.zero with
      | some z => match l, c with
        | .int _ lv, .int _ cv => if inf.size = z.cells.size ∧ 0 < inf.size then ∃ n m : Nat, lv = (n : Int) ∧ cv = (m : Int) ∧ n ≤ m ∧ inf.bytes * m ≤ 281474976710656 ∧ m ≤ 9223372036854775807 ∧
            ∀ b w1, New w (.cells (mkRow z.cells m) e) b w1 → K (.slice (some ⟨b, 0, none⟩) n m) w1 else False
        | _, _ => False
      | none => False
    | none => False
  | _ => False

/-- append, as the model runs it. -/
def AppRun (P : Program) (ts : Array TypeId) (t : TypeId) (s x : Value) (w : World) (a' : Option Addr) (n' c' : Nat) (w' : World) : Prop :=
  (Builtin.append_ ts t #[s, x]).run P w = .ok (.slice a' n' c') w'

def lenV : Value → Nat
  | .slice _ n _ => n
  | .string s => s.size
  | _ => 0

def appendE (P : Program) (ts : Array TypeId) (t : TypeId) (s x : Value) (w : World) (K : Value → World → Prop) : Prop :=
  ∃ (a' : Option Addr) (c' : Nat) (w' : World), AppRun P ts t s x w a' (lenV s + lenV x) c' w' ∧ Own (KO w w') ∧ K (.slice a' (lenV s + lenV x) c') w'

/-- copy, as the model runs it. -/
def CopyRun (P : Program) (ts : Array TypeId) (t : TypeId) (s x : Value) (w : World) (n : Nat) (w' : World) : Prop :=
  (Builtin.copy_ ts t #[s, x]).run P w = .ok (.int .i64 (n : Int)) w'

def copyE (P : Program) (ts : Array TypeId) (t : TypeId) (s x : Value) (w : World) (K : Value → World → Prop) : Prop :=
  ∃ (n : Nat) (w' : World), CopyRun P ts t s x w n w' ∧ Own (KO w w') ∧ K (.int .i64 (n : Int)) w'

def buildCells (P : Program) (t : TypeId) (len : Nat) (parts : Array (Nat × Value)) : Option (TypeId × Array Value) :=
  match P.underlying t with
  | some (.slice e) => match P.info? e with
    | some inf => match inf.zero with
      | some z => if len * inf.size ≤ 16777216 then (match Instr.fill (fun i => some (i * inf.size, inf.size)) ((Array.range (len * inf.size)).map fun i => z.cells[i % z.cells.size]!) parts.toList with
        | some cs => some (e, cs)
        | none => none) else none
      | none => none
    | none => none
  | _ => none

/-! ### Strings, runes, bytes -/

/-- A slice's cells are this string's bytes. -/
def BytesIn (w : World) (ad : Option Addr) (n : Nat) (s : ByteArray) : Prop :=
  s.size = n ∧ (n = 0 ∨ ∃ b o, ad = some ⟨b, o, none⟩ ∧ ∀ j, j < n → w.cell? ⟨b, o + j, none⟩ = some (.int .u8 ((s.data.toList.getD j 0).toNat : Int)))
/-- A slice's cells are these runes. -/
def RunesIn (w : World) (ad : Option Addr) (n : Nat) (zs : List Int) : Prop :=
  zs.length = n ∧ (n = 0 ∨ ∃ b o, ad = some ⟨b, o, none⟩ ∧ ∀ j, j < n → w.cell? ⟨b, o + j, none⟩ = some (.int .i32 (zs.getD j 0)))
/-- A string's runes, laid anew. -/
def NewRunes (w : World) (s : ByteArray) (e : TypeId) (c b : Nat) (w1 : World) : Prop :=
  (runesV s).length ≤ c ∧ c ≤ maxLen ∧ b = w.heap.size ∧ w1 = w.drew.alloc (.cells (runesV s ++ List.replicate (c - (runesV s).length) (Value.int .i32 0)).toArray e)

def textE (P : Program) (wr : Bool) (o : Oper) (ρ : Operand → Value) (s d : TypeId) (x : Value) (w : World) (K : Value → World → Prop) : Prop :=
  match P.underlying s, P.underlying d with
  | some .string, some (.slice e) => match P.underlying e, x with
    | some (.int .i32), .string str => Own ((runesV str).length ≤ 70368744177664) ∧ ∀ c b w1, Own (NewRunes w str e c b w1) → K (.slice (some ⟨b, 0, none⟩) (runesV str).length c) w1
    | _, _ => False
  | some (.slice e), some .string => match P.underlying e, x with
    | some (.int .u8), .slice ad n c => ∃ str : ByteArray, Own (BytesIn w ad n str) ∧ K (.string str) w
    | some (.int .i32), .slice ad n c => ∃ zs : List Int, Own (RunesIn w ad n zs) ∧ K (.string (runesBytes zs)) w
    | _, _ => False
  | _, _ => valE P wr o ρ w fun v => K v w

/-- A string's iterator goes on. -/
def Nexted (w : World) (r : Nat) (s : ByteArray) (i : Nat) (w1 : World) : Prop := w1 = w.putObj r (.stringIter s (i + dcN s i))

def nextE (it : Value) (str : Bool) (w : World) (K : Value → World → Prop) : Prop := match str with
  | true => match it with
    | .pointer p => ptrE p fun r o => match o with
      | 0 => ∃ (s : ByteArray) (i : Nat), Own (w.heap[r]? = some (.stringIter s i)) ∧ bcase (decide (i < s.size)) (∀ w1, Own (Nexted w r s i w1) → K (.tuple #[.bool true, .int .i64 (i : Int), .int .i32 (dcR s i)]) w1) (K (.tuple #[.bool false]) w)
      | _ + 1 => False
    | _ => False
  | false => False

def rangeStrE (P : Program) (t : TypeId) (x : Value) (w : World) (K : Value → World → Prop) : Prop := match P.underlying t with
  | some .string => match x with
    | .string s => ∀ b w1, New w (.stringIter s 0) b w1 → K (.pointer (some ⟨b, 0, none⟩)) w1
    | _ => False
  | _ => False

theorem textE_spec {P : Program} {wr : Bool} {o : Oper} {ρ : Operand → Value} {s d : TypeId} {x : Operand} {w : World} {K : Value → World → Prop} (ho : o.op = .convert s d x) (h : textE P wr o ρ s d (ρ x) w K) :
    (∃ v w1, (convert s d (ρ x)).run P w = .ok v w1 ∧ K v w1 ∧ KO w w1) ∨ ∃ v, Gives P o ρ w v ∧ K v w := by
  unfold textE at h
  split at h
  case h_3 => exact .inr (valE_spec h)
  · rename_i e hs hd
    left
    split at h
    case h_2 => exact h.elim
    rename_i str he hx
    obtain ⟨hlen, hk⟩ := h
    have hlen' : (Conv.runesFrom str str.size 0 #[]).size ≤ 70368744177664 := by simpa [runesV] using hlen
    have hr := run_runes_of_string (P := P) w s d e str hs hd he hlen'
    have hn : (runesV str).length = (Conv.runesFrom str str.size 0 #[]).size := by simp [runesV]
    refine ⟨_, _, by rw [hx]; exact hr, ?_, KO.below (((Below.refl w.heap.size w).drew).alloc (Nat.le_refl _) _) (Nat.le_refl _)⟩
    rw [← hn]
    refine hk _ _ _ ⟨by rw [hn]; exact grownCap_ge _ _ _ _, grownCap_le_maxLen _ _ _ _ (by rw [hn]; unfold maxLen; omega), rfl, ?_⟩
    congr 2
    apply Array.ext'
    simp [runesV]
  · rename_i e hs hd
    left
    split at h
    case h_3 => exact h.elim
    · rename_i ad n c he hx
      obtain ⟨str, ⟨hn, hc⟩, hk⟩ := h
      refine ⟨_, w, ?_, hk, KOE.refl _ _⟩
      rw [hx]
      rcases ad with _ | a
      · have hn0 : n = 0 := by
          rcases hc with hc | ⟨_, _, hc, _⟩
          · exact hc
          · cases hc
        have hstr : str = .empty := by
          have : str.size = 0 := by omega
          obtain ⟨⟨l⟩⟩ := str
          have hl : l.length = 0 := this
          have hl : l = [] := List.eq_nil_of_length_eq_zero hl
          subst hl; rfl
        rw [run_convert_bytes_string w s d e none n c hs he hd, hstr]; rfl
      · subst hn
        have hl : str.data.toList.length = str.size := by rw [Array.length_toList]; rfl
        have := run_convert_bytes_back (P := P) w s d e a c str.data.toList hs he hd (fun j hj => by
          rcases hc with hc | ⟨b, o', hc, hcc⟩
          · omega
          · cases hc
            have := hcc j (by omega)
            rw [add_lit, this, List.getD_eq_getElem?_getD, List.getElem?_eq_getElem hj]; rfl)
        rw [hl] at this
        rw [this]
    · rename_i ad n c he hx
      obtain ⟨zs, ⟨hn, hc⟩, hk⟩ := h
      refine ⟨_, w, ?_, hk, KOE.refl _ _⟩
      rw [hx]
      rcases ad with _ | a
      · have hn0 : n = 0 := by
          rcases hc with hc | ⟨_, _, hc, _⟩
          · exact hc
          · cases hc
        have hz : zs = [] := List.eq_nil_of_length_eq_zero (by omega)
        rw [run_convert_runes_nil w s d e n c hs he hd, hz]; rfl
      · subst hn
        have := run_convert_runes (P := P) w s d e a zs.length c zs (Nat.le_refl _) hs he hd (fun j hj => by
          rcases hc with hc | ⟨b, o', hc, hcc⟩
          · omega
          · cases hc
            rw [add_lit, hcc j (by omega)])
        rw [this, List.take_length]

theorem KO.putObj {w : World} {r : Nat} {o o' : Obj} (ho : w.heap[r]? = some o) (hr : isRec o = false) : KO w (w.putObj r o') :=
  ⟨by simp, fun k x _ hk hx => by
    by_cases e : k = r
    · subst e; rw [ho] at hk; cases hk; rw [hr] at hx; cases hx
    · exact (World.putObj_heap_other e).trans hk⟩

theorem nextE_spec {P : Program} {t : TypeId} {it : Value} {str : Bool} {w : World} {K : Value → World → Prop} (h : nextE it str w K) : ∃ v w1, (Instr.next it str t).run P w = .ok v w1 ∧ K v w1 ∧ KO w w1 := by
  unfold nextE at h
  split at h
  case h_2 => exact h.elim
  split at h
  case h_2 => exact h.elim
  obtain ⟨r, o, rfl, h1⟩ := ptrE_spec h
  clear h
  split at h1
  case h_2 => exact h1.elim
  obtain ⟨s, i, ho, h⟩ := h1
  by_cases hi : i < s.size
  · rw [decide_eq_true hi] at h
    refine ⟨_, _, ?_, h _ rfl, KO.putObj ho rfl⟩
    simp [Instr.next, getObj, setObj, Sem.run, ho, hi, goInt, World.putObj, dcN, dcR]
  · rw [decide_eq_false hi] at h
    refine ⟨_, _, ?_, h, KOE.refl _ _⟩
    simp [Instr.next, getObj, Sem.run, ho, hi]

def opE (P : Program) (sp : List (Nat × CallSpec)) (wr : Bool) (o : Oper) (ρ : Operand → Value) (w : World) (K : Value → World → Prop) : Prop :=
  match o.op with
  | .defer _ => False
  | .alloc t => match zeroOf P t with
    | some z => ∀ b w1, New w (.cells z.cells t) b w1 → K (.pointer (some ⟨b, 0, none⟩)) w1
    | none => False
  | .box t x => ∀ b w1, New w (.cells (ρ x).cells t) b w1 → K (.pointer (some ⟨b, 0, none⟩)) w1
  | .buildSlice t len parts => match buildCells P t len (parts.map fun (i, x) => (i, ρ x)) with
    | some (e, cs) => ∀ b w1, New w (.cells cs e) b w1 → K (.slice (some ⟨b, 0, none⟩) len len) w1
    | none => False
  | .makeSlice t l c => makeSliceE P t (ρ l) (ρ c) w K
  | .store t x v => match ρ x with
    | .pointer p => if (ρ v).cells.size = P.cellsOf t ∧ (P.info? t).isSome then ptrE p fun b off => storesE b off 0 (ρ v).cells.toList w fun w1 => K undef w1 else False
    | _ => False
  | .call c => match c.callee with
    | .builtin .append => match c.args.map ρ with
      | ⟨[s, x]⟩ => appendE P c.argTypes o.type s x w K
      | _ => False
    | .builtin .copy => match c.args.map ρ with
      | ⟨[s, x]⟩ => copyE P c.argTypes o.type s x w K
      | _ => False
    | _ => match plain P (execOp ρ o) with
      | some (.value v) => forceV v fun v => K v w
      | some (.enter f args) => callE sp f args w K
      | _ => False
  | .convert s d x => textE P wr o ρ s d (ρ x) w K
  | .range t x => rangeStrE P t (ρ x) w K
  | .next it str => nextE (ρ it) str w K
  | _ => valE P wr o ρ w fun v => K v w

theorem info_zero {P : Program} {t : TypeId} {z : Value} (h : zeroOf P t = some z) (w : World) : (zeroValue t).run P w = .ok z w := by
  unfold zeroOf at h
  cases hi : P.info? t with
  | none => simp [hi] at h
  | some i => simp [hi] at h; simp [zeroValue, typeInfo, hi, h]

theorem run_stores {P : Program} {b o : Nat} : ∀ (vs : List Value) (i : Nat) (w : World) (K : World → Prop), storesE b o i vs w K → ∃ w', (storeCells ⟨b, o, none⟩ vs i).run P w = .ok () w' ∧ K w' ∧ KO w w'
  | [], i, w, K, h => ⟨w, rfl, h, KOE.refl _ _⟩
  | v :: vs, i, w, K, h => by
    obtain ⟨h1, ⟨old, h2⟩, h3, h4⟩ := h
    rw [addN_eq] at h2 h3 h4
    obtain ⟨w', h5, h6, h7⟩ := run_stores (P := P) vs (i + 1) _ K (h4 _ rfl)
    refine ⟨w', ?_, h6, (KO.setCell _ _ _).trans h7⟩
    have hone : v.oneCell' = true := by cases v <;> simp_all [oneB, Value.oneCell']
    simp [storeCells, add_lit, run_store P w _ v _ hone, h2, h3, h5]

theorem callE_spec {P : Program} {sp : List (Nat × CallSpec)} (hsp : ∀ f s, specAt sp f = some s → s.Ok P f) {f : FuncId} {args : Array Value} {w : World} {K : Value → World → Prop} (h : callE sp f args w K) :
    Calls P f args w fun e w' => ∃ v, e = .returned v ∧ K v w' ∧ KO w w' := by
  unfold callE at h
  split at h
  case h_2 => exact h.elim
  rename_i s hs
  obtain ⟨g, e1, hp, hk⟩ := h
  rw [e1]
  exact (hsp f s hs g w hp).mono fun e w' ⟨x, hx, hq, ho⟩ => ⟨_, hx, hk x w' hq, ho⟩

theorem inr_i64 {n : Int} (h1 : -9223372036854775808 ≤ n) (h2 : n ≤ 9223372036854775807) : InR .i64 n := ⟨h1, h2⟩
theorem inr_i32 {n : Int} (h1 : -2147483648 ≤ n) (h2 : n ≤ 2147483647) : InR .i32 n := ⟨h1, h2⟩
theorem inr_i8 {n : Int} (h1 : -128 ≤ n) (h2 : n ≤ 127) : InR .i8 n := ⟨h1, h2⟩
theorem inr_u8 {n : Int} (h1 : 0 ≤ n) (h2 : n ≤ 255) : InR .u8 n := ⟨h1, h2⟩

/-- 'opE' suffices for one operation that is carried out. -/
theorem opE_spec {P : Program} {sp : List (Nat × CallSpec)} (hsp : ∀ f s, specAt sp f = some s → s.Ok P f) {wr : Bool} {o : Oper} {ρ : Operand → Value} {a : Act} (ha : a.eval = ρ) {w : World} {K : Value → World → Prop} {K2 : Act → World → Prop} {Q : Exit → Act → World → Prop}
    (hK : ∀ v w', K v w' → KO w w' → K2 (a.put o.dst v) w') (h : opE P sp wr o ρ w K) : o.wp P a w K2 Q := by
  have gv : ∀ {K' : Value → Prop}, (∀ v, K' v → K v w) → (∃ v, Gives P o ρ w v ∧ K' v) → o.wp P a w K2 Q := by
    rintro K' hK' ⟨v, h1, h2⟩
    unfold Oper.wp
    rw [ha, h1 w (SeesB.refl _ w)]
    exact hK _ _ (hK' v h2) (KOE.refl _ _)
  have run1 : ∀ {s : Sem Value} {v : Value} {w1 : World}, execOp ρ o = (do pure (.value (← s))) → s.run P w = .ok v w1 → K v w1 → KO w w1 → o.wp P a w K2 Q := by
    intro s v w1 he hr hk hko
    unfold Oper.wp
    rw [ha, he]
    simp only [Sem.run_bind, hr, Result.andThen, Sem.run_pure]
    exact hK _ _ hk hko
  unfold opE at h
  split at h
  case h_11 => exact gv (fun v hv => hv) (valE_spec h)
  case h_8 =>
    rename_i s d x ho
    rcases textE_spec ho h with ⟨v, w1, hr, hk, hko⟩ | hg
    · exact run1 (s := convert s d (ρ x)) (by simp [execOp, ho]) hr hk hko
    · exact gv (fun v hv => hv) hg
  case h_9 =>
    rename_i t x ho
    unfold rangeStrE at h
    split at h
    case h_2 => exact h.elim
    rename_i hu
    split at h
    case h_2 => exact h.elim
    rename_i s hx
    refine run1 (s := Instr.range t (ρ x)) (by simp [execOp, ho]) ?_ (h _ _ ⟨rfl, rfl⟩) (KO.alloc _ _)
    rw [hx]
    simp [Instr.range, run_underlying hu]
  case h_10 =>
    rename_i it str ho
    obtain ⟨v, w1, hr, hk, hko⟩ := nextE_spec (P := P) (t := o.type) h
    exact run1 (s := Instr.next (ρ it) str o.type) (by simp [execOp, ho]) hr hk hko
  · exact h.elim
  · rename_i t ho
    split at h
    case h_2 => exact h.elim
    rename_i z hz
    refine run1 (s := Instr.alloc t true (.tuple #[])) (by simp [execOp, ho]) ?_ (h _ _ ⟨rfl, rfl⟩) (KO.alloc _ _)
    simp [Instr.alloc, info_zero hz, newVar, newRow]
  · rename_i t x ho
    refine run1 (s := Instr.box t (ρ x)) (by simp [execOp, ho]) ?_ (h _ _ ⟨rfl, rfl⟩) (KO.alloc _ _)
    simp [Instr.box, newVar, newRow]
  · rename_i t len parts ho
    split at h
    case h_2 => exact h.elim
    rename_i e cs hb
    refine run1 (s := Instr.buildSlice t len (parts.map fun (i, x) => (i, ρ x))) (by simp [execOp, ho]) ?_ (h _ _ ⟨rfl, rfl⟩) (KO.alloc _ _)
    unfold buildCells at hb
    split at hb <;> try contradiction
    rename_i e' hu
    split at hb <;> try contradiction
    rename_i inf hinf
    split at hb <;> try contradiction
    rename_i z hz
    split at hb <;> try contradiction
    rename_i hle
    split at hb <;> try contradiction
    rename_i cs' hf
    simp only [Option.some.injEq, Prod.mk.injEq] at hb
    obtain ⟨rfl, rfl⟩ := hb
    have hz' : zeroOf P e' = some z := by simp [zeroOf, hinf, hz]
    have hsz : ∀ w, (sizeOf e').run P w = .ok inf.size w := fun w => by simp [sizeOf, typeInfo, hinf]
    have hg : ¬ (len * inf.size > 2 ^ 24) := by omega
    simp only [Instr.buildSlice, Sem.run_bind, run_underlying hu, Result.andThen, hsz]
    rw [if_neg hg]
    by_cases hne : len * inf.size = 0
    · have e1 : ∀ f : Nat → Value, (Array.range (len * inf.size)).map f = #[] := fun f => by rw [hne, show Array.range 0 = #[] from Array.eq_empty_of_size_eq_zero (by simp), Array.map_empty]
      rw [e1] at hf
      simp only [Sem.run_pure, Result.andThen, if_pos hne, Sem.run_bind, e1, hf]
      simp [newRow]
    · simp only [Sem.run_pure, Result.andThen, if_neg hne, Sem.run_bind, info_zero hz', hf]
      simp [newRow]
  · rename_i t l c ho
    unfold makeSliceE at h
    split at h
    case h_2 => exact h.elim
    rename_i e hu
    split at h
    case h_2 => exact h.elim
    rename_i inf hinf
    split at h
    case h_2 => exact h.elim
    rename_i z hz
    split at h
    case h_2 => exact h.elim
    rename_i k1 lv k2 cv hl hc
    split at h
    case isFalse => exact h.elim
    rename_i hsz0
    obtain ⟨n, m, rfl, rfl, h1, h2, h3, h4⟩ := h
    refine run1 (s := Instr.makeSlice t (ρ l) (ρ c)) (by simp [execOp, ho]) ?_ (h4 _ _ ⟨rfl, rfl⟩) (KO.alloc _ _)
    rw [hl, hc]
    have hz' : zeroOf P e = some z := by simp [zeroOf, hinf, hz]
    have hwn : IntKind.i64.wrap (n : Int) = n := InR.wrap (inr_i64 (by omega) (by omega))
    have hwm : IntKind.i64.wrap (m : Int) = m := InR.wrap (inr_i64 (by omega) (by omega))
    have hb : ¬ ((inf.bytes : Int) * (m : Int) > 2 ^ 48) := by
      have : ((inf.bytes * m : Nat) : Int) ≤ 281474976710656 := by omega
      rw [Int.natCast_mul] at this
      omega
    have hneg : ¬ ((m : Int) < 0) := by omega
    have hneg' : ¬ ((n : Int) < 0) := by omega
    have hgt : ¬ ((n : Int) > (m : Int)) := by omega
    simp only [Instr.makeSlice, Sem.run_bind, run_underlying hu, Result.andThen, asInt, asIntOf, Sem.run_pure, typeInfo, run_program, hinf, hwn, hwm]
    simp only [hb, hneg, hneg', hgt, decide_false, Bool.or_self, Bool.false_eq_true, if_false]
    by_cases hm0 : m * inf.size = 0
    · simp [sizeOf, typeInfo, hinf, hm0, newRow, mkRow]
      have : m = 0 := by rcases Nat.mul_eq_zero.1 hm0 with h | h <;> omega
      subst this; rw [Nat.zero_mul, show Array.range 0 = #[] from Array.eq_empty_of_size_eq_zero (by simp), Array.map_empty, Array.map_empty]
    · simp [sizeOf, typeInfo, hinf, newRow, mkRow, info_zero hz', hsz0.1]
      intro hh
      exact absurd (by rw [hsz0.1]; exact hh) hm0
  · rename_i t x v ho
    split at h
    case h_2 => exact h.elim
    rename_i p hx
    split at h
    case isFalse => exact h.elim
    rename_i hc
    obtain ⟨b, off, rfl, h⟩ := ptrE_spec h
    obtain ⟨w', h5, h6, h7⟩ := run_stores (P := P) _ _ _ _ h
    obtain ⟨inf, hinf⟩ := Option.isSome_iff_exists.1 hc.2
    have hsz : ∀ w, (sizeOf t).run P w = .ok (P.cellsOf t) w := fun w => by simp [sizeOf, typeInfo, hinf, Program.cellsOf]
    unfold Oper.wp
    rw [ha]
    have : (execOp ρ o).run P w = .ok .skip w' := by
      simp [execOp, ho, Instr.storeAt, hx, Instr.sureAddr, storeVar, hsz, hc.1, h5]
    rw [this]
    exact hK _ _ h6 h7
  · rename_i c ho
    split at h
    · rename_i hcal
      split at h
      case h_2 => exact h.elim
      rename_i s x hargs
      obtain ⟨a', c', w', h1, ho', h2⟩ := h
      refine run1 (s := Builtin.append_ c.argTypes o.type #[s, x]) ?_ h1 h2 ho'
      simp [execOp, ho, resolve, hcal, invoke, builtin, hargs]
    · rename_i hcal
      split at h
      case h_2 => exact h.elim
      rename_i s x hargs
      obtain ⟨n, w', h1, ho', h2⟩ := h
      refine run1 (s := Builtin.copy_ c.argTypes o.type #[s, x]) ?_ h1 h2 ho'
      simp [execOp, ho, resolve, hcal, invoke, builtin, hargs]
    · split at h
      case h_3 => exact h.elim
      · rename_i v hv
        unfold Oper.wp
        rw [ha, plain_run _ hv w]
        rw [forceV_eq] at h
        exact hK _ _ h (KOE.refl _ _)
      · rename_i f args hv
        unfold Oper.wp
        rw [ha, plain_run _ hv w]
        exact (callE_spec hsp h).mono fun e w' ⟨v, he, hk, hko⟩ => by subst he; exact hK _ _ hk hko

end Go.Proofs.YthkcphnkllnfcaaDoor.Vc
