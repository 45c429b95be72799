/- The core of a small calculus of weakest preconditions for this model's code: nodes for single operations, each with its proof that it says no more than the model's run of the operation. No condition. -/
import Derived.WalkKit
import Derived.Orders
import Derived.KernelRfl
set_option linter.unusedSimpArgs false
namespace Cv
open Go

@[reducible] def Env := Nat → Value

def put (ρ : Env) : Option Nat → Value → Env
  | none, _ => ρ
  | some d, v => fun i => bif Nat.beq i d then v else ρ i

def ev (ρ : Env) : Operand → Value
  | .tmp t => ρ t
  | .const v => v
  | .global g => .pointer (some ⟨g, 0, none⟩)
  | .func f => .func (.func f) #[] #[]

/-- The run of a computation that looks at no world. -/
def freeRun {α : Type} (P : Program) : Sem α → Option α
  | .pure a => some a
  | .program k => freeRun P (k P)
  | .mark _ k => freeRun P k
  | _ => none

theorem freeRun_run {α : Type} {P : Program} : ∀ {s : Sem α} {a : α}, freeRun P s = some a → ∀ w, s.run P w = .ok a w := by
  intro s
  induction s with
  | pure a => intro b h w; simp only [freeRun, Option.some.injEq] at h; subst h; rfl
  | program k ih => intro b h w; simp only [freeRun] at h; exact ih _ h w
  | mark m k ih => intro b h w; simp only [freeRun] at h; exact ih h w
  | _ => intro b h w; simp [freeRun] at h

theorem run_bind {α β : Type} (P : Program) (s : Sem α) (f : α → Sem β) (w : World) : (s.bind f).run P w = match s.run P w with | .ok a w' => (f a).run P w' | .halt h w' => .halt h w' := by
  induction s generalizing w with
  | pure a => rfl
  | halt h => rfl
  | load m a k ih => simp only [Sem.bind, Sem.run]; split <;> first | exact ih _ _ | (split <;> first | exact ih _ _ | rfl)
  | store m a v k ih =>
    cases v <;> simp only [Sem.bind, Sem.run] <;> first | rfl | (split <;> first | (split <;> first | exact ih _ | rfl))
  | new o k ih => exact ih _ _
  | shape r k ih => exact ih _ _
  | freeze a n k ih => exact ih _
  | frozen a k ih => exact ih _ _
  | getObj r k ih => simp only [Sem.bind, Sem.run]; split <;> first | rfl | exact ih _ _
  | setObj r o k ih => simp only [Sem.bind, Sem.run]; split <;> first | rfl | exact ih _
  | choose q k ih => simp only [Sem.bind, Sem.run]; split <;> exact ih _ _
  | sys c k ih => exact ih _ _
  | program k ih => exact ih _ _
  | mark m k ih => exact ih _

/-! ### Shapes: what a value of a type is made of -/

inductive Sh where
  | int (k : IntKind) | bool | str | ptr | sl | map | any

def cellSh : Value → Sh
  | .int k _ => .int k
  | .bool _ => .bool
  | .string _ => .str
  | .pointer _ => .ptr
  | .slice _ _ _ => .sl
  | .map _ => .map
  | _ => .any

def exC : Sh → (Value → Prop) → Prop
  | .int k, K => ∃ n : Int, K (.int k n)
  | .bool, K => ∃ b : Bool, K (.bool b)
  | .str, K => ∃ s : ByteArray, K (.string s)
  | .ptr, K => ∃ a : Option Addr, K (.pointer a)
  | .sl, K => ∃ (a : Option Addr) (n c : Nat), K (.slice a n c)
  | .map, K => ∃ r : Option Nat, K (.map r)
  | .any, K => ∃ v : Value, K v

theorem exC_out {s : Sh} {K : Value → Prop} (h : exC s K) : ∃ v, K v := by
  cases s <;> simp only [exC] at h <;> first | (obtain ⟨n, h⟩ := h; exact ⟨_, h⟩) | (obtain ⟨a, n, c, h⟩ := h; exact ⟨_, h⟩)

def exL : List Value → (List Value → Prop) → Prop
  | [], K => K []
  | z :: zs, K => exC (cellSh z) fun v => exL zs fun vs => K (v :: vs)

theorem exL_out : ∀ {zs : List Value} {K : List Value → Prop}, exL zs K → ∃ vs, K vs
  | [], _, h => ⟨_, h⟩
  | _ :: _, _, h => let ⟨_, h1⟩ := exC_out h; let ⟨_, h2⟩ := exL_out h1; ⟨_, h2⟩

/-- The parts of a great struct, by their places. -/
structure Raw where
  i : Nat → Int
  b : Nat → Bool
  s : Nat → ByteArray
  p : Nat → Option Addr
  a : Nat → Option Addr
  n : Nat → Nat
  k : Nat → Nat
  m : Nat → Option Nat
  v : Nat → Value

def Raw.cell (r : Raw) (j : Nat) : Value → Value
  | .int k _ => .int k (r.i j)
  | .bool _ => .bool (r.b j)
  | .string _ => .string (r.s j)
  | .pointer _ => .pointer (r.p j)
  | .slice _ _ _ => .slice (r.a j) (r.n j) (r.k j)
  | .map _ => .map (r.m j)
  | _ => r.v j

def rawL (r : Raw) : List Value → Nat → List Value
  | [], _ => []
  | z :: zs, j => r.cell j z :: rawL r zs (j + 1)

def rawV (z : Value) (r : Raw) : Value :=
  match z with
  | .agg cs => .agg (rawL r cs.toList 0).toArray
  | z => z

def exV : Value → (Value → Prop) → Prop
  | .agg cs, K => bif Nat.ble cs.size 9 then exL cs.toList fun vs => K (.agg vs.toArray) else ∃ r : Raw, K (rawV (.agg cs) r)
  | z, K => exC (cellSh z) K

theorem exV_out {z : Value} {K : Value → Prop} (h : exV z K) : ∃ v, K v := by
  cases z <;> simp only [exV] at h <;> first
    | exact exC_out h
    | (revert h; cases Nat.ble _ 9 <;> intro h
       · obtain ⟨r, h⟩ := h; exact ⟨_, h⟩
       · obtain ⟨_, h⟩ := exL_out h; exact ⟨_, h⟩)

def zeroOf (P : Program) (t : TypeId) : Value :=
  match P.info? t with
  | some i => i.zero.getD undef
  | none => undef

def exT (P : Program) (t : TypeId) (K : Value → Prop) : Prop := exV (zeroOf P t) K

def exTs (P : Program) : List TypeId → (List Value → Prop) → Prop
  | [], K => K []
  | t :: ts, K => exT P t fun v => exTs P ts fun vs => K (v :: vs)

theorem exTs_out {P : Program} : ∀ {ts : List TypeId} {K : List Value → Prop}, exTs P ts K → ∃ vs, K vs
  | [], _, h => ⟨_, h⟩
  | _ :: _, _, h => let ⟨_, h1⟩ := exV_out h; let ⟨_, h2⟩ := exTs_out h1; ⟨_, h2⟩

def exR (P : Program) (t : TypeId) (K : Value → Prop) : Prop :=
  match P.underlying t with
  | some (.tuple ts) => exTs P ts.toList fun vs => K (.tuple vs.toArray)
  | _ => exT P t K

theorem exR_out {P : Program} {t : TypeId} {K : Value → Prop} (h : exR P t K) : ∃ v, K v := by
  unfold exR at h; split at h
  · obtain ⟨_, h⟩ := exTs_out h; exact ⟨_, h⟩
  · exact exV_out h

/-! ### Operations that look at no world -/

/-- The cells of an element of a slice's type; of an array's type: how many elements, and the cells of one. -/
def slElem (P : Program) (t : TypeId) : Option Nat :=
  match P.underlying t with
  | some (.slice e) => (P.info? e).map fun (x : TypeInfo) => x.size
  | _ => none

def arrElem (P : Program) (t : TypeId) : Option (Nat × Nat) :=
  match P.underlying t with
  | some (.array n e) => (P.info? e).map fun (x : TypeInfo) => (n, x.size)
  | _ => none

def nilN (p : Option Addr) (K : Addr → Prop) : Prop :=
  match p with
  | some a => K a
  | none => False

def idxN (p : Option Addr) (n : Nat) (i : Int) (K : Addr → Prop) : Prop :=
  match p with
  | some a => (0 ≤ i ∧ i < n) ∧ K a
  | none => False

def strIdx (s : ByteArray) (i : Int) (K : UInt8 → Prop) : Prop := ∃ b : UInt8, (0 ≤ i ∧ s[i.toNat]? = some b) ∧ K b

/-- A slice of a slice: its bounds, and what it is. -/
def slN (p : Option Addr) (n c : Nat) (lo hi : Option Int) (sz : Nat) (K : Option Addr → Nat → Nat → Prop) : Prop :=
  match lo, hi with
  | none, none => (n ≤ c) ∧ K p n c
  | some l, none => (0 ≤ l ∧ l ≤ n ∧ n ≤ c) ∧ K (if c = l.toNat then p else p.map (·.add (l.toNat * sz))) (n - l.toNat) (c - l.toNat)
  | none, some h => (0 ≤ h ∧ h ≤ c) ∧ K p h.toNat c
  | some l, some h => (0 ≤ l ∧ l ≤ h ∧ h ≤ c) ∧ K (if c = l.toNat then p else p.map (·.add (l.toNat * sz))) (h.toNat - l.toNat) (c - l.toNat)

/-- A slice of a slice with three bounds. -/
def sl3N (p : Option Addr) (c : Nat) (l h m : Int) (sz : Nat) (K : Option Addr → Nat → Nat → Prop) : Prop :=
  (0 ≤ l ∧ l ≤ h ∧ h ≤ m ∧ m ≤ c) ∧ K (if m.toNat = l.toNat then p else p.map (·.add (l.toNat * sz))) (h.toNat - l.toNat) (m.toNat - l.toNat)

def strSl (s : ByteArray) (lo hi : Option Int) (K : ByteArray → Prop) : Prop :=
  match lo, hi with
  | none, none => K s
  | some l, none => (0 ≤ l ∧ l ≤ s.size) ∧ K (s.extract l.toNat s.size)
  | none, some h => (0 ≤ h ∧ h ≤ s.size) ∧ K (s.extract 0 h.toNat)
  | some l, some h => (0 ≤ l ∧ l ≤ h ∧ h ≤ s.size) ∧ K (s.extract l.toNat h.toNat)

/-- A bound of a slice expression, once it is looked at: none; a number; or no number. -/
def bnd (ρ : Env) : Option Operand → Option (Option Int)
  | none => some none
  | some x => match ev ρ x with
    | .int _ n => some (some n)
    | _ => none

def bndN (l h : Option (Option Int)) (K : Option Int → Option Int → Prop) : Prop :=
  match l, h with
  | some l, some h => K l h
  | _, _ => False

/-- What a comparison with nil says. -/
def nilEq (P : Program) (t : TypeId) (x : Value) : Option Bool :=
  match P.underlying t, x with
  | some (.pointer _), .pointer p => some p.isNone
  | some (.slice _), .slice p _ _ => some p.isNone
  | some (.map _ _), .map r => some r.isNone
  | _, _ => none

def isNil : Value → Bool
  | .pointer none => true
  | .slice none _ _ => true
  | .map none => true
  | _ => false

def nilP : Value → Bool
  | .pointer none => true
  | _ => false
def nilS : Value → Bool
  | .slice none _ _ => true
  | _ => false
def nilM : Value → Bool
  | .map none => true
  | _ => false

def freeV (P : Program) (s : Sem Next) (K : Value → Prop) : Prop :=
  match freeRun P s with
  | some (.value v) => K v
  | _ => False

/-- A comparison of two values that are made of parts. -/
def eqAgg (P : Program) (neg : Bool) (t : TypeId) (x y : Value) (K : Bool → Prop) : Prop :=
  ∃ b : Bool, freeRun P (Op.equal t x y) = some b ∧ freeRun P (eqGuard (if neg then .neq else .eql) t (.tmp 0) (.tmp 0) x y) = some () ∧
    (match y with | .agg _ => true | _ => false) = true ∧ K (if neg then !b else b)

def optN (o : Option Bool) (K : Bool → Prop) : Prop :=
  match o with
  | some r => K r
  | none => False

theorem optN_out {o : Option Bool} {K : Bool → Prop} (h : optN o K) : ∃ r, o = some r ∧ K r := by
  cases o with
  | none => exact h.elim
  | some r => exact ⟨r, rfl, h⟩

def divN (k k' : IntKind) (b : Int) (A : Prop) : Prop := k = k' ∧ b ≠ 0 ∧ A
def shN (b : Int) (A : Prop) : Prop := 0 ≤ b ∧ A
def catN (a b : ByteArray) (A : Prop) : Prop := (((a.size + b.size : Nat) : Int) ≤ IntKind.i64.max) ∧ A
def eqK (k k' : IntKind) (A : Prop) : Prop :=
  match k, k' with
  | .i8, .i8 => A
  | .i16, .i16 => A
  | .i32, .i32 => A
  | .i64, .i64 => A
  | .u8, .u8 => A
  | .u16, .u16 => A
  | .u32, .u32 => A
  | .u64, .u64 => A
  | _, _ => False

theorem eqK_out {k k' : IntKind} {A : Prop} (h : eqK k k' A) : k = k' ∧ A := by
  cases k <;> cases k' <;> first | exact ⟨rfl, h⟩ | exact h.elim

def iShl (k : IntKind) (a b : Int) : Int := k.wrap (a * 2 ^ (min b.toNat k.bits))
def iShr (k : IntKind) (a b : Int) : Int := a.fdiv (2 ^ (min b.toNat k.bits))
def iAnd (k : IntKind) (a b : Int) : Int := k.wrap ((BitVec.ofInt k.bits a &&& BitVec.ofInt k.bits b).toNat : Int)
def iOr (k : IntKind) (a b : Int) : Int := k.wrap ((BitVec.ofInt k.bits a ||| BitVec.ofInt k.bits b).toNat : Int)
def iXor (k : IntKind) (a b : Int) : Int := k.wrap ((BitVec.ofInt k.bits a ^^^ BitVec.ofInt k.bits b).toNat : Int)
def iAndNot (k : IntKind) (a b : Int) : Int := k.wrap ((BitVec.ofInt k.bits a &&& ~~~ BitVec.ofInt k.bits b).toNat : Int)

def pval (P : Program) (o : Oper) (ρ : Env) (K : Value → Prop) : Prop :=
  match o.op with
  | .move x => K (ev ρ x)
  | .assign x => K (ev ρ x)
  | .pick c a b =>
    match ev ρ c with
    | .bool t => K (bif t then ev ρ a else ev ρ b)
    | _ => False
  | .nilCheck x =>
    match ev ρ x with
    | .pointer p => nilN p fun a => K (.pointer (some a))
    | _ => freeV P (execOp (ev ρ) o) K
  | .indexAddr t x i =>
    match ev ρ x, ev ρ i with
    | .slice p n _, .int _ i => match slElem P t with
      | some sz => idxN p n i fun a => K (.pointer (some (a.add (i.toNat * sz))))
      | none => False
    | .pointer p, .int _ i => match arrElem P t with
      | some (len, sz) => idxN p len i fun a => K (.pointer (some (a.add (i.toNat * sz))))
      | none => False
    | _, _ => False
  | .index t x i =>
    match ev ρ x, ev ρ i with
    | .string s, .int _ i => match P.underlying t with
      | some .string => strIdx s i fun b => K (.int .u8 b.toNat)
      | _ => False
    | x, j => match i with
      | .const _ => freeV P (execOp (ev ρ) o) K
      | _ => exT P o.type fun v => freeRun P (Instr.index t x j) = some v ∧ K v
  | .panic _ => False
  | .typeAssert x xT asserted ok =>
    match ok with
    | true => exT P asserted fun v => exC .bool fun b => freeRun P (Instr.typeAssert (ev ρ x) xT asserted true) = some (.tuple #[v, b]) ∧ K (.tuple #[v, b])
    | false => exT P asserted fun v => freeRun P (Instr.typeAssert (ev ρ x) xT asserted false) = some v ∧ K v
  | .slice t x lo hi mx =>
    match ev ρ x, mx with
    | .slice p _ c, some m => match slElem P t, bnd ρ lo, bnd ρ hi, ev ρ m with
      | some sz, some (some l), some (some h), .int _ m => sl3N p c l h m sz fun p n c => K (.slice p n c)
      | _, _, _, _ => False
    | .slice p n c, none => match slElem P t with
      | some sz => bndN (bnd ρ lo) (bnd ρ hi) fun l h => slN p n c l h sz fun p n c => K (.slice p n c)
      | none => False
    | .string s, none => match P.underlying t with
      | some .string => bndN (bnd ρ lo) (bnd ρ hi) fun l h => strSl s l h fun s => K (.string s)
      | _ => False
    | .pointer p, none => match arrElem P t with
      | some (n, sz) => nilN p fun a => bndN (bnd ρ lo) (bnd ρ hi) fun l h => slN (some a) n n l h sz fun p n c => K (.slice p n c)
      | none => False
    | _, _ => False
  | .binOp op t x y _ =>
    match op, ev ρ x, ev ρ y with
    | .quo, .int k a, .int k' b => divN k k' b (K (.int k (k.wrap (a.tdiv b))))
    | .rem, .int k a, .int k' b => divN k k' b (K (.int k (a.tmod b)))
    | .shl, .int k a, .int _ b => shN b (K (.int k (iShl k a b)))
    | .shr, .int k a, .int _ b => shN b (K (.int k (iShr k a b)))
    | .and, .int k a, .int k' b => eqK k k' (K (.int k (iAnd k a b)))
    | .or, .int k a, .int k' b => eqK k k' (K (.int k (iOr k a b)))
    | .xor, .int k a, .int k' b => eqK k k' (K (.int k (iXor k a b)))
    | .andNot, .int k a, .int k' b => eqK k k' (K (.int k (iAndNot k a b)))
    | .add, .string a, .string b => catN a b (K (.string (a ++ b)))
    | .eql, .pointer p, b => bif nilP b then (optN (nilEq P t (.pointer p)) fun r => K (.bool r)) else False
    | .neq, .pointer p, b => bif nilP b then (optN (nilEq P t (.pointer p)) fun r => K (.bool !r)) else False
    | .eql, .slice p n c, b => bif nilS b then (optN (nilEq P t (.slice p n c)) fun r => K (.bool r)) else False
    | .neq, .slice p n c, b => bif nilS b then (optN (nilEq P t (.slice p n c)) fun r => K (.bool !r)) else False
    | .eql, .map r, b => bif nilM b then (optN (nilEq P t (.map r)) fun r => K (.bool r)) else False
    | .neq, .map r, b => bif nilM b then (optN (nilEq P t (.map r)) fun r => K (.bool !r)) else False
    | .eql, .agg a, b => eqAgg P false t (.agg a) b fun r => K (.bool r)
    | .neq, .agg a, b => eqAgg P true t (.agg a) b fun r => K (.bool r)
    | _, _, _ => freeV P (execOp (ev ρ) o) K
  | _ => freeV P (execOp (ev ρ) o) K

/-- The run gives this value, in whatever world, and leaves the world. -/
def Free (P : Program) (s : Sem Next) (v : Value) : Prop := ∀ w, s.run P w = .ok (.value v) w

theorem free_of_freeV {P : Program} {s : Sem Next} {K : Value → Prop} (h : freeV P s K) : ∃ v, K v ∧ Free P s v := by
  unfold freeV at h
  split at h
  · rename_i v hv; exact ⟨v, h, freeRun_run hv⟩
  · exact h.elim

theorem Addr.add_zero (a : Addr) : a.add 0 = a := by simp [Addr.add]
theorem map_add_zero (p : Option Addr) : p.map (·.add 0) = p := by cases p <;> simp [Addr.add_zero]


theorem run_value {P : Program} {s : Sem Value} {v : Value} (h : ∀ w, s.run P w = .ok v w) : Free P (do pure (Next.value (← s))) v := by
  intro w
  show (s.bind fun a => .pure (Next.value a)).run P w = _
  rw [run_bind, h w]
  rfl

theorem slElem_some {P : Program} {t : TypeId} {sz : Nat} (h : slElem P t = some sz) : ∃ e i, P.underlying t = some (.slice e) ∧ P.info? e = some i ∧ i.size = sz := by
  unfold slElem at h
  split at h
  · rename_i e he
    cases hi : P.info? e with
    | none => simp [hi] at h
    | some i => simp [hi] at h; exact ⟨e, i, he, hi, h⟩
  · cases h

theorem arrElem_some {P : Program} {t : TypeId} {n sz : Nat} (h : arrElem P t = some (n, sz)) : ∃ e i, P.underlying t = some (.array n e) ∧ P.info? e = some i ∧ i.size = sz := by
  unfold arrElem at h
  split at h
  · rename_i m e he
    cases hi : P.info? e with
    | none => simp [hi] at h
    | some i => simp [hi] at h; obtain ⟨rfl, h⟩ := h; exact ⟨e, i, he, hi, h⟩
  · cases h

theorem run_underlying {P : Program} {t : TypeId} {d : TypeDesc} (h : P.underlying t = some d) (w : World) : (underlying t).run P w = .ok d w := by
  show ((Sem.program Sem.pure).bind fun p => match p.underlying t with | some d => Sem.pure d | none => stuck "no such type").run P w = _
  simp only [Sem.bind, Sem.run, h]

theorem run_sizeOf {P : Program} {t : TypeId} {i : TypeInfo} (h : P.info? t = some i) (w : World) : (Go.sizeOf t).run P w = .ok i.size w := by
  have hti : (typeInfo t).run P w = .ok i w := by
    unfold typeInfo
    show ((Sem.program Sem.pure).bind _).run P w = _
    simp only [Sem.bind, Sem.run, h]
    rfl
  show ((typeInfo t).bind fun i => Sem.pure i.size).run P w = _
  rw [run_bind, hti]
  rfl

theorem run_indexAt_slice {P : Program} {t : TypeId} {sz n c : Nat} {a : Addr} {k : IntKind} {i : Int} (h : slElem P t = some sz) (hi : 0 ≤ i ∧ i < n) (w : World) :
    (Instr.indexAt t (.slice (some a) n c) (.int k i)).run P w = .ok (.pointer (some (a.add (i.toNat * sz)))) w := by
  obtain ⟨e, ti, h1, h2, rfl⟩ := slElem_some h
  simp only [Instr.indexAt, asIntOf, bind, pure, run_bind, Sem.bind, Sem.run, run_underlying h1, if_pos hi, run_sizeOf h2]

theorem run_indexAt_array {P : Program} {t : TypeId} {sz n : Nat} {a : Addr} {k : IntKind} {i : Int} (h : arrElem P t = some (n, sz)) (hi : 0 ≤ i ∧ i < n) (w : World) :
    (Instr.indexAt t (.pointer (some a)) (.int k i)).run P w = .ok (.pointer (some (a.add (i.toNat * sz)))) w := by
  obtain ⟨e, ti, h1, h2, rfl⟩ := arrElem_some h
  simp only [Instr.indexAt, asIntOf, Instr.sureAddr, bind, pure, run_bind, Sem.bind, Sem.run, run_underlying h1, if_pos hi, run_sizeOf h2]


theorem run_sliceBound {P : Program} {k : IntKind} {i : Int} {y : Nat} {code : BoundsCode} (h : 0 ≤ i ∧ i ≤ y) (w : World) : (Instr.sliceBound (.int k i) y code).run P w = .ok i.toNat w := by
  simp only [Instr.sliceBound, asIntOf, bind, pure, Sem.bind, Sem.run, if_pos h]

theorem bnd_some {ρ : Env} {x : Option Operand} {r : Option Int} (h : bnd ρ x = some r) : (x = none ∧ r = none) ∨ ∃ y k n, x = some y ∧ ev ρ y = .int k n ∧ r = some n := by
  unfold bnd at h
  split at h
  · left; exact ⟨rfl, by simpa using h.symm⟩
  · rename_i y
    right
    split at h
    · rename_i k n hv; exact ⟨y, k, n, rfl, hv, by simpa using h.symm⟩
    · cases h

theorem bndN_out {l h : Option (Option Int)} {K : Option Int → Option Int → Prop} (hh : bndN l h K) : ∃ a b, l = some a ∧ h = some b ∧ K a b := by
  unfold bndN at hh
  split at hh
  · rename_i a b; exact ⟨a, b, rfl, rfl, hh⟩
  · exact hh.elim

theorem run_bounds {P : Program} {ρ : Env} {lo hi : Option Operand} {l h : Option Int} (isSlice : Bool) {len cap : Nat} (h1 : bnd ρ lo = some l) (h2 : bnd ρ hi = some h)
    (hlen : h = none → len ≤ cap) (hh : ∀ x, h = some x → 0 ≤ x ∧ x ≤ cap) (hl : ∀ x, l = some x → 0 ≤ x ∧ x ≤ ((h.map Int.toNat).getD len : Nat)) (w : World) :
    (Instr.sliceBounds isSlice len cap (lo.map (ev ρ)) (hi.map (ev ρ)) none).run P w = .ok ((l.map Int.toNat).getD 0, (h.map Int.toNat).getD len, cap) w := by
  rcases bnd_some h1 with ⟨rfl, rfl⟩ | ⟨x, k, n, rfl, hx, rfl⟩ <;> rcases bnd_some h2 with ⟨rfl, rfl⟩ | ⟨y, k', m, rfl, hy, rfl⟩
  · simp only [Instr.sliceBounds, Option.map_none, bind, pure, Sem.bind, Sem.run, run_bind, Option.getD_none]
  · have := hh m rfl
    simp only [Instr.sliceBounds, Option.map_none, Option.map_some, hy, bind, pure, Sem.bind, Sem.run, run_bind, Option.getD_none, run_sliceBound this, Option.getD_some]
  · have h3 := hl n rfl
    simp only [Option.map_none, Option.getD_none] at h3
    simp only [Instr.sliceBounds, Option.map_none, Option.map_some, hx, bind, pure, Sem.bind, Sem.run, run_bind, Option.getD_none, run_sliceBound h3, Option.getD_some]
  · have h3 := hl n rfl
    have h4 := hh m rfl
    simp only [Option.map_some, Option.getD_some] at h3
    simp only [Instr.sliceBounds, Option.map_some, hx, hy, bind, pure, Sem.bind, Sem.run, run_bind, run_sliceBound h3, run_sliceBound h4, Option.getD_some]

theorem slN_out {p : Option Addr} {n c : Nat} {l h : Option Int} {sz : Nat} {K : Option Addr → Nat → Nat → Prop} (hk : slN p n c l h sz K) :
    (h = none → n ≤ c) ∧ (∀ x, h = some x → 0 ≤ x ∧ x ≤ c) ∧ (∀ x, l = some x → 0 ≤ x ∧ x ≤ ((h.map Int.toNat).getD n : Nat)) ∧
    K (if c = (l.map Int.toNat).getD 0 then p else p.map (·.add ((l.map Int.toNat).getD 0 * sz))) ((h.map Int.toNat).getD n - (l.map Int.toNat).getD 0) (c - (l.map Int.toNat).getD 0) := by
  unfold slN at hk
  split at hk
  · refine ⟨fun _ => hk.1, by simp, by simp, ?_⟩
    simpa [map_add_zero] using hk.2
  · refine ⟨fun _ => hk.1.2.2, by simp, ?_, by simpa using hk.2⟩
    intro x hx; cases hx; simp; omega
  · refine ⟨by simp, ?_, by simp, by simpa [map_add_zero] using hk.2⟩
    intro x hx; cases hx; omega
  · refine ⟨by simp, ?_, ?_, by simpa using hk.2⟩
    · intro x hx; cases hx; omega
    · intro x hx; cases hx; simp; omega

theorem pval_slice {P : Program} {ρ : Env} {t : TypeId} {x : Operand} {lo hi : Option Operand} {o : Oper} {K : Value → Prop} (ho : o.op = .slice t x lo hi none)
    (h : pval P o ρ K) : ∃ v, K v ∧ Free P (execOp (ev ρ) o) v := by
  simp only [pval, ho] at h
  split at h
  · rename_i heq; cases heq
  · rename_i p n c hx _
    split at h
    · rename_i sz hsz
      obtain ⟨l, u, h1, h2, h3⟩ := bndN_out h
      obtain ⟨q1, q2, q3, q4⟩ := slN_out h3
      obtain ⟨e, ti, e1, e2, rfl⟩ := slElem_some hsz
      refine ⟨_, q4, ?_⟩
      simp only [execOp, ho]
      refine run_value fun w => ?_
      simp only [Instr.sliceAt, Instr.slice, hx, bind, pure, Sem.bind, Sem.run, run_bind, run_underlying e1, Option.map_none, run_bounds true h1 h2 q1 q2 q3, run_sizeOf e2]
    · exact h.elim
  · rename_i s hx _
    split at h
    · rename_i ht
      obtain ⟨l, u, h1, h2, h3⟩ := bndN_out h
      have q : (∀ x, u = some x → 0 ≤ x ∧ x ≤ s.size) ∧ (∀ x, l = some x → 0 ≤ x ∧ x ≤ ((u.map Int.toNat).getD s.size : Nat)) ∧ K (.string (s.extract ((l.map Int.toNat).getD 0) ((u.map Int.toNat).getD s.size))) := by
        unfold strSl at h3
        split at h3
        · refine ⟨by simp, by simp, ?_⟩
          have : s.extract 0 s.size = s := by simp
          simpa [this] using h3
        · refine ⟨by simp, ?_, by simpa using h3.2⟩
          intro x hx; cases hx; simp; omega
        · refine ⟨?_, by simp, by simpa using h3.2⟩
          intro x hx; cases hx; omega
        · refine ⟨?_, ?_, by simpa using h3.2⟩
          · intro x hx; cases hx; omega
          · intro x hx; cases hx; simp; omega
      obtain ⟨q2, q3, q4⟩ := q
      refine ⟨_, q4, ?_⟩
      simp only [execOp, ho]
      refine run_value fun w => ?_
      simp only [Instr.sliceAt, Instr.slice, hx, bind, pure, Sem.bind, Sem.run, run_bind, run_underlying ht, Option.map_none, Option.isSome_none, Bool.false_eq_true, if_false, run_bounds false h1 h2 (fun _ => Nat.le_refl _) q2 q3]
    · exact h.elim
  · rename_i p hx _
    split at h
    · rename_i n sz hsz
      unfold nilN at h
      split at h
      · rename_i a
        obtain ⟨l, u, h1, h2, h3⟩ := bndN_out h
        obtain ⟨q1, q2, q3, q4⟩ := slN_out h3
        obtain ⟨e, ti, e1, e2, rfl⟩ := arrElem_some hsz
        refine ⟨_, q4, ?_⟩
        simp only [execOp, ho]
        refine run_value fun w => ?_
        simp only [Instr.sliceAt, Instr.sureAddr, hx, bind, pure, Sem.bind, Sem.run, run_bind, run_underlying e1, Option.map_none, run_bounds false h1 h2 q1 q2 q3, run_sizeOf e2]
        split <;> simp
      · exact h.elim
    · exact h.elim
  · exact h.elim

theorem equal_succ (t : TypeId) (x y : Value) : Op.equal t x y = Op.equalIn (9999 + 1) t x y := rfl

theorem run_nilEq_ptr {P : Program} {t : TypeId} {p : Option Addr} {r : Bool} (h : nilEq P t (.pointer p) = some r) (w : World) : (Op.equal t (.pointer p) (.pointer none)).run P w = .ok r w := by
  have hu : r = p.isNone ∧ ∃ d, P.underlying t = some d ∧ (match d with | .pointer _ => True | _ => False) := by
    unfold nilEq at h
    cases hd : P.underlying t with
    | none => simp [hd] at h
    | some d => cases d <;> simp [hd] at h; exact ⟨h.symm, _, rfl, trivial⟩
  obtain ⟨rfl, d, hd, hm⟩ := hu
  cases d <;> first | exact hm.elim | skip
  rw [equal_succ]
  generalize 9999 = d
  unfold Op.equalIn
  simp only [bind, pure, run_bind, run_underlying hd]
  cases p <;> rfl

theorem run_nilEq_slice {P : Program} {t : TypeId} {p : Option Addr} {n c m k : Nat} {r : Bool} (h : nilEq P t (.slice p n c) = some r) (w : World) : (Op.equal t (.slice p n c) (.slice none m k)).run P w = .ok r w := by
  have hu : r = p.isNone ∧ ∃ d, P.underlying t = some d ∧ (match d with | .slice _ => True | _ => False) := by
    unfold nilEq at h
    cases hd : P.underlying t with
    | none => simp [hd] at h
    | some d => cases d <;> simp [hd] at h; exact ⟨h.symm, _, rfl, trivial⟩
  obtain ⟨rfl, d, hd, hm⟩ := hu
  cases d <;> first | exact hm.elim | skip
  rw [equal_succ]
  generalize 9999 = d
  unfold Op.equalIn
  simp only [bind, pure, run_bind, run_underlying hd]
  cases p <;> rfl

theorem run_nilEq_map {P : Program} {t : TypeId} {p : Option Nat} {r : Bool} (h : nilEq P t (.map p) = some r) (w : World) : (Op.equal t (.map p) (.map none)).run P w = .ok r w := by
  have hu : r = p.isNone ∧ ∃ d, P.underlying t = some d ∧ (match d with | .map _ _ => True | _ => False) := by
    unfold nilEq at h
    cases hd : P.underlying t with
    | none => simp [hd] at h
    | some d => cases d <;> simp [hd] at h; exact ⟨h.symm, _, rfl, trivial⟩
  obtain ⟨rfl, d, hd, hm⟩ := hu
  cases d <;> first | exact hm.elim | skip
  rw [equal_succ]
  generalize 9999 = d
  unfold Op.equalIn
  simp only [bind, pure, run_bind, run_underlying hd]
  cases p <;> rfl

theorem isNil_cases {y : Value} (h : isNil y = true) : y = .pointer none ∨ (∃ n c, y = .slice none n c) ∨ y = .map none := by
  cases y <;> simp [isNil] at h
  · rename_i a; cases a <;> simp at h ⊢
  · rename_i a n c; cases a <;> simp at h ⊢
  · rename_i a; cases a <;> simp at h ⊢

theorem nilN_out {p : Option Addr} {K : Addr → Prop} (h : nilN p K) : ∃ a, p = some a ∧ K a := by
  cases p with
  | none => exact h.elim
  | some a => exact ⟨a, rfl, h⟩

theorem idxN_out {p : Option Addr} {n : Nat} {i : Int} {K : Addr → Prop} (h : idxN p n i K) : ∃ a, p = some a ∧ (0 ≤ i ∧ i < n) ∧ K a := by
  cases p with
  | none => exact h.elim
  | some a => exact ⟨a, rfl, h⟩

theorem run_binEq {P : Program} {o : Oper} {ρ : Env} {neg : Bool} {t : TypeId} {x y : Operand} {u : TypeId} {r : Bool} (ho : o.op = .binOp (if neg then .neq else .eql) t x y u)
    (hx : match ev ρ x with | .pointer _ => True | .slice _ _ _ => True | .map _ => True | .agg _ => True | _ => False)
    (hy : match ev ρ y with | .pointer _ => True | .slice _ _ _ => True | .map _ => True | .agg _ => True | _ => False)
    (hg : ∀ w, (eqGuard (if neg then .neq else .eql) t x y (ev ρ x) (ev ρ y)).run P w = .ok () w)
    (he : ∀ w, (Op.equal t (ev ρ x) (ev ρ y)).run P w = .ok r w) : Free P (execOp (ev ρ) o) (.bool (if neg then !r else r)) := by
  simp only [execOp, ho]
  refine run_value fun w => ?_
  simp only [bind, run_bind, hg w]
  generalize ev ρ x = a at *
  generalize ev ρ y = b at *
  cases neg <;> cases a <;> (first | exact hx.elim | skip) <;> cases b <;> (first | exact hy.elim | skip) <;> simp only [binOp, Bool.false_eq_true, if_false, if_true, bind, pure, run_bind, he w, Sem.run]

theorem eqGuard_any {P : Program} {op : BinOp} {t : TypeId} {x y x' y' : Operand} {a b : Value} (ha : a ≠ .nilIface) (w : World) :
    (eqGuard op t x y a b).run P w = (eqGuard op t x' y' a b).run P w := by
  cases a <;> first | exact (ha rfl).elim | skip
  all_goals cases op <;> first | rfl | (cases b <;> rfl)

theorem eqGuard_plain {P : Program} {op : BinOp} {t : TypeId} {x y : Operand} {a b : Value} (ha : match a with | .pointer _ => True | .slice _ _ _ => True | .map _ => True | _ => False) (w : World) :
    (eqGuard op t x y a b).run P w = .ok () w := by
  cases a <;> first | exact ha.elim | (cases op <;> rfl)

theorem nilEq_kind {P : Program} {t : TypeId} {x y : Value} {r : Bool} (hy : isNil y = true) (h : nilEq P t x = some r)
    (hk : (∃ p q, x = .pointer p ∧ y = .pointer q) ∨ (∃ p n c q m d, x = .slice p n c ∧ y = .slice q m d) ∨ (∃ p q, x = .map p ∧ y = .map q)) (w : World) :
    (Op.equal t x y).run P w = .ok r w := by
  rcases hk with ⟨p, q, rfl, rfl⟩ | ⟨p, n, c, q, m, d, rfl, rfl⟩ | ⟨p, q, rfl, rfl⟩
  · cases q with
    | some a => simp [isNil] at hy
    | none => exact run_nilEq_ptr h w
  · cases q with
    | some a => simp [isNil] at hy
    | none => exact run_nilEq_slice h w
  · cases q with
    | some a => simp [isNil] at hy
    | none => exact run_nilEq_map h w


theorem nilP_eq {y : Value} (h : nilP y = true) : y = .pointer none := by
  cases y <;> simp [nilP] at h
  rename_i a; cases a <;> simp at h ⊢
theorem nilS_eq {y : Value} (h : nilS y = true) : ∃ n c, y = .slice none n c := by
  cases y <;> simp [nilS] at h
  rename_i a n c; cases a <;> simp at h ⊢
theorem nilM_eq {y : Value} (h : nilM y = true) : y = .map none := by
  cases y <;> simp [nilM] at h
  rename_i a; cases a <;> simp at h ⊢

theorem bif_out {b : Bool} {A : Prop} (h : bif b then A else False) : b = true ∧ A := by
  cases b
  · exact h.elim
  · exact ⟨rfl, h⟩

theorem pval_bin {P : Program} {ρ : Env} {op : BinOp} {t u : TypeId} {x y : Operand} {o : Oper} {K : Value → Prop} (ho : o.op = .binOp op t x y u)
    (h : pval P o ρ K) : ∃ v, K v ∧ Free P (execOp (ev ρ) o) v := by
  simp only [pval, ho] at h
  split at h
  · rename_i k a k' b hx hy
    obtain ⟨rfl, hb, h⟩ := h
    refine ⟨_, h, ?_⟩
    simp only [execOp, ho]
    refine run_value fun w => ?_
    simp [hx, hy, eqGuard, binOp, Op.intDiv, hb, bind, pure, Sem.bind, Sem.run]
  · rename_i k a k' b hx hy
    obtain ⟨rfl, hb, h⟩ := h
    refine ⟨_, h, ?_⟩
    simp only [execOp, ho]
    refine run_value fun w => ?_
    simp [hx, hy, eqGuard, binOp, Op.intDiv, hb, bind, pure, Sem.bind, Sem.run]
  · rename_i k a k' b hx hy
    obtain ⟨hb, h⟩ := h
    refine ⟨_, h, ?_⟩
    simp only [execOp, ho]
    refine run_value fun w => ?_
    simp [hx, hy, eqGuard, binOp, Op.shift, Int.not_lt.2 hb, bind, pure, Sem.bind, Sem.run, iShl, iShr]
  · rename_i k a k' b hx hy
    obtain ⟨hb, h⟩ := h
    refine ⟨_, h, ?_⟩
    simp only [execOp, ho]
    refine run_value fun w => ?_
    simp [hx, hy, eqGuard, binOp, Op.shift, Int.not_lt.2 hb, bind, pure, Sem.bind, Sem.run, iShl, iShr]
  · rename_i k a k' b hx hy
    obtain ⟨hk, h'⟩ := eqK_out h
    subst hk
    refine ⟨_, h', ?_⟩
    simp only [execOp, ho]
    refine run_value fun w => ?_
    simp [hx, hy, eqGuard, binOp, Op.intBits, bind, pure, Sem.bind, Sem.run, iAnd, iOr, iXor, iAndNot]
  · rename_i k a k' b hx hy
    obtain ⟨hk, h'⟩ := eqK_out h
    subst hk
    refine ⟨_, h', ?_⟩
    simp only [execOp, ho]
    refine run_value fun w => ?_
    simp [hx, hy, eqGuard, binOp, Op.intBits, bind, pure, Sem.bind, Sem.run, iAnd, iOr, iXor, iAndNot]
  · rename_i k a k' b hx hy
    obtain ⟨hk, h'⟩ := eqK_out h
    subst hk
    refine ⟨_, h', ?_⟩
    simp only [execOp, ho]
    refine run_value fun w => ?_
    simp [hx, hy, eqGuard, binOp, Op.intBits, bind, pure, Sem.bind, Sem.run, iAnd, iOr, iXor, iAndNot]
  · rename_i k a k' b hx hy
    obtain ⟨hk, h'⟩ := eqK_out h
    subst hk
    refine ⟨_, h', ?_⟩
    simp only [execOp, ho]
    refine run_value fun w => ?_
    simp [hx, hy, eqGuard, binOp, Op.intBits, bind, pure, Sem.bind, Sem.run, iAnd, iOr, iXor, iAndNot]
  · rename_i a b hx hy
    obtain ⟨hb, h⟩ := h
    refine ⟨_, h, ?_⟩
    simp only [execOp, ho]
    refine run_value fun w => ?_
    have hb' : ¬ (((a.size + b.size : Nat) : Int) > IntKind.i64.max) := Int.not_lt.2 hb
    simp only [hx, hy, eqGuard, binOp, Op.stringOp, if_neg hb', bind, pure, Sem.bind, Sem.run]
    rfl
  · rename_i p hx
    generalize hy : ev ρ y = b at h
    obtain ⟨hn, h⟩ := bif_out h
    obtain ⟨r, hr, h⟩ := optN_out h
    have hb := nilP_eq hn
    refine ⟨_, h, ?_⟩
    exact run_binEq (neg := false) ho (by simp [hx]) (by simp [hy, hb]) (fun w => by rw [hx]; exact eqGuard_plain trivial w) (fun w => by rw [hx, hy, hb]; exact run_nilEq_ptr hr w)
  · rename_i p hx
    generalize hy : ev ρ y = b at h
    obtain ⟨hn, h⟩ := bif_out h
    obtain ⟨r, hr, h⟩ := optN_out h
    have hb := nilP_eq hn
    refine ⟨_, h, ?_⟩
    exact run_binEq (neg := true) ho (by simp [hx]) (by simp [hy, hb]) (fun w => by rw [hx]; exact eqGuard_plain trivial w) (fun w => by rw [hx, hy, hb]; exact run_nilEq_ptr hr w)
  · rename_i p n c hx
    generalize hy : ev ρ y = b at h
    obtain ⟨hn, h⟩ := bif_out h
    obtain ⟨r, hr, h⟩ := optN_out h
    obtain ⟨m, d, hb⟩ := nilS_eq hn
    refine ⟨_, h, ?_⟩
    exact run_binEq (neg := false) ho (by simp [hx]) (by simp [hy, hb]) (fun w => by rw [hx]; exact eqGuard_plain trivial w) (fun w => by rw [hx, hy, hb]; exact run_nilEq_slice hr w)
  · rename_i p n c hx
    generalize hy : ev ρ y = b at h
    obtain ⟨hn, h⟩ := bif_out h
    obtain ⟨r, hr, h⟩ := optN_out h
    obtain ⟨m, d, hb⟩ := nilS_eq hn
    refine ⟨_, h, ?_⟩
    exact run_binEq (neg := true) ho (by simp [hx]) (by simp [hy, hb]) (fun w => by rw [hx]; exact eqGuard_plain trivial w) (fun w => by rw [hx, hy, hb]; exact run_nilEq_slice hr w)
  · rename_i p hx
    generalize hy : ev ρ y = b at h
    obtain ⟨hn, h⟩ := bif_out h
    obtain ⟨r, hr, h⟩ := optN_out h
    have hb := nilM_eq hn
    refine ⟨_, h, ?_⟩
    exact run_binEq (neg := false) ho (by simp [hx]) (by simp [hy, hb]) (fun w => by rw [hx]; exact eqGuard_plain trivial w) (fun w => by rw [hx, hy, hb]; exact run_nilEq_map hr w)
  · rename_i p hx
    generalize hy : ev ρ y = b at h
    obtain ⟨hn, h⟩ := bif_out h
    obtain ⟨r, hr, h⟩ := optN_out h
    have hb := nilM_eq hn
    refine ⟨_, h, ?_⟩
    exact run_binEq (neg := true) ho (by simp [hx]) (by simp [hy, hb]) (fun w => by rw [hx]; exact eqGuard_plain trivial w) (fun w => by rw [hx, hy, hb]; exact run_nilEq_map hr w)
  · rename_i a hx
    generalize hy : ev ρ y = b at h
    obtain ⟨r, h1, h2, h3, h⟩ := h
    refine ⟨_, h, ?_⟩
    obtain ⟨c, rfl⟩ : ∃ c, b = .agg c := by cases b <;> first | exact ⟨_, rfl⟩ | (simp at h3)
    exact run_binEq (neg := false) ho (by simp [hx]) (by simp [hy]) (fun w => by rw [hx, hy]; exact (eqGuard_any (by simp) w).trans (freeRun_run h2 w)) (fun w => by rw [hx, hy]; exact freeRun_run h1 w)
  · rename_i a hx
    generalize hy : ev ρ y = b at h
    obtain ⟨r, h1, h2, h3, h⟩ := h
    refine ⟨_, h, ?_⟩
    obtain ⟨c, rfl⟩ : ∃ c, b = .agg c := by cases b <;> first | exact ⟨_, rfl⟩ | (simp at h3)
    exact run_binEq (neg := true) ho (by simp [hx]) (by simp [hy]) (fun w => by rw [hx, hy]; exact (eqGuard_any (by simp) w).trans (freeRun_run h2 w)) (fun w => by rw [hx, hy]; exact freeRun_run h1 w)
  · exact free_of_freeV h

theorem pval_sound {P : Program} {ρ : Env} {o : Oper} {K : Value → Prop} (h : pval P o ρ K) : ∃ v, K v ∧ Free P (execOp (ev ρ) o) v := by
  cases ho : o.op
  case move x => simp only [pval, ho] at h; exact ⟨_, h, fun w => by simp only [execOp, ho]; rfl⟩
  case assign x => simp only [pval, ho] at h; exact ⟨_, h, fun w => by simp only [execOp, ho]; rfl⟩
  case pick c a b =>
    simp only [pval, ho] at h
    split at h
    · rename_i t hc
      refine ⟨_, h, fun w => ?_⟩
      simp only [execOp, ho, hc, asBool, bind, pure, Sem.bind, Sem.run]
      cases t <;> rfl
    · exact h.elim
  case nilCheck x =>
    simp only [pval, ho] at h
    split at h
    · rename_i p hx
      obtain ⟨a, rfl, h⟩ := nilN_out h
      exact ⟨_, h, fun w => by simp only [execOp, ho, hx]; rfl⟩
    · exact free_of_freeV h
  case indexAddr t x i =>
    simp only [pval, ho] at h
    split at h
    · rename_i p n c k i hx hi
      split at h
      · rename_i sz hsz
        obtain ⟨a, rfl, hb, h⟩ := idxN_out h
        refine ⟨_, h, ?_⟩
        simp only [execOp, ho]
        refine run_value fun w => ?_
        rw [hx, hi]
        exact run_indexAt_slice hsz hb w
      · exact h.elim
    · rename_i p k i hx hi
      split at h
      · rename_i n sz hsz
        obtain ⟨a, rfl, hb, h⟩ := idxN_out h
        refine ⟨_, h, ?_⟩
        simp only [execOp, ho]
        refine run_value fun w => ?_
        rw [hx, hi]
        exact run_indexAt_array hsz hb w
      · exact h.elim
    · exact h.elim
  case index t x i =>
    simp only [pval, ho] at h
    split at h
    · rename_i s k i hx hi
      split at h
      · rename_i ht
        obtain ⟨b, ⟨h0, h1⟩, h⟩ := h
        refine ⟨_, h, ?_⟩
        simp only [execOp, ho]
        refine run_value fun w => ?_
        simp only [Instr.index, hx, hi, asIntOf, bind, pure, Sem.bind, Sem.run, run_bind, run_underlying ht, if_pos h0, h1]
      · exact h.elim
    · split at h
      · exact free_of_freeV h
      · obtain ⟨v, hv, h⟩ := exV_out h
        refine ⟨v, h, ?_⟩
        simp only [execOp, ho]
        exact run_value (freeRun_run hv)
  case typeAssert x xT asserted ok =>
    cases ok
    · simp only [pval, ho] at h
      obtain ⟨v, hv, h⟩ := exV_out h
      refine ⟨v, h, ?_⟩
      simp only [execOp, ho]
      exact run_value (freeRun_run hv)
    · simp only [pval, ho] at h
      obtain ⟨v, h⟩ := exV_out h
      obtain ⟨b, hv, h⟩ := exC_out h
      refine ⟨_, h, ?_⟩
      simp only [execOp, ho]
      exact run_value (freeRun_run hv)
  case slice t x lo hi mx =>
    cases mx with
    | none => exact pval_slice ho h
    | some m =>
      simp only [pval, ho] at h
      split at h <;> first | exact h.elim | contradiction | skip
      rename_i p n c m' hx hm
      cases hm
      split at h <;> first | exact h.elim | skip
      rename_i sz l u k m' hsz h1 h2 hm
      obtain ⟨⟨q1, q2, q3, q4⟩, h⟩ := h
      obtain ⟨e, ti, e1, e2, rfl⟩ := slElem_some hsz
      rcases bnd_some h1 with ⟨_, h1⟩ | ⟨y, ky, ny, rfl, hy, h1⟩
      · cases h1
      cases h1
      rcases bnd_some h2 with ⟨_, h2⟩ | ⟨z, kz, nz, rfl, hz, h2⟩
      · cases h2
      cases h2
      refine ⟨_, h, ?_⟩
      simp only [execOp, ho]
      refine run_value fun w => ?_
      have b1 : (0 : Int) ≤ m' ∧ m' ≤ (c : Nat) := by omega
      have b2 : 0 ≤ u ∧ u ≤ (m'.toNat : Nat) := by omega
      have b3 : 0 ≤ l ∧ l ≤ (u.toNat : Nat) := by omega
      simp only [Instr.sliceAt, Instr.slice, Instr.sliceBounds, hx, hm, hy, hz, Option.map_some, bind, pure, Sem.bind, Sem.run, run_bind, run_underlying e1, run_sliceBound b1, run_sliceBound b2, run_sliceBound b3, run_sizeOf e2]
  case binOp op t x y u => exact pval_bin ho h
  case panic x => simp only [pval, ho] at h
  all_goals (simp only [pval, ho] at h; exact free_of_freeV h)

/-! ### Operations that look at the world, and leave it -/

def RunsTo (P : Program) (s : Sem Value) (w : World) (v : Value) : Prop := s.run P w = .ok v w

/-- A run that turns the world. -/
def Runs (P : Program) (s : Sem Value) (w : World) (v : Value) (w' : World) : Prop := s.run P w = .ok v w'
def RunsU (P : Program) (s : Sem Unit) (w : World) (w' : World) : Prop := s.run P w = .ok () w'

/-- A value is in memory at an address. -/
def Holds (P : Program) (t : TypeId) (a : Addr) (w : World) (v : Value) : Prop := (loadVar t a).run P w = .ok v w

def mapElem (P : Program) (t : TypeId) : Option TypeId :=
  match P.underlying t with
  | some (.map _ e) => some e
  | _ => none

def rval (P : Program) (o : Oper) (ρ : Env) (w : World) (K : Value → Prop) : Prop :=
  match o.op with
  | .load t x =>
    match ev ρ x with
    | .pointer p => nilN p fun a => exT P t fun v => Holds P t a w v ∧ K v
    | _ => False
  | .lookup t m k ok =>
    match mapElem P t with
    | some e => exT P e fun v => exC .bool fun b => RunsTo P (Instr.lookup t (ev ρ m) (ev ρ k) true) w (.tuple #[v, b]) ∧ K (bif ok then .tuple #[v, b] else v)
    | none => False
  | .convert s d x => exT P d fun v => RunsTo P (convert s d (ev ρ x)) w v ∧ K v
  | .binOp op t x y _ =>
    match op with
    | .eql => exC .bool fun v => RunsTo P (binOp .eql t (ev ρ x) (ev ρ y)) w v ∧ (eqGuard .eql t x y (ev ρ x) (ev ρ y)).run P w = .ok () w ∧ K v
    | .neq => exC .bool fun v => RunsTo P (binOp .neq t (ev ρ x) (ev ρ y)) w v ∧ (eqGuard .neq t x y (ev ρ x) (ev ρ y)).run P w = .ok () w ∧ K v
    | _ => False
  | .call { callee := .builtin .len, args, argTypes } => exC (.int .i64) fun v => RunsTo P (Builtin.len_ argTypes o.type (args.map (ev ρ))) w v ∧ K v
  | _ => False

theorem run_value1 {P : Program} {s : Sem Value} {v : Value} {w : World} (h : s.run P w = .ok v w) : ((do pure (Next.value (← s)) : Sem Next)).run P w = .ok (.value v) w := by
  show (s.bind fun a => .pure (Next.value a)).run P w = _
  rw [run_bind, h]
  rfl

theorem run_value2 {P : Program} {s : Sem Value} {v : Value} {w w' : World} (h : s.run P w = .ok v w') : ((do pure (Next.value (← s)) : Sem Next)).run P w = .ok (.value v) w' := by
  show (s.bind fun a => .pure (Next.value a)).run P w = _
  rw [run_bind, h]
  rfl

theorem run_skip2 {P : Program} {s : Sem Unit} {w w' : World} (h : s.run P w = .ok () w') : ((do s; pure Next.skip : Sem Next)).run P w = .ok .skip w' := by
  show (s.bind fun _ => .pure Next.skip).run P w = _
  rw [run_bind, h]
  rfl

def Sim (P : Program) (s1 s2 : Sem Value) : Prop := ∀ w v b w', s1.run P w = .ok (.tuple #[v, b]) w' → s2.run P w = .ok v w'

theorem sim_bind {α : Type} {P : Program} (s : Sem α) {f g : α → Sem Value} (h : ∀ a, Sim P (f a) (g a)) : Sim P (s.bind f) (s.bind g) := by
  intro w v b w' hr
  rw [run_bind] at hr ⊢
  cases hs : s.run P w with
  | ok a w1 => rw [hs] at hr; exact h a _ _ _ _ hr
  | halt x w1 => rw [hs] at hr; cases hr

theorem sim_stuck {P : Program} {x y : String} : Sim P (stuck x) (stuck y) := by
  intro w v b w' hr; cases hr

theorem sim_pure {P : Program} {v b : Value} : Sim P (.pure (.tuple #[v, b])) (.pure v) := by
  intro w v b w' hr
  simp only [Sem.run, Result.ok.injEq, Value.tuple.injEq, Array.mk.injEq, List.cons.injEq] at hr ⊢
  exact ⟨hr.1.1, hr.2⟩

theorem sim_lookup {P : Program} {t : TypeId} {m k : Value} : Sim P (Instr.lookup t m k true) (Instr.lookup t m k false) := by
  unfold Instr.lookup
  refine sim_bind _ fun d => ?_
  have tail : ∀ (key elem : TypeId) (es : Array MapEntry), Sim P
      ((Instr.checkKey es.isEmpty 10000 key k).bind fun _ => (Instr.findKey key k es.toList).bind fun r =>
        match r with
        | some (_, v) => (Sem.pure (v, true)).bind fun x => Sem.pure (if true = true then Value.tuple #[x.1, .bool x.2] else x.1)
        | none => (zeroValue elem).bind fun z => (Sem.pure (z, false)).bind fun x => Sem.pure (if true = true then Value.tuple #[x.1, .bool x.2] else x.1))
      ((Instr.checkKey es.isEmpty 10000 key k).bind fun _ => (Instr.findKey key k es.toList).bind fun r =>
        match r with
        | some (_, v) => (Sem.pure (v, true)).bind fun x => Sem.pure (if false = true then Value.tuple #[x.1, .bool x.2] else x.1)
        | none => (zeroValue elem).bind fun z => (Sem.pure (z, false)).bind fun x => Sem.pure (if false = true then Value.tuple #[x.1, .bool x.2] else x.1)) := by
    intro key elem es
    refine sim_bind _ fun _ => sim_bind _ fun r => ?_
    cases r with
    | some p => obtain ⟨i, v⟩ := p; exact sim_pure
    | none => exact sim_bind _ fun z => sim_pure
  cases d <;> first | exact sim_stuck | skip
  rename_i key elem
  cases m <;> first | exact sim_bind _ (fun es => tail key elem es) | skip
  rename_i r
  cases r with
  | none => exact sim_bind _ (fun es => tail key elem es)
  | some r =>
    refine sim_bind _ fun o => ?_
    cases o <;> exact sim_bind _ (fun es => tail key elem es)

theorem lookup_noOk {P : Program} {t : TypeId} {m k v b : Value} {w w' : World} (h : (Instr.lookup t m k true).run P w = .ok (.tuple #[v, b]) w') : (Instr.lookup t m k false).run P w = .ok v w' :=
  sim_lookup w v b w' h

theorem rval_sound {P : Program} {ρ : Env} {o : Oper} {w : World} {K : Value → Prop} (h : rval P o ρ w K) : ∃ v, K v ∧ (execOp (ev ρ) o).run P w = .ok (.value v) w := by
  cases ho : o.op
  case load t x =>
    simp only [rval, ho] at h
    split at h
    · rename_i p hx
      obtain ⟨a, rfl, h⟩ := nilN_out h
      obtain ⟨v, hv, h⟩ := exV_out h
      refine ⟨v, h, ?_⟩
      simp only [execOp, ho, hx]
      exact run_value1 hv
    · exact h.elim
  case lookup t m k ok =>
    simp only [rval, ho] at h
    split at h
    · rename_i e he
      obtain ⟨v, h⟩ := exV_out h
      obtain ⟨b, hb, h⟩ := exC_out h
      refine ⟨_, h, ?_⟩
      simp only [execOp, ho]
      cases ok
      · exact run_value1 (lookup_noOk hb)
      · exact run_value1 hb
    · exact h.elim
  case convert s d x =>
    simp only [rval, ho] at h
    obtain ⟨v, hv, h⟩ := exV_out h
    refine ⟨v, h, ?_⟩
    simp only [execOp, ho]
    exact run_value1 hv
  case binOp op t x y u =>
    simp only [rval, ho] at h
    split at h
    · obtain ⟨v, h1, h2, h⟩ := exC_out h
      refine ⟨v, h, ?_⟩
      simp only [execOp, ho]
      refine run_value1 ?_
      simp only [bind, run_bind, h2]
      exact h1
    · obtain ⟨v, h1, h2, h⟩ := exC_out h
      refine ⟨v, h, ?_⟩
      simp only [execOp, ho]
      refine run_value1 ?_
      simp only [bind, run_bind, h2]
      exact h1
    · exact h.elim
  case call c =>
    simp only [rval, ho] at h
    split at h <;> first | exact h.elim | skip
    all_goals first | (exfalso; rename_i hh; cases hh; done) | skip
    rename_i args argTypes hh
    cases hh
    obtain ⟨v, hv, h⟩ := exC_out h
    refine ⟨v, h, ?_⟩
    simp only [execOp, ho]
    exact run_value1 hv
  all_goals (simp only [rval, ho] at h)

/-! ### Operations that turn the world -/

/-- What a run of an operation may be: a value, nothing, or a call that returns. -/
def Does (P : Program) (s : Sem Next) (w : World) (K : Value → World → Prop) : Prop :=
  match s.run P w with
  | .ok (.value v) w' => K v w'
  | .ok .skip w' => K undef w'
  | .ok (.enter f args) w' => Calls P f args w' fun e w'' => ∃ v, e = .returned v ∧ K v w''
  | _ => False

def NewN (w : World) (o : Obj) (K : Nat → World → Prop) : Prop := ∀ b w', b = w.heap.size → w' = w.alloc o → K b w'

def zero? (P : Program) (t : TypeId) : Option Value :=
  match P.info? t with
  | some i => i.zero
  | none => none

def rowOf (z : Array Value) (n : Nat) : Array Value := ((List.range n).map fun j => z.toList.getD (j % z.size) default).toArray

theorem rowOf_eq (z : Array Value) (n : Nat) : (Array.range n).map (z[· % z.size]!) = rowOf z n := by
  apply Array.ext'
  simp only [rowOf, Array.toList_map, Array.toList_range]
  refine List.map_congr_left fun j _ => ?_
  rw [Array.getElem!_eq_getD, Array.getD_eq_getD_getElem?, List.getD_eq_getElem?_getD, Array.getElem?_toList]

def bsl (P : Program) (t : TypeId) (len : Nat) (parts : Array (Nat × Value)) : Option (TypeId × Array Value) :=
  match P.underlying t with
  | some (.slice e) =>
    match P.info? e with
    | some i =>
      if len * i.size > 2 ^ 24 then none else
      match (if len * i.size = 0 then some #[] else i.zero.map Value.cells) with
      | some z => (Instr.fill (fun j => some (j * i.size, i.size)) (rowOf z (len * i.size)) parts.toList).map fun cs => (e, cs)
      | none => none
    | none => none
  | _ => none

def slInfo (P : Program) (t : TypeId) : Option (TypeId × Nat × Nat × Array Value) :=
  match P.underlying t with
  | some (.slice e) =>
    match P.info? e with
    | some i => i.zero.map fun z => (e, i.size, i.bytes, z.cells)
    | none => none
  | _ => none

def hasBody (P : Program) (f : FuncId) : Bool :=
  match P.funcs[f]? with
  | some fn => !fn.body.isNone && !(fn.name == "runtime.NumGoroutine")
  | none => false

def CallN (P : Program) (f : FuncId) (args : Array Value) (w : World) (rt : TypeId) (K : Value → World → Prop) : Prop :=
  Calls P f args w fun e w' => exR P rt fun v => e = .returned v ∧ K v w'

/-- A call of a function that has no Go text. -/
def Ext (P : Program) (f : FuncId) (args : Array Value) (w : World) (v : Value) (w' : World) : Prop := (callFunc f args).run P w = .ok (.value v) w'

def evalE (P : Program) (o : Oper) (ρ : Env) (w : World) (K : Value → World → Prop) : Prop :=
  match o.op with
  | .alloc e =>
    match zero? P e with
    | some z => NewN w (.cells z.cells e) fun b w' => K (.pointer (some ⟨b, 0, none⟩)) w'
    | none => False
  | .box e x => NewN w (.cells (ev ρ x).cells e) fun b w' => K (.pointer (some ⟨b, 0, none⟩)) w'
  | .buildSlice t len parts =>
    match bsl P t len (parts.map fun (i, x) => (i, ev ρ x)) with
    | some (e, cs) => NewN w (.cells cs e) fun b w' => K (.slice (some ⟨b, 0, none⟩) len len) w'
    | none => False
  | .makeMap _ none => NewN w (.map #[] 0) fun b w' => K (.map (some b)) w'
  | .makeSlice t l c =>
    match ev ρ l, ev ρ c with
    | .int _ l, .int _ c =>
      match slInfo P t with
      | some (e, sz, by_, z) => (0 ≤ l ∧ l ≤ c ∧ c ≤ 9223372036854775807 ∧ (by_ : Int) * c ≤ 2 ^ 48) ∧
          NewN w (.cells (madeCells z (c.toNat * sz)) e) fun b w' => K (.slice (some ⟨b, 0, none⟩) l.toNat c.toNat) w'
      | none => False
    | _, _ => False
  | .store t x v =>
    match ev ρ x with
    | .pointer p => nilN p fun a => ∃ w', RunsU P (storeVar t a (ev ρ v)) w w' ∧ K undef w'
    | _ => False
  | .mapUpdate t m k x => ∃ w', RunsU P (Instr.mapUpdate t (ev ρ m) (ev ρ k) (ev ρ x)) w w' ∧ K undef w'
  | .mapEntry t m k =>
    match mapElem P t with
    | some e => exT P e fun v => exC (.int .i64) fun s => ∃ w', Runs P (Instr.mapEntry t (ev ρ m) (ev ρ k)) w (.tuple #[v, s]) w' ∧ K (.tuple #[v, s]) w'
    | none => False
  | .entryStore t m s x => ∃ w', RunsU P (Instr.entryStore t (ev ρ m) (ev ρ s) (ev ρ x)) w w' ∧ K undef w'
  | .range t x =>
    match P.underlying t, ev ρ x with
    | some .string, .string s => NewN w (.stringIter s 0) fun b w' => K (.pointer (some ⟨b, 0, none⟩)) w'
    | _, x => exC .ptr fun v => ∃ w', Runs P (Instr.range t x) w v w' ∧ K v w'
  | .next it true =>
    (∃ w', Runs P (Instr.next (ev ρ it) true o.type) w (.tuple #[.bool false]) w' ∧ K (.tuple #[.bool false]) w') ∨
    exC (.int .i64) fun k => exC (.int .i32) fun v => ∃ w', Runs P (Instr.next (ev ρ it) true o.type) w (.tuple #[.bool true, k, v]) w' ∧ K (.tuple #[.bool true, k, v]) w'
  | .next it false =>
    (∃ w', Runs P (Instr.next (ev ρ it) false o.type) w (.tuple #[.bool false]) w' ∧ K (.tuple #[.bool false]) w') ∨
    ∃ (k v : Value) (w' : World), Runs P (Instr.next (ev ρ it) false o.type) w (.tuple #[.bool true, k, v]) w' ∧ K (.tuple #[.bool true, k, v]) w'
  | .convert s d x => exT P d fun v => ∃ w', Runs P (convert s d (ev ρ x)) w v w' ∧ K v w'
  | .call c =>
    match c.callee with
    | .value (.func f) => bif hasBody P f then CallN P f (c.args.map (ev ρ)) w o.type K else exR P o.type fun v => ∃ w', Ext P f (c.args.map (ev ρ)) w v w' ∧ K v w'
    | .value x =>
      match ev ρ x with
      | .func (.func f) first cap => hasBody P f = true ∧ CallN P f (first ++ c.args.map (ev ρ) ++ cap) w o.type K
      | _ => False
    | .builtin .append => exT P o.type fun v => ∃ w', Runs P (Builtin.append_ c.argTypes o.type (c.args.map (ev ρ))) w v w' ∧ K v w'
    | .builtin .copy => exC (.int .i64) fun v => ∃ w', Runs P (Builtin.copy_ c.argTypes o.type (c.args.map (ev ρ))) w v w' ∧ K v w'
    | .builtin .delete => ∃ w', Runs P (Builtin.delete_ c.argTypes o.type (c.args.map (ev ρ))) w (.tuple #[]) w' ∧ K (.tuple #[]) w'
    | .builtin .clear => ∃ w', Runs P (Builtin.clear_ c.argTypes o.type (c.args.map (ev ρ))) w (.tuple #[]) w' ∧ K (.tuple #[]) w'
    | _ => False
  | _ => False

theorem does_value {P : Program} {s : Sem Value} {w w' : World} {v : Value} {K : Value → World → Prop} (h : s.run P w = .ok v w') (hk : K v w') : Does P (do pure (Next.value (← s))) w K := by
  unfold Does
  rw [run_value2 h]
  exact hk

theorem does_skip {P : Program} {s : Sem Unit} {w w' : World} {K : Value → World → Prop} (h : s.run P w = .ok () w') (hk : K undef w') : Does P (do s; pure Next.skip) w K := by
  unfold Does
  rw [run_skip2 h]
  exact hk

theorem does_call {P : Program} {f : FuncId} {args : Array Value} {w : World} {rt : TypeId} {K : Value → World → Prop} (hb : hasBody P f = true) (h : CallN P f args w rt K) : Does P (callFunc f args) w K := by
  unfold hasBody at hb
  split at hb
  · rename_i fn hfn
    simp only [Bool.and_eq_true, Bool.not_eq_true', Bool.not_eq_eq_eq_not, Bool.not_true] at hb
    unfold Does
    have : (callFunc f args).run P w = .ok (.enter f args) w := by
      simp only [callFunc, bind, pure, run_bind, program, Sem.run, Sem.bind, hfn, hb.1, hb.2, Bool.false_eq_true, if_false]
    rw [this]
    exact h.mono fun e w' hh => by
      obtain ⟨v, hv, hk⟩ := exR_out hh
      exact ⟨v, hv, hk⟩
  · cases hb

theorem zero_run {P : Program} {t : TypeId} {z : Value} (h : zero? P t = some z) (w : World) : (zeroValue t).run P w = .ok z w := by
  unfold zero? at h
  split at h
  · rename_i i hi
    have hti : (typeInfo t).run P w = .ok i w := by
      unfold typeInfo
      show ((Sem.program Sem.pure).bind _).run P w = _
      simp only [Sem.bind, Sem.run, hi]
      rfl
    unfold zeroValue
    simp only [bind, run_bind, hti, h]
    rfl
  · cases h

theorem run_newVar {P : Program} {t : TypeId} {v : Value} (w : World) : (newVar t v).run P w = .ok ⟨w.heap.size, 0, none⟩ (w.alloc (.cells v.cells t)) := rfl

theorem run_typeInfo {P : Program} {t : TypeId} {i : TypeInfo} (h : P.info? t = some i) (w : World) : (typeInfo t).run P w = .ok i w := by
  unfold typeInfo
  show ((Sem.program Sem.pure).bind _).run P w = _
  simp only [Sem.bind, Sem.run, h]
  rfl

theorem resolve_value {P : Program} {ρ : Operand → Value} {c : Call} {t : TypeId} {x : Operand} (hc : c.callee = .value x) {fn : Fn} {first cap : Array Value} (hx : ρ x = .func fn first cap) (w : World) :
    (resolve ρ c t).run P w = .ok { target := .fn fn cap, args := first ++ c.args.map ρ } w := by
  unfold resolve
  rw [hc]
  simp only [hx, Deferred.ofValue]
  rfl

theorem run_buildSlice {P : Program} {t : TypeId} {len : Nat} {parts : Array (Nat × Value)} {e : TypeId} {cs : Array Value} (h : bsl P t len parts = some (e, cs)) (w : World) :
    (Instr.buildSlice t len parts).run P w = .ok (.slice (some ⟨w.heap.size, 0, none⟩) len len) (w.alloc (.cells cs e)) := by
  unfold bsl at h
  split at h <;> first | (cases h; done) | skip
  rename_i e' ht
  split at h <;> first | (cases h; done) | skip
  rename_i i hi
  split at h <;> first | (cases h; done) | skip
  rename_i hlen
  split at h <;> first | (cases h; done) | skip
  rename_i z hz
  simp only [Option.map_eq_some_iff, Prod.mk.injEq] at h
  obtain ⟨cs', hcs, rfl, rfl⟩ := h
  by_cases h0 : len * i.size = 0
  · simp only [h0, if_true, Option.some.injEq] at hz
    subst hz
    simp only [Instr.buildSlice, bind, pure, run_bind, Sem.bind, Sem.run, run_underlying ht, run_sizeOf hi, if_neg hlen, if_pos h0, rowOf_eq, hcs]
    rfl
  · simp only [h0, if_false, Option.map_eq_some_iff] at hz
    obtain ⟨z', hz', rfl⟩ := hz
    have hzr : ∀ w, (zeroValue e').run P w = .ok z' w := fun w => zero_run (by unfold zero?; rw [hi]; exact hz') w
    simp only [Instr.buildSlice, bind, pure, run_bind, Sem.bind, Sem.run, run_underlying ht, run_sizeOf hi, if_neg hlen, if_neg h0, hzr, rowOf_eq, hcs]
    rfl

theorem slInfo_some {P : Program} {t e : TypeId} {sz by_ : Nat} {z : Array Value} (h : slInfo P t = some (e, sz, by_, z)) :
    ∃ i zv, P.underlying t = some (.slice e) ∧ P.info? e = some i ∧ i.size = sz ∧ i.bytes = by_ ∧ i.zero = some zv ∧ zv.cells = z := by
  unfold slInfo at h
  split at h <;> first | (cases h; done) | skip
  rename_i e' ht
  split at h <;> first | (cases h; done) | skip
  rename_i i hi
  simp only [Option.map_eq_some_iff, Prod.mk.injEq] at h
  obtain ⟨zv, hzv, rfl, rfl, rfl, rfl⟩ := h
  exact ⟨i, zv, ht, hi, rfl, rfl, hzv, rfl⟩

theorem wrap_i64 {x : Int} (h0 : -9223372036854775808 ≤ x) (h1 : x ≤ 9223372036854775807) : IntKind.i64.wrap x = x := IntWalk.i64_in x ⟨h0, h1⟩

theorem run_askRoom (P : Program) (n : Nat) (w : World) : (askRoom n).run P w = .ok () w := by
  unfold askRoom
  split <;> rfl

theorem run_makeSl {P : Program} {t e : TypeId} {sz by_ : Nat} {z : Array Value} {k k' : IntKind} {l c : Int} (h : slInfo P t = some (e, sz, by_, z))
    (hb : 0 ≤ l ∧ l ≤ c ∧ c ≤ 9223372036854775807 ∧ (by_ : Int) * c ≤ 2 ^ 48) (w : World) :
    (Instr.makeSlice t (.int k l) (.int k' c)).run P w = .ok (.slice (some ⟨w.heap.size, 0, none⟩) l.toNat c.toNat) (w.alloc (.cells (madeCells z (c.toNat * sz)) e)) := by
  obtain ⟨i, zv, ht, hi, rfl, rfl, hz, rfl⟩ := slInfo_some h
  obtain ⟨h1, h2, h3, h4⟩ := hb
  have wl : IntKind.i64.wrap l = l := wrap_i64 (by omega) (by omega)
  have wc : IntKind.i64.wrap c = c := wrap_i64 (by omega) (by omega)
  have hc1 : ¬ (((decide (c < 0) || decide ((i.bytes : Int) * c > 2 ^ 48)) || decide (l < 0) || decide (l > c)) = true) := by
    simp only [Bool.or_eq_true, decide_eq_true_eq, not_or]
    omega
  have hzr : ∀ w, (zeroValue e).run P w = .ok zv w := fun w => zero_run (by unfold zero?; rw [hi]; exact hz) w
  simp only [Instr.makeSlice, asInt, asIntOf, bind, pure, run_bind, Sem.bind, Sem.run, run_underlying ht, run_typeInfo hi, run_sizeOf hi, wl, wc]
  rw [if_neg hc1]
  simp only [run_bind, run_askRoom, run_sizeOf hi]
  by_cases h0 : c.toNat * i.size = 0
  · simp only [h0, if_true, Sem.run, run_bind, madeCells]
    have e1 : (Array.map (fun x => (#[] : Array Value)[x % (#[] : Array Value).size]!) (Array.range 0)) = #[] := by simp
    have e2 : (Array.map (fun x => zv.cells[x % zv.cells.size]!) (Array.range 0)) = #[] := by simp
    rw [e1, e2]
    rfl
  · simp only [if_neg h0, run_bind, hzr, Sem.run, madeCells]
    rfl

theorem eff_sound {P : Program} {ρ : Env} {o : Oper} {w : World} {K : Value → World → Prop} (h : evalE P o ρ w K) : Does P (execOp (ev ρ) o) w K := by
  cases ho : o.op
  case alloc e =>
    simp only [evalE, ho] at h
    split at h
    · rename_i z hz
      simp only [execOp, ho]
      refine does_value (v := .pointer (some ⟨w.heap.size, 0, none⟩)) (w' := w.alloc (.cells z.cells e)) ?_ (h _ _ rfl rfl)
      simp only [Instr.alloc, bind, pure, run_bind, zero_run hz, Sem.run, run_newVar]
    · exact h.elim
  case box e x =>
    simp only [evalE, ho] at h
    simp only [execOp, ho]
    exact does_value (v := .pointer (some ⟨w.heap.size, 0, none⟩)) (w' := w.alloc (.cells (ev ρ x).cells e)) rfl (h _ _ rfl rfl)
  case buildSlice t len parts =>
    simp only [evalE, ho] at h
    split at h
    · rename_i e cs hcs
      simp only [execOp, ho]
      exact does_value (run_buildSlice hcs w) (h _ _ rfl rfl)
    · exact h.elim
  case makeMap t r =>
    cases r with
    | some r => simp only [evalE, ho] at h
    | none =>
      simp only [evalE, ho] at h
      simp only [execOp, ho]
      exact does_value (v := .map (some w.heap.size)) (w' := w.alloc (.map #[] 0)) rfl (h _ _ rfl rfl)
  case makeSlice t l c =>
    simp only [evalE, ho] at h
    split at h <;> first | exact h.elim | skip
    rename_i k l' k' c' hl hc
    split at h <;> first | exact h.elim | skip
    rename_i e sz by_ z hs
    simp only [execOp, ho, hl, hc]
    exact does_value (run_makeSl hs h.1 w) (h.2 _ _ rfl rfl)
  case store t x v =>
    simp only [evalE, ho] at h
    split at h <;> first | exact h.elim | skip
    rename_i p hx
    obtain ⟨a, rfl, w', hw, hk⟩ := nilN_out h
    simp only [execOp, ho, hx]
    exact does_skip (w' := w') hw hk
  case mapUpdate t m k x =>
    simp only [evalE, ho] at h
    obtain ⟨w', hw, hk⟩ := h
    simp only [execOp, ho]
    exact does_skip hw hk
  case mapEntry t m k =>
    simp only [evalE, ho] at h
    split at h <;> first | exact h.elim | skip
    obtain ⟨v, h⟩ := exV_out h
    obtain ⟨s, w', hw, hk⟩ := exC_out h
    simp only [execOp, ho]
    exact does_value hw hk
  case entryStore t m s x =>
    simp only [evalE, ho] at h
    obtain ⟨w', hw, hk⟩ := h
    simp only [execOp, ho]
    exact does_skip hw hk
  case range t x =>
    simp only [evalE, ho] at h
    split at h
    · rename_i s ht hx
      simp only [execOp, ho]
      refine does_value (v := .pointer (some ⟨w.heap.size, 0, none⟩)) (w' := w.alloc (.stringIter s 0)) ?_ (h _ _ rfl rfl)
      rw [hx]
      simp only [Instr.range, bind, pure, run_bind, Sem.bind, run_underlying ht]
      rfl
    · obtain ⟨v, w', hw, hk⟩ := exC_out h
      simp only [execOp, ho]
      exact does_value hw hk
  case next it isString =>
    simp only [execOp, ho]
    cases isString
    · simp only [evalE, ho] at h
      rcases h with ⟨w', hw, hk⟩ | ⟨k, v, w', hw, hk⟩
      · exact does_value hw hk
      · exact does_value hw hk
    · simp only [evalE, ho] at h
      rcases h with ⟨w', hw, hk⟩ | h
      · exact does_value hw hk
      · obtain ⟨k, h⟩ := exC_out h
        obtain ⟨v, w', hw, hk⟩ := exC_out h
        exact does_value hw hk
  case convert s d x =>
    simp only [evalE, ho] at h
    obtain ⟨v, w', hw, hk⟩ := exV_out h
    simp only [execOp, ho]
    exact does_value hw hk
  case call c =>
    have hexec : execOp (ev ρ) o = (resolve (ev ρ) c o.type).bind fun d => invoke d.target d.args := by
      simp only [execOp, ho]; rfl
    simp only [evalE, ho] at h
    split at h
    · rename_i f hc
      have hrun : (execOp (ev ρ) o) = callFunc f (c.args.map (ev ρ)) := by
        rw [hexec]
        unfold resolve
        rw [hc]
        simp only [ev, Deferred.ofValue, pure, Sem.bind, invoke, Array.append_empty, Array.empty_append]
      rw [hrun]
      revert h
      cases hb : hasBody P f <;> intro h
      · replace h : exR P o.type fun v => ∃ w', Ext P f (c.args.map (ev ρ)) w v w' ∧ K v w' := h
        obtain ⟨v, w', hw, hk⟩ := exR_out h
        exact (by unfold Does; rw [show (callFunc f (c.args.map (ev ρ))).run P w = _ from hw]; exact hk)
      · exact does_call hb h
    · rename_i x hc
      split at h <;> first | exact h.elim | skip
      rename_i f first cap hx
      have hrun : (execOp (ev ρ) o) = callFunc f (first ++ c.args.map (ev ρ) ++ cap) := by
        rw [hexec]
        unfold resolve
        rw [hc]
        simp only [hx, Deferred.ofValue, pure, Sem.bind, invoke]
      rw [hrun]
      exact does_call h.1 h.2
    all_goals first | exact h.elim | skip
    · rename_i hc
      have hrun : execOp (ev ρ) o = builtin .append c.argTypes o.type (c.args.map fun | .const _ => true | _ => false) (c.args.map (ev ρ)) := by
        rw [hexec]; unfold resolve; rw [hc]; rfl
      rw [hrun]
      obtain ⟨v, w', hw, hk⟩ := exV_out h
      exact does_value hw hk
    · rename_i hc
      have hrun : execOp (ev ρ) o = builtin .copy c.argTypes o.type (c.args.map fun | .const _ => true | _ => false) (c.args.map (ev ρ)) := by
        rw [hexec]; unfold resolve; rw [hc]; rfl
      rw [hrun]
      obtain ⟨v, w', hw, hk⟩ := exC_out h
      exact does_value hw hk
    · rename_i hc
      have hrun : execOp (ev ρ) o = builtin .delete c.argTypes o.type (c.args.map fun | .const _ => true | _ => false) (c.args.map (ev ρ)) := by
        rw [hexec]; unfold resolve; rw [hc]; rfl
      rw [hrun]
      obtain ⟨w', hw, hk⟩ := h
      exact does_value hw hk
    · rename_i hc
      have hrun : execOp (ev ρ) o = builtin .clear c.argTypes o.type (c.args.map fun | .const _ => true | _ => false) (c.args.map (ev ρ)) := by
        rw [hexec]; unfold resolve; rw [hc]; rfl
      rw [hrun]
      obtain ⟨w', hw, hk⟩ := h
      exact does_value hw hk
  all_goals (simp only [evalE, ho] at h)

end Cv
