/- Texts of ours, one behind the other: a walk that the kernel reckons, and contracts of functions. No condition. -/
import Derived.Deep.LoopGhost
import Derived.KernelRfl
import Derived.Lib.DecodeN
import Derived.Lib.ItoaNum
import Derived.Lib.Strings
import Derived.Orders
import Derived.WalkKit

namespace Cv
set_option linter.unusedSimpArgs false
open Go

@[reducible] def Env := Nat → Value

def put (ρ : Env) : Option Nat → Value → Env
  | none, _ => ρ
  | some d, v => fun i => bif Nat.beq i d then v else ρ i

def ev (ρ : Env) : Operand → Value
  | .tmp t => ρ t
  | .const v => v
  | .global g => .pointer (some ⟨g, 0, none⟩)
  | .func f => .func (.func f) #[] #[]

/-- The run of a computation that looks at no world. -/
def freeRun {α : Type} (P : Program) : Sem α → Option α
  | .pure a => some a
  | .program k => freeRun P (k P)
  | .mark _ k => freeRun P k
  | _ => none

theorem freeRun_run {α : Type} {P : Program} : ∀ {s : Sem α} {a : α}, freeRun P s = some a → ∀ w, s.run P w = .ok a w := by
  intro s
  induction s with
  | pure a => intro b h w; simp only [freeRun, Option.some.injEq] at h; subst h; rfl
  | program k ih => intro b h w; simp only [freeRun] at h; exact ih _ h w
  | mark m k ih => intro b h w; simp only [freeRun] at h; exact ih h w
  | _ => intro b h w; simp [freeRun] at h

theorem run_bind {α β : Type} (P : Program) (s : Sem α) (f : α → Sem β) (w : World) : (s.bind f).run P w = match s.run P w with | .ok a w' => (f a).run P w' | .halt h w' => .halt h w' := by
  induction s generalizing w with
  | pure a => rfl
  | halt h => rfl
  | load m a k ih => simp only [Sem.bind, Sem.run]; split <;> first | exact ih _ _ | (split <;> first | exact ih _ _ | rfl)
  | store m a v k ih =>
    cases v <;> simp only [Sem.bind, Sem.run] <;> first | rfl | (split <;> first | (split <;> first | exact ih _ | rfl))
  | new o k ih => exact ih _ _
  | shape r k ih => exact ih _ _
  | freeze a n k ih => exact ih _
  | frozen a k ih => exact ih _ _
  | getObj r k ih => simp only [Sem.bind, Sem.run]; split <;> first | rfl | exact ih _ _
  | setObj r o k ih => simp only [Sem.bind, Sem.run]; split <;> first | rfl | exact ih _
  | choose q k ih => simp only [Sem.bind, Sem.run]; split <;> exact ih _ _
  | sys c k ih => exact ih _ _
  | program k ih => exact ih _ _
  | mark m k ih => exact ih _

/-! ### Shapes: what a value of a type is made of -/

inductive Sh where
  | int (k : IntKind) | bool | str | ptr | sl | map | any

def cellSh : Value → Sh
  | .int k _ => .int k
  | .bool _ => .bool
  | .string _ => .str
  | .pointer _ => .ptr
  | .slice _ _ _ => .sl
  | .map _ => .map
  | _ => .any

def exC : Sh → (Value → Prop) → Prop
  | .int k, K => ∃ n : Int, K (.int k n)
  | .bool, K => ∃ b : Bool, K (.bool b)
  | .str, K => ∃ s : ByteArray, K (.string s)
  | .ptr, K => ∃ a : Option Addr, K (.pointer a)
  | .sl, K => ∃ (a : Option Addr) (n c : Nat), K (.slice a n c)
  | .map, K => ∃ r : Option Nat, K (.map r)
  | .any, K => ∃ v : Value, K v

theorem exC_out {s : Sh} {K : Value → Prop} (h : exC s K) : ∃ v, K v := by
  cases s <;> simp only [exC] at h <;> first | (obtain ⟨n, h⟩ := h; exact ⟨_, h⟩) | (obtain ⟨a, n, c, h⟩ := h; exact ⟨_, h⟩)

def exL : List Value → (List Value → Prop) → Prop
  | [], K => K []
  | z :: zs, K => exC (cellSh z) fun v => exL zs fun vs => K (v :: vs)

theorem exL_out : ∀ {zs : List Value} {K : List Value → Prop}, exL zs K → ∃ vs, K vs
  | [], _, h => ⟨_, h⟩
  | _ :: _, _, h => let ⟨_, h1⟩ := exC_out h; let ⟨_, h2⟩ := exL_out h1; ⟨_, h2⟩

/-- The parts of a great struct, by their places. -/
structure Raw where
  i : Nat → Int
  b : Nat → Bool
  s : Nat → ByteArray
  p : Nat → Option Addr
  a : Nat → Option Addr
  n : Nat → Nat
  k : Nat → Nat
  m : Nat → Option Nat
  v : Nat → Value

def Raw.cell (r : Raw) (j : Nat) : Value → Value
  | .int k _ => .int k (r.i j)
  | .bool _ => .bool (r.b j)
  | .string _ => .string (r.s j)
  | .pointer _ => .pointer (r.p j)
  | .slice _ _ _ => .slice (r.a j) (r.n j) (r.k j)
  | .map _ => .map (r.m j)
  | _ => r.v j

def rawL (r : Raw) : List Value → Nat → List Value
  | [], _ => []
  | z :: zs, j => r.cell j z :: rawL r zs (j + 1)

def rawV (z : Value) (r : Raw) : Value :=
  match z with
  | .agg cs => .agg (rawL r cs.toList 0).toArray
  | z => z

def exV : Value → (Value → Prop) → Prop
  | .agg cs, K => bif Nat.ble cs.size 9 then exL cs.toList fun vs => K (.agg vs.toArray) else ∃ r : Raw, K (rawV (.agg cs) r)
  | z, K => exC (cellSh z) K

theorem exV_out {z : Value} {K : Value → Prop} (h : exV z K) : ∃ v, K v := by
  cases z <;> simp only [exV] at h <;> first
    | exact exC_out h
    | (revert h; cases Nat.ble _ 9 <;> intro h
       · obtain ⟨r, h⟩ := h; exact ⟨_, h⟩
       · obtain ⟨_, h⟩ := exL_out h; exact ⟨_, h⟩)

def zeroOf (P : Program) (t : TypeId) : Value :=
  match P.info? t with
  | some i => i.zero.getD undef
  | none => undef

def exT (P : Program) (t : TypeId) (K : Value → Prop) : Prop := exV (zeroOf P t) K

/-! ### Operations that look at no world -/

/-- The cells of an element of a slice's type; of an array's type: how many elements, and the cells of one. -/
def slElem (P : Program) (t : TypeId) : Option Nat :=
  match P.underlying t with
  | some (.slice e) => (P.info? e).map fun (x : TypeInfo) => x.size
  | _ => none

def arrElem (P : Program) (t : TypeId) : Option (Nat × Nat) :=
  match P.underlying t with
  | some (.array n e) => (P.info? e).map fun (x : TypeInfo) => (n, x.size)
  | _ => none

def nilN (p : Option Addr) (K : Addr → Prop) : Prop :=
  match p with
  | some a => K a
  | none => False

def idxN (p : Option Addr) (n : Nat) (i : Int) (K : Addr → Prop) : Prop :=
  match p with
  | some a => (0 ≤ i ∧ i < n) ∧ K a
  | none => False

def strIdx (s : ByteArray) (i : Int) (K : UInt8 → Prop) : Prop := ∃ b : UInt8, (0 ≤ i ∧ s[i.toNat]? = some b) ∧ K b

/-- A slice of a slice: its bounds, and what it is. -/
def slN (p : Option Addr) (n c : Nat) (lo hi : Option Int) (sz : Nat) (K : Option Addr → Nat → Nat → Prop) : Prop :=
  match lo, hi with
  | none, none => (n ≤ c) ∧ K p n c
  | some l, none => (0 ≤ l ∧ l ≤ n ∧ n ≤ c) ∧ K (if c = l.toNat then p else p.map (·.add (l.toNat * sz))) (n - l.toNat) (c - l.toNat)
  | none, some h => (0 ≤ h ∧ h ≤ c) ∧ K p h.toNat c
  | some l, some h => (0 ≤ l ∧ l ≤ h ∧ h ≤ c) ∧ K (if c = l.toNat then p else p.map (·.add (l.toNat * sz))) (h.toNat - l.toNat) (c - l.toNat)

/-- A slice of a slice with three bounds. -/
def sl3N (p : Option Addr) (c : Nat) (l h m : Int) (sz : Nat) (K : Option Addr → Nat → Nat → Prop) : Prop :=
  (0 ≤ l ∧ l ≤ h ∧ h ≤ m ∧ m ≤ c) ∧ K (if m.toNat = l.toNat then p else p.map (·.add (l.toNat * sz))) (h.toNat - l.toNat) (m.toNat - l.toNat)

def strSl (s : ByteArray) (lo hi : Option Int) (K : ByteArray → Prop) : Prop :=
  match lo, hi with
  | none, none => K s
  | some l, none => (0 ≤ l ∧ l ≤ s.size) ∧ K (s.extract l.toNat s.size)
  | none, some h => (0 ≤ h ∧ h ≤ s.size) ∧ K (s.extract 0 h.toNat)
  | some l, some h => (0 ≤ l ∧ l ≤ h ∧ h ≤ s.size) ∧ K (s.extract l.toNat h.toNat)

/-- A bound of a slice expression, once it is looked at: none; a number; or no number. -/
def bnd (ρ : Env) : Option Operand → Option (Option Int)
  | none => some none
  | some x => match ev ρ x with
    | .int _ n => some (some n)
    | _ => none

def bndN (l h : Option (Option Int)) (K : Option Int → Option Int → Prop) : Prop :=
  match l, h with
  | some l, some h => K l h
  | _, _ => False

/-- What a comparison with nil says. -/
def nilEq (P : Program) (t : TypeId) (x : Value) : Option Bool :=
  match P.underlying t, x with
  | some (.pointer _), .pointer p => some p.isNone
  | some (.slice _), .slice p _ _ => some p.isNone
  | some (.map _ _), .map r => some r.isNone
  | _, _ => none

def nilP : Value → Bool
  | .pointer none => true
  | _ => false
def nilS : Value → Bool
  | .slice none _ _ => true
  | _ => false
def nilM : Value → Bool
  | .map none => true
  | _ => false

def freeV (P : Program) (s : Sem Next) (K : Value → Prop) : Prop :=
  match freeRun P s with
  | some (.value v) => K v
  | _ => False

/-- A comparison of two values that are made of parts. -/
def eqAgg (P : Program) (neg : Bool) (t : TypeId) (x y : Value) (K : Bool → Prop) : Prop :=
  ∃ b : Bool, freeRun P (Op.equal t x y) = some b ∧ freeRun P (eqGuard (if neg then .neq else .eql) t (.tmp 0) (.tmp 0) x y) = some () ∧
    (match y with | .agg _ => true | _ => false) = true ∧ K (if neg then !b else b)

def optN (o : Option Bool) (K : Bool → Prop) : Prop :=
  match o with
  | some r => K r
  | none => False

theorem optN_out {o : Option Bool} {K : Bool → Prop} (h : optN o K) : ∃ r, o = some r ∧ K r := by
  cases o with
  | none => exact h.elim
  | some r => exact ⟨r, rfl, h⟩

def divN (k k' : IntKind) (b : Int) (A : Prop) : Prop := k = k' ∧ b ≠ 0 ∧ A
def shN (b : Int) (A : Prop) : Prop := 0 ≤ b ∧ A
def catN (a b : ByteArray) (A : Prop) : Prop := (((a.size + b.size : Nat) : Int) ≤ IntKind.i64.max) ∧ A
def eqK (k k' : IntKind) (A : Prop) : Prop :=
  match k, k' with
  | .i8, .i8 => A
  | .i16, .i16 => A
  | .i32, .i32 => A
  | .i64, .i64 => A
  | .u8, .u8 => A
  | .u16, .u16 => A
  | .u32, .u32 => A
  | .u64, .u64 => A
  | _, _ => False

theorem eqK_out {k k' : IntKind} {A : Prop} (h : eqK k k' A) : k = k' ∧ A := by
  cases k <;> cases k' <;> first | exact ⟨rfl, h⟩ | exact h.elim

def iShl (k : IntKind) (a b : Int) : Int := k.wrap (a * 2 ^ (min b.toNat k.bits))
def iShr (k : IntKind) (a b : Int) : Int := a.fdiv (2 ^ (min b.toNat k.bits))
def iAnd (k : IntKind) (a b : Int) : Int := k.wrap ((BitVec.ofInt k.bits a &&& BitVec.ofInt k.bits b).toNat : Int)
def iOr (k : IntKind) (a b : Int) : Int := k.wrap ((BitVec.ofInt k.bits a ||| BitVec.ofInt k.bits b).toNat : Int)
def iXor (k : IntKind) (a b : Int) : Int := k.wrap ((BitVec.ofInt k.bits a ^^^ BitVec.ofInt k.bits b).toNat : Int)
def iAndNot (k : IntKind) (a b : Int) : Int := k.wrap ((BitVec.ofInt k.bits a &&& ~~~ BitVec.ofInt k.bits b).toNat : Int)

def pval (P : Program) (o : Oper) (ρ : Env) (K : Value → Prop) : Prop :=
  match o.op with
  | .move x => K (ev ρ x)
  | .assign x => K (ev ρ x)
  | .pick c a b =>
    match ev ρ c with
    | .bool t => K (bif t then ev ρ a else ev ρ b)
    | _ => False
  | .nilCheck x =>
    match ev ρ x with
    | .pointer p => nilN p fun a => K (.pointer (some a))
    | _ => freeV P (execOp (ev ρ) o) K
  | .indexAddr t x i =>
    match ev ρ x, ev ρ i with
    | .slice p n _, .int _ i => match slElem P t with
      | some sz => idxN p n i fun a => K (.pointer (some (a.add (i.toNat * sz))))
      | none => False
    | .pointer p, .int _ i => match arrElem P t with
      | some (len, sz) => idxN p len i fun a => K (.pointer (some (a.add (i.toNat * sz))))
      | none => False
    | _, _ => False
  | .index t x i =>
    match ev ρ x, ev ρ i with
    | .string s, .int _ i => match P.underlying t with
      | some .string => strIdx s i fun b => K (.int .u8 b.toNat)
      | _ => False
    | x, j => match i with
      | .const _ => freeV P (execOp (ev ρ) o) K
      | _ => exT P o.type fun v => freeRun P (Instr.index t x j) = some v ∧ K v
  | .panic _ => False
  | .typeAssert x xT asserted ok =>
    match ok with
    | true => exT P asserted fun v => exC .bool fun b => freeRun P (Instr.typeAssert (ev ρ x) xT asserted true) = some (.tuple #[v, b]) ∧ K (.tuple #[v, b])
    | false => exT P asserted fun v => freeRun P (Instr.typeAssert (ev ρ x) xT asserted false) = some v ∧ K v
  | .slice t x lo hi mx =>
    match ev ρ x, mx with
    | .slice p _ c, some m => match slElem P t, bnd ρ lo, bnd ρ hi, ev ρ m with
      | some sz, some (some l), some (some h), .int _ m => sl3N p c l h m sz fun p n c => K (.slice p n c)
      | _, _, _, _ => False
    | .slice p n c, none => match slElem P t with
      | some sz => bndN (bnd ρ lo) (bnd ρ hi) fun l h => slN p n c l h sz fun p n c => K (.slice p n c)
      | none => False
    | .string s, none => match P.underlying t with
      | some .string => bndN (bnd ρ lo) (bnd ρ hi) fun l h => strSl s l h fun s => K (.string s)
      | _ => False
    | .pointer p, none => match arrElem P t with
      | some (n, sz) => nilN p fun a => bndN (bnd ρ lo) (bnd ρ hi) fun l h => slN (some a) n n l h sz fun p n c => K (.slice p n c)
      | none => False
    | _, _ => False
  | .binOp op t x y _ =>
    match op, ev ρ x, ev ρ y with
    | .quo, .int k a, .int k' b => divN k k' b (K (.int k (k.wrap (a.tdiv b))))
    | .rem, .int k a, .int k' b => divN k k' b (K (.int k (a.tmod b)))
    | .shl, .int k a, .int _ b => shN b (K (.int k (iShl k a b)))
    | .shr, .int k a, .int _ b => shN b (K (.int k (iShr k a b)))
    | .and, .int k a, .int k' b => eqK k k' (K (.int k (iAnd k a b)))
    | .or, .int k a, .int k' b => eqK k k' (K (.int k (iOr k a b)))
    | .xor, .int k a, .int k' b => eqK k k' (K (.int k (iXor k a b)))
    | .andNot, .int k a, .int k' b => eqK k k' (K (.int k (iAndNot k a b)))
    | .add, .string a, .string b => catN a b (K (.string (a ++ b)))
    | .eql, .pointer p, b => bif nilP b then (optN (nilEq P t (.pointer p)) fun r => K (.bool r)) else False
    | .neq, .pointer p, b => bif nilP b then (optN (nilEq P t (.pointer p)) fun r => K (.bool !r)) else False
    | .eql, .slice p n c, b => bif nilS b then (optN (nilEq P t (.slice p n c)) fun r => K (.bool r)) else False
    | .neq, .slice p n c, b => bif nilS b then (optN (nilEq P t (.slice p n c)) fun r => K (.bool !r)) else False
    | .eql, .map r, b => bif nilM b then (optN (nilEq P t (.map r)) fun r => K (.bool r)) else False
    | .neq, .map r, b => bif nilM b then (optN (nilEq P t (.map r)) fun r => K (.bool !r)) else False
    | .eql, .agg a, b => eqAgg P false t (.agg a) b fun r => K (.bool r)
    | .neq, .agg a, b => eqAgg P true t (.agg a) b fun r => K (.bool r)
    | _, _, _ => freeV P (execOp (ev ρ) o) K
  | _ => freeV P (execOp (ev ρ) o) K

/-- The run gives this value, in whatever world, and leaves the world. -/
def Free (P : Program) (s : Sem Next) (v : Value) : Prop := ∀ w, s.run P w = .ok (.value v) w

theorem free_of_freeV {P : Program} {s : Sem Next} {K : Value → Prop} (h : freeV P s K) : ∃ v, K v ∧ Free P s v := by
  unfold freeV at h
  split at h
  · rename_i v hv; exact ⟨v, h, freeRun_run hv⟩
  · exact h.elim

theorem Addr.add_zero (a : Addr) : a.add 0 = a := by simp [Addr.add]
theorem map_add_zero (p : Option Addr) : p.map (·.add 0) = p := by cases p <;> simp [Addr.add_zero]


theorem run_value {P : Program} {s : Sem Value} {v : Value} (h : ∀ w, s.run P w = .ok v w) : Free P (do pure (Next.value (← s))) v := by
  intro w
  show (s.bind fun a => .pure (Next.value a)).run P w = _
  rw [run_bind, h w]
  rfl

theorem slElem_some {P : Program} {t : TypeId} {sz : Nat} (h : slElem P t = some sz) : ∃ e i, P.underlying t = some (.slice e) ∧ P.info? e = some i ∧ i.size = sz := by
  unfold slElem at h
  split at h
  · rename_i e he
    cases hi : P.info? e with
    | none => simp [hi] at h
    | some i => simp [hi] at h; exact ⟨e, i, he, hi, h⟩
  · cases h

theorem arrElem_some {P : Program} {t : TypeId} {n sz : Nat} (h : arrElem P t = some (n, sz)) : ∃ e i, P.underlying t = some (.array n e) ∧ P.info? e = some i ∧ i.size = sz := by
  unfold arrElem at h
  split at h
  · rename_i m e he
    cases hi : P.info? e with
    | none => simp [hi] at h
    | some i => simp [hi] at h; obtain ⟨rfl, h⟩ := h; exact ⟨e, i, he, hi, h⟩
  · cases h

theorem run_underlying {P : Program} {t : TypeId} {d : TypeDesc} (h : P.underlying t = some d) (w : World) : (underlying t).run P w = .ok d w := by
  show ((Sem.program Sem.pure).bind fun p => match p.underlying t with | some d => Sem.pure d | none => stuck "no such type").run P w = _
  simp only [Sem.bind, Sem.run, h]

theorem run_sizeOf {P : Program} {t : TypeId} {i : TypeInfo} (h : P.info? t = some i) (w : World) : (Go.sizeOf t).run P w = .ok i.size w := by
  have hti : (typeInfo t).run P w = .ok i w := by
    unfold typeInfo
    show ((Sem.program Sem.pure).bind _).run P w = _
    simp only [Sem.bind, Sem.run, h]
    rfl
  show ((typeInfo t).bind fun i => Sem.pure i.size).run P w = _
  rw [run_bind, hti]
  rfl

theorem run_indexAt_slice {P : Program} {t : TypeId} {sz n c : Nat} {a : Addr} {k : IntKind} {i : Int} (h : slElem P t = some sz) (hi : 0 ≤ i ∧ i < n) (w : World) :
    (Instr.indexAt t (.slice (some a) n c) (.int k i)).run P w = .ok (.pointer (some (a.add (i.toNat * sz)))) w := by
  obtain ⟨e, ti, h1, h2, rfl⟩ := slElem_some h
  simp only [Instr.indexAt, asIntOf, bind, pure, run_bind, Sem.bind, Sem.run, run_underlying h1, if_pos hi, run_sizeOf h2]

theorem run_indexAt_array {P : Program} {t : TypeId} {sz n : Nat} {a : Addr} {k : IntKind} {i : Int} (h : arrElem P t = some (n, sz)) (hi : 0 ≤ i ∧ i < n) (w : World) :
    (Instr.indexAt t (.pointer (some a)) (.int k i)).run P w = .ok (.pointer (some (a.add (i.toNat * sz)))) w := by
  obtain ⟨e, ti, h1, h2, rfl⟩ := arrElem_some h
  simp only [Instr.indexAt, asIntOf, Instr.sureAddr, bind, pure, run_bind, Sem.bind, Sem.run, run_underlying h1, if_pos hi, run_sizeOf h2]


theorem run_sliceBound {P : Program} {k : IntKind} {i : Int} {y : Nat} {code : BoundsCode} (h : 0 ≤ i ∧ i ≤ y) (w : World) : (Instr.sliceBound (.int k i) y code).run P w = .ok i.toNat w := by
  simp only [Instr.sliceBound, asIntOf, bind, pure, Sem.bind, Sem.run, if_pos h]

theorem bnd_some {ρ : Env} {x : Option Operand} {r : Option Int} (h : bnd ρ x = some r) : (x = none ∧ r = none) ∨ ∃ y k n, x = some y ∧ ev ρ y = .int k n ∧ r = some n := by
  unfold bnd at h
  split at h
  · left; exact ⟨rfl, by simpa using h.symm⟩
  · rename_i y
    right
    split at h
    · rename_i k n hv; exact ⟨y, k, n, rfl, hv, by simpa using h.symm⟩
    · cases h

theorem bndN_out {l h : Option (Option Int)} {K : Option Int → Option Int → Prop} (hh : bndN l h K) : ∃ a b, l = some a ∧ h = some b ∧ K a b := by
  unfold bndN at hh
  split at hh
  · rename_i a b; exact ⟨a, b, rfl, rfl, hh⟩
  · exact hh.elim

theorem run_bounds {P : Program} {ρ : Env} {lo hi : Option Operand} {l h : Option Int} (isSlice : Bool) {len cap : Nat} (h1 : bnd ρ lo = some l) (h2 : bnd ρ hi = some h)
    (hlen : h = none → len ≤ cap) (hh : ∀ x, h = some x → 0 ≤ x ∧ x ≤ cap) (hl : ∀ x, l = some x → 0 ≤ x ∧ x ≤ ((h.map Int.toNat).getD len : Nat)) (w : World) :
    (Instr.sliceBounds isSlice len cap (lo.map (ev ρ)) (hi.map (ev ρ)) none).run P w = .ok ((l.map Int.toNat).getD 0, (h.map Int.toNat).getD len, cap) w := by
  rcases bnd_some h1 with ⟨rfl, rfl⟩ | ⟨x, k, n, rfl, hx, rfl⟩ <;> rcases bnd_some h2 with ⟨rfl, rfl⟩ | ⟨y, k', m, rfl, hy, rfl⟩
  · simp only [Instr.sliceBounds, Option.map_none, bind, pure, Sem.bind, Sem.run, run_bind, Option.getD_none]
  · have := hh m rfl
    simp only [Instr.sliceBounds, Option.map_none, Option.map_some, hy, bind, pure, Sem.bind, Sem.run, run_bind, Option.getD_none, run_sliceBound this, Option.getD_some]
  · have h3 := hl n rfl
    simp only [Option.map_none, Option.getD_none] at h3
    simp only [Instr.sliceBounds, Option.map_none, Option.map_some, hx, bind, pure, Sem.bind, Sem.run, run_bind, Option.getD_none, run_sliceBound h3, Option.getD_some]
  · have h3 := hl n rfl
    have h4 := hh m rfl
    simp only [Option.map_some, Option.getD_some] at h3
    simp only [Instr.sliceBounds, Option.map_some, hx, hy, bind, pure, Sem.bind, Sem.run, run_bind, run_sliceBound h3, run_sliceBound h4, Option.getD_some]

theorem slN_out {p : Option Addr} {n c : Nat} {l h : Option Int} {sz : Nat} {K : Option Addr → Nat → Nat → Prop} (hk : slN p n c l h sz K) :
    (h = none → n ≤ c) ∧ (∀ x, h = some x → 0 ≤ x ∧ x ≤ c) ∧ (∀ x, l = some x → 0 ≤ x ∧ x ≤ ((h.map Int.toNat).getD n : Nat)) ∧
    K (if c = (l.map Int.toNat).getD 0 then p else p.map (·.add ((l.map Int.toNat).getD 0 * sz))) ((h.map Int.toNat).getD n - (l.map Int.toNat).getD 0) (c - (l.map Int.toNat).getD 0) := by
  unfold slN at hk
  split at hk
  · refine ⟨fun _ => hk.1, by simp, by simp, ?_⟩
    simpa [map_add_zero] using hk.2
  · refine ⟨fun _ => hk.1.2.2, by simp, ?_, by simpa using hk.2⟩
    intro x hx; cases hx; simp; omega
  · refine ⟨by simp, ?_, by simp, by simpa [map_add_zero] using hk.2⟩
    intro x hx; cases hx; omega
  · refine ⟨by simp, ?_, ?_, by simpa using hk.2⟩
    · intro x hx; cases hx; omega
    · intro x hx; cases hx; simp; omega

theorem pval_slice {P : Program} {ρ : Env} {t : TypeId} {x : Operand} {lo hi : Option Operand} {o : Oper} {K : Value → Prop} (ho : o.op = .slice t x lo hi none)
    (h : pval P o ρ K) : ∃ v, K v ∧ Free P (execOp (ev ρ) o) v := by
  simp only [pval, ho] at h
  split at h
  · rename_i heq; cases heq
  · rename_i p n c hx _
    split at h
    · rename_i sz hsz
      obtain ⟨l, u, h1, h2, h3⟩ := bndN_out h
      obtain ⟨q1, q2, q3, q4⟩ := slN_out h3
      obtain ⟨e, ti, e1, e2, rfl⟩ := slElem_some hsz
      refine ⟨_, q4, ?_⟩
      simp only [execOp, ho]
      refine run_value fun w => ?_
      simp only [Instr.sliceAt, Instr.slice, hx, bind, pure, Sem.bind, Sem.run, run_bind, run_underlying e1, Option.map_none, run_bounds true h1 h2 q1 q2 q3, run_sizeOf e2]
    · exact h.elim
  · rename_i s hx _
    split at h
    · rename_i ht
      obtain ⟨l, u, h1, h2, h3⟩ := bndN_out h
      have q : (∀ x, u = some x → 0 ≤ x ∧ x ≤ s.size) ∧ (∀ x, l = some x → 0 ≤ x ∧ x ≤ ((u.map Int.toNat).getD s.size : Nat)) ∧ K (.string (s.extract ((l.map Int.toNat).getD 0) ((u.map Int.toNat).getD s.size))) := by
        unfold strSl at h3
        split at h3
        · refine ⟨by simp, by simp, ?_⟩
          have : s.extract 0 s.size = s := by simp
          simpa [this] using h3
        · refine ⟨by simp, ?_, by simpa using h3.2⟩
          intro x hx; cases hx; simp; omega
        · refine ⟨?_, by simp, by simpa using h3.2⟩
          intro x hx; cases hx; omega
        · refine ⟨?_, ?_, by simpa using h3.2⟩
          · intro x hx; cases hx; omega
          · intro x hx; cases hx; simp; omega
      obtain ⟨q2, q3, q4⟩ := q
      refine ⟨_, q4, ?_⟩
      simp only [execOp, ho]
      refine run_value fun w => ?_
      simp only [Instr.sliceAt, Instr.slice, hx, bind, pure, Sem.bind, Sem.run, run_bind, run_underlying ht, Option.map_none, Option.isSome_none, Bool.false_eq_true, if_false, run_bounds false h1 h2 (fun _ => Nat.le_refl _) q2 q3]
    · exact h.elim
  · rename_i p hx _
    split at h
    · rename_i n sz hsz
      unfold nilN at h
      split at h
      · rename_i a
        obtain ⟨l, u, h1, h2, h3⟩ := bndN_out h
        obtain ⟨q1, q2, q3, q4⟩ := slN_out h3
        obtain ⟨e, ti, e1, e2, rfl⟩ := arrElem_some hsz
        refine ⟨_, q4, ?_⟩
        simp only [execOp, ho]
        refine run_value fun w => ?_
        simp only [Instr.sliceAt, Instr.sureAddr, hx, bind, pure, Sem.bind, Sem.run, run_bind, run_underlying e1, Option.map_none, run_bounds false h1 h2 q1 q2 q3, run_sizeOf e2]
        split <;> simp
      · exact h.elim
    · exact h.elim
  · exact h.elim

theorem equal_succ (t : TypeId) (x y : Value) : Op.equal t x y = Op.equalIn (9999 + 1) t x y := rfl

theorem run_nilEq_ptr {P : Program} {t : TypeId} {p : Option Addr} {r : Bool} (h : nilEq P t (.pointer p) = some r) (w : World) : (Op.equal t (.pointer p) (.pointer none)).run P w = .ok r w := by
  have hu : r = p.isNone ∧ ∃ d, P.underlying t = some d ∧ (match d with | .pointer _ => True | _ => False) := by
    unfold nilEq at h
    cases hd : P.underlying t with
    | none => simp [hd] at h
    | some d => cases d <;> simp [hd] at h; exact ⟨h.symm, _, rfl, trivial⟩
  obtain ⟨rfl, d, hd, hm⟩ := hu
  cases d <;> first | exact hm.elim | skip
  rw [equal_succ]
  generalize 9999 = d
  unfold Op.equalIn
  simp only [bind, pure, run_bind, run_underlying hd]
  cases p <;> rfl

theorem run_nilEq_slice {P : Program} {t : TypeId} {p : Option Addr} {n c m k : Nat} {r : Bool} (h : nilEq P t (.slice p n c) = some r) (w : World) : (Op.equal t (.slice p n c) (.slice none m k)).run P w = .ok r w := by
  have hu : r = p.isNone ∧ ∃ d, P.underlying t = some d ∧ (match d with | .slice _ => True | _ => False) := by
    unfold nilEq at h
    cases hd : P.underlying t with
    | none => simp [hd] at h
    | some d => cases d <;> simp [hd] at h; exact ⟨h.symm, _, rfl, trivial⟩
  obtain ⟨rfl, d, hd, hm⟩ := hu
  cases d <;> first | exact hm.elim | skip
  rw [equal_succ]
  generalize 9999 = d
  unfold Op.equalIn
  simp only [bind, pure, run_bind, run_underlying hd]
  cases p <;> rfl

theorem run_nilEq_map {P : Program} {t : TypeId} {p : Option Nat} {r : Bool} (h : nilEq P t (.map p) = some r) (w : World) : (Op.equal t (.map p) (.map none)).run P w = .ok r w := by
  have hu : r = p.isNone ∧ ∃ d, P.underlying t = some d ∧ (match d with | .map _ _ => True | _ => False) := by
    unfold nilEq at h
    cases hd : P.underlying t with
    | none => simp [hd] at h
    | some d => cases d <;> simp [hd] at h; exact ⟨h.symm, _, rfl, trivial⟩
  obtain ⟨rfl, d, hd, hm⟩ := hu
  cases d <;> first | exact hm.elim | skip
  rw [equal_succ]
  generalize 9999 = d
  unfold Op.equalIn
  simp only [bind, pure, run_bind, run_underlying hd]
  cases p <;> rfl

theorem nilN_out {p : Option Addr} {K : Addr → Prop} (h : nilN p K) : ∃ a, p = some a ∧ K a := by
  cases p with
  | none => exact h.elim
  | some a => exact ⟨a, rfl, h⟩

theorem idxN_out {p : Option Addr} {n : Nat} {i : Int} {K : Addr → Prop} (h : idxN p n i K) : ∃ a, p = some a ∧ (0 ≤ i ∧ i < n) ∧ K a := by
  cases p with
  | none => exact h.elim
  | some a => exact ⟨a, rfl, h⟩

theorem run_binEq {P : Program} {o : Oper} {ρ : Env} {neg : Bool} {t : TypeId} {x y : Operand} {u : TypeId} {r : Bool} (ho : o.op = .binOp (if neg then .neq else .eql) t x y u)
    (hx : match ev ρ x with | .pointer _ => True | .slice _ _ _ => True | .map _ => True | .agg _ => True | _ => False)
    (hy : match ev ρ y with | .pointer _ => True | .slice _ _ _ => True | .map _ => True | .agg _ => True | _ => False)
    (hg : ∀ w, (eqGuard (if neg then .neq else .eql) t x y (ev ρ x) (ev ρ y)).run P w = .ok () w)
    (he : ∀ w, (Op.equal t (ev ρ x) (ev ρ y)).run P w = .ok r w) : Free P (execOp (ev ρ) o) (.bool (if neg then !r else r)) := by
  simp only [execOp, ho]
  refine run_value fun w => ?_
  simp only [bind, run_bind, hg w]
  generalize ev ρ x = a at *
  generalize ev ρ y = b at *
  cases neg <;> cases a <;> (first | exact hx.elim | skip) <;> cases b <;> (first | exact hy.elim | skip) <;> simp only [binOp, Bool.false_eq_true, if_false, if_true, bind, pure, run_bind, he w, Sem.run]

theorem eqGuard_any {P : Program} {op : BinOp} {t : TypeId} {x y x' y' : Operand} {a b : Value} (ha : a ≠ .nilIface) (w : World) :
    (eqGuard op t x y a b).run P w = (eqGuard op t x' y' a b).run P w := by
  cases a <;> first | exact (ha rfl).elim | skip
  all_goals cases op <;> first | rfl | (cases b <;> rfl)

theorem eqGuard_plain {P : Program} {op : BinOp} {t : TypeId} {x y : Operand} {a b : Value} (ha : match a with | .pointer _ => True | .slice _ _ _ => True | .map _ => True | _ => False) (w : World) :
    (eqGuard op t x y a b).run P w = .ok () w := by
  cases a <;> first | exact ha.elim | (cases op <;> rfl)

theorem nilP_eq {y : Value} (h : nilP y = true) : y = .pointer none := by
  cases y <;> simp [nilP] at h
  rename_i a; cases a <;> simp at h ⊢
theorem nilS_eq {y : Value} (h : nilS y = true) : ∃ n c, y = .slice none n c := by
  cases y <;> simp [nilS] at h
  rename_i a n c; cases a <;> simp at h ⊢
theorem nilM_eq {y : Value} (h : nilM y = true) : y = .map none := by
  cases y <;> simp [nilM] at h
  rename_i a; cases a <;> simp at h ⊢

theorem bif_out {b : Bool} {A : Prop} (h : bif b then A else False) : b = true ∧ A := by
  cases b
  · exact h.elim
  · exact ⟨rfl, h⟩

theorem pval_bin {P : Program} {ρ : Env} {op : BinOp} {t u : TypeId} {x y : Operand} {o : Oper} {K : Value → Prop} (ho : o.op = .binOp op t x y u)
    (h : pval P o ρ K) : ∃ v, K v ∧ Free P (execOp (ev ρ) o) v := by
  simp only [pval, ho] at h
  split at h
  · rename_i k a k' b hx hy
    obtain ⟨rfl, hb, h⟩ := h
    refine ⟨_, h, ?_⟩
    simp only [execOp, ho]
    refine run_value fun w => ?_
    simp [hx, hy, eqGuard, binOp, Op.intDiv, hb, bind, pure, Sem.bind, Sem.run]
  · rename_i k a k' b hx hy
    obtain ⟨rfl, hb, h⟩ := h
    refine ⟨_, h, ?_⟩
    simp only [execOp, ho]
    refine run_value fun w => ?_
    simp [hx, hy, eqGuard, binOp, Op.intDiv, hb, bind, pure, Sem.bind, Sem.run]
  · rename_i k a k' b hx hy
    obtain ⟨hb, h⟩ := h
    refine ⟨_, h, ?_⟩
    simp only [execOp, ho]
    refine run_value fun w => ?_
    simp [hx, hy, eqGuard, binOp, Op.shift, Int.not_lt.2 hb, bind, pure, Sem.bind, Sem.run, iShl, iShr]
  · rename_i k a k' b hx hy
    obtain ⟨hb, h⟩ := h
    refine ⟨_, h, ?_⟩
    simp only [execOp, ho]
    refine run_value fun w => ?_
    simp [hx, hy, eqGuard, binOp, Op.shift, Int.not_lt.2 hb, bind, pure, Sem.bind, Sem.run, iShl, iShr]
  · rename_i k a k' b hx hy
    obtain ⟨hk, h'⟩ := eqK_out h
    subst hk
    refine ⟨_, h', ?_⟩
    simp only [execOp, ho]
    refine run_value fun w => ?_
    simp [hx, hy, eqGuard, binOp, Op.intBits, bind, pure, Sem.bind, Sem.run, iAnd, iOr, iXor, iAndNot]
  · rename_i k a k' b hx hy
    obtain ⟨hk, h'⟩ := eqK_out h
    subst hk
    refine ⟨_, h', ?_⟩
    simp only [execOp, ho]
    refine run_value fun w => ?_
    simp [hx, hy, eqGuard, binOp, Op.intBits, bind, pure, Sem.bind, Sem.run, iAnd, iOr, iXor, iAndNot]
  · rename_i k a k' b hx hy
    obtain ⟨hk, h'⟩ := eqK_out h
    subst hk
    refine ⟨_, h', ?_⟩
    simp only [execOp, ho]
    refine run_value fun w => ?_
    simp [hx, hy, eqGuard, binOp, Op.intBits, bind, pure, Sem.bind, Sem.run, iAnd, iOr, iXor, iAndNot]
  · rename_i k a k' b hx hy
    obtain ⟨hk, h'⟩ := eqK_out h
    subst hk
    refine ⟨_, h', ?_⟩
    simp only [execOp, ho]
    refine run_value fun w => ?_
    simp [hx, hy, eqGuard, binOp, Op.intBits, bind, pure, Sem.bind, Sem.run, iAnd, iOr, iXor, iAndNot]
  · rename_i a b hx hy
    obtain ⟨hb, h⟩ := h
    refine ⟨_, h, ?_⟩
    simp only [execOp, ho]
    refine run_value fun w => ?_
    have hb' : ¬ (((a.size + b.size : Nat) : Int) > IntKind.i64.max) := Int.not_lt.2 hb
    simp only [hx, hy, eqGuard, binOp, Op.stringOp, if_neg hb', bind, pure, Sem.bind, Sem.run]
    rfl
  · rename_i p hx
    generalize hy : ev ρ y = b at h
    obtain ⟨hn, h⟩ := bif_out h
    obtain ⟨r, hr, h⟩ := optN_out h
    have hb := nilP_eq hn
    refine ⟨_, h, ?_⟩
    exact run_binEq (neg := false) ho (by simp [hx]) (by simp [hy, hb]) (fun w => by rw [hx]; exact eqGuard_plain trivial w) (fun w => by rw [hx, hy, hb]; exact run_nilEq_ptr hr w)
  · rename_i p hx
    generalize hy : ev ρ y = b at h
    obtain ⟨hn, h⟩ := bif_out h
    obtain ⟨r, hr, h⟩ := optN_out h
    have hb := nilP_eq hn
    refine ⟨_, h, ?_⟩
    exact run_binEq (neg := true) ho (by simp [hx]) (by simp [hy, hb]) (fun w => by rw [hx]; exact eqGuard_plain trivial w) (fun w => by rw [hx, hy, hb]; exact run_nilEq_ptr hr w)
  · rename_i p n c hx
    generalize hy : ev ρ y = b at h
    obtain ⟨hn, h⟩ := bif_out h
    obtain ⟨r, hr, h⟩ := optN_out h
    obtain ⟨m, d, hb⟩ := nilS_eq hn
    refine ⟨_, h, ?_⟩
    exact run_binEq (neg := false) ho (by simp [hx]) (by simp [hy, hb]) (fun w => by rw [hx]; exact eqGuard_plain trivial w) (fun w => by rw [hx, hy, hb]; exact run_nilEq_slice hr w)
  · rename_i p n c hx
    generalize hy : ev ρ y = b at h
    obtain ⟨hn, h⟩ := bif_out h
    obtain ⟨r, hr, h⟩ := optN_out h
    obtain ⟨m, d, hb⟩ := nilS_eq hn
    refine ⟨_, h, ?_⟩
    exact run_binEq (neg := true) ho (by simp [hx]) (by simp [hy, hb]) (fun w => by rw [hx]; exact eqGuard_plain trivial w) (fun w => by rw [hx, hy, hb]; exact run_nilEq_slice hr w)
  · rename_i p hx
    generalize hy : ev ρ y = b at h
    obtain ⟨hn, h⟩ := bif_out h
    obtain ⟨r, hr, h⟩ := optN_out h
    have hb := nilM_eq hn
    refine ⟨_, h, ?_⟩
    exact run_binEq (neg := false) ho (by simp [hx]) (by simp [hy, hb]) (fun w => by rw [hx]; exact eqGuard_plain trivial w) (fun w => by rw [hx, hy, hb]; exact run_nilEq_map hr w)
  · rename_i p hx
    generalize hy : ev ρ y = b at h
    obtain ⟨hn, h⟩ := bif_out h
    obtain ⟨r, hr, h⟩ := optN_out h
    have hb := nilM_eq hn
    refine ⟨_, h, ?_⟩
    exact run_binEq (neg := true) ho (by simp [hx]) (by simp [hy, hb]) (fun w => by rw [hx]; exact eqGuard_plain trivial w) (fun w => by rw [hx, hy, hb]; exact run_nilEq_map hr w)
  · rename_i a hx
    generalize hy : ev ρ y = b at h
    obtain ⟨r, h1, h2, h3, h⟩ := h
    refine ⟨_, h, ?_⟩
    obtain ⟨c, rfl⟩ : ∃ c, b = .agg c := by cases b <;> first | exact ⟨_, rfl⟩ | (simp at h3)
    exact run_binEq (neg := false) ho (by simp [hx]) (by simp [hy]) (fun w => by rw [hx, hy]; exact (eqGuard_any (by simp) w).trans (freeRun_run h2 w)) (fun w => by rw [hx, hy]; exact freeRun_run h1 w)
  · rename_i a hx
    generalize hy : ev ρ y = b at h
    obtain ⟨r, h1, h2, h3, h⟩ := h
    refine ⟨_, h, ?_⟩
    obtain ⟨c, rfl⟩ : ∃ c, b = .agg c := by cases b <;> first | exact ⟨_, rfl⟩ | (simp at h3)
    exact run_binEq (neg := true) ho (by simp [hx]) (by simp [hy]) (fun w => by rw [hx, hy]; exact (eqGuard_any (by simp) w).trans (freeRun_run h2 w)) (fun w => by rw [hx, hy]; exact freeRun_run h1 w)
  · exact free_of_freeV h

theorem pval_sound {P : Program} {ρ : Env} {o : Oper} {K : Value → Prop} (h : pval P o ρ K) : ∃ v, K v ∧ Free P (execOp (ev ρ) o) v := by
  cases ho : o.op
  case move x => simp only [pval, ho] at h; exact ⟨_, h, fun w => by simp only [execOp, ho]; rfl⟩
  case assign x => simp only [pval, ho] at h; exact ⟨_, h, fun w => by simp only [execOp, ho]; rfl⟩
  case pick c a b =>
    simp only [pval, ho] at h
    split at h
    · rename_i t hc
      refine ⟨_, h, fun w => ?_⟩
      simp only [execOp, ho, hc, asBool, bind, pure, Sem.bind, Sem.run]
      cases t <;> rfl
    · exact h.elim
  case nilCheck x =>
    simp only [pval, ho] at h
    split at h
    · rename_i p hx
      obtain ⟨a, rfl, h⟩ := nilN_out h
      exact ⟨_, h, fun w => by simp only [execOp, ho, hx]; rfl⟩
    · exact free_of_freeV h
  case indexAddr t x i =>
    simp only [pval, ho] at h
    split at h
    · rename_i p n c k i hx hi
      split at h
      · rename_i sz hsz
        obtain ⟨a, rfl, hb, h⟩ := idxN_out h
        refine ⟨_, h, ?_⟩
        simp only [execOp, ho]
        refine run_value fun w => ?_
        rw [hx, hi]
        exact run_indexAt_slice hsz hb w
      · exact h.elim
    · rename_i p k i hx hi
      split at h
      · rename_i n sz hsz
        obtain ⟨a, rfl, hb, h⟩ := idxN_out h
        refine ⟨_, h, ?_⟩
        simp only [execOp, ho]
        refine run_value fun w => ?_
        rw [hx, hi]
        exact run_indexAt_array hsz hb w
      · exact h.elim
    · exact h.elim
  case index t x i =>
    simp only [pval, ho] at h
    split at h
    · rename_i s k i hx hi
      split at h
      · rename_i ht
        obtain ⟨b, ⟨h0, h1⟩, h⟩ := h
        refine ⟨_, h, ?_⟩
        simp only [execOp, ho]
        refine run_value fun w => ?_
        simp only [Instr.index, hx, hi, asIntOf, bind, pure, Sem.bind, Sem.run, run_bind, run_underlying ht, if_pos h0, h1]
      · exact h.elim
    · split at h
      · exact free_of_freeV h
      · obtain ⟨v, hv, h⟩ := exV_out h
        refine ⟨v, h, ?_⟩
        simp only [execOp, ho]
        exact run_value (freeRun_run hv)
  case typeAssert x xT asserted ok =>
    cases ok
    · simp only [pval, ho] at h
      obtain ⟨v, hv, h⟩ := exV_out h
      refine ⟨v, h, ?_⟩
      simp only [execOp, ho]
      exact run_value (freeRun_run hv)
    · simp only [pval, ho] at h
      obtain ⟨v, h⟩ := exV_out h
      obtain ⟨b, hv, h⟩ := exC_out h
      refine ⟨_, h, ?_⟩
      simp only [execOp, ho]
      exact run_value (freeRun_run hv)
  case slice t x lo hi mx =>
    cases mx with
    | none => exact pval_slice ho h
    | some m =>
      simp only [pval, ho] at h
      split at h <;> first | exact h.elim | contradiction | skip
      rename_i p n c m' hx hm
      cases hm
      split at h <;> first | exact h.elim | skip
      rename_i sz l u k m' hsz h1 h2 hm
      obtain ⟨⟨q1, q2, q3, q4⟩, h⟩ := h
      obtain ⟨e, ti, e1, e2, rfl⟩ := slElem_some hsz
      rcases bnd_some h1 with ⟨_, h1⟩ | ⟨y, ky, ny, rfl, hy, h1⟩
      · cases h1
      cases h1
      rcases bnd_some h2 with ⟨_, h2⟩ | ⟨z, kz, nz, rfl, hz, h2⟩
      · cases h2
      cases h2
      refine ⟨_, h, ?_⟩
      simp only [execOp, ho]
      refine run_value fun w => ?_
      have b1 : (0 : Int) ≤ m' ∧ m' ≤ (c : Nat) := by omega
      have b2 : 0 ≤ u ∧ u ≤ (m'.toNat : Nat) := by omega
      have b3 : 0 ≤ l ∧ l ≤ (u.toNat : Nat) := by omega
      simp only [Instr.sliceAt, Instr.slice, Instr.sliceBounds, hx, hm, hy, hz, Option.map_some, bind, pure, Sem.bind, Sem.run, run_bind, run_underlying e1, run_sliceBound b1, run_sliceBound b2, run_sliceBound b3, run_sizeOf e2]
  case binOp op t x y u => exact pval_bin ho h
  case panic x => simp only [pval, ho] at h
  all_goals (simp only [pval, ho] at h; exact free_of_freeV h)

/-! ### Operations that look at the world, and leave it -/

def RunsTo (P : Program) (s : Sem Value) (w : World) (v : Value) : Prop := s.run P w = .ok v w

/-- A run that turns the world. -/
def Runs (P : Program) (s : Sem Value) (w : World) (v : Value) (w' : World) : Prop := s.run P w = .ok v w'
def RunsU (P : Program) (s : Sem Unit) (w : World) (w' : World) : Prop := s.run P w = .ok () w'

/-- A value is in memory at an address. -/
def Holds (P : Program) (t : TypeId) (a : Addr) (w : World) (v : Value) : Prop := (loadVar t a).run P w = .ok v w

theorem run_value1 {P : Program} {s : Sem Value} {v : Value} {w : World} (h : s.run P w = .ok v w) : ((do pure (Next.value (← s)) : Sem Next)).run P w = .ok (.value v) w := by
  show (s.bind fun a => .pure (Next.value a)).run P w = _
  rw [run_bind, h]
  rfl

theorem run_value2 {P : Program} {s : Sem Value} {v : Value} {w w' : World} (h : s.run P w = .ok v w') : ((do pure (Next.value (← s)) : Sem Next)).run P w = .ok (.value v) w' := by
  show (s.bind fun a => .pure (Next.value a)).run P w = _
  rw [run_bind, h]
  rfl

theorem run_skip2 {P : Program} {s : Sem Unit} {w w' : World} (h : s.run P w = .ok () w') : ((do s; pure Next.skip : Sem Next)).run P w = .ok .skip w' := by
  show (s.bind fun _ => .pure Next.skip).run P w = _
  rw [run_bind, h]
  rfl

/-! ### Operations that turn the world -/

/-- What a run of an operation may be: a value, nothing, or a call that returns. -/
def Does (P : Program) (s : Sem Next) (w : World) (K : Value → World → Prop) : Prop :=
  match s.run P w with
  | .ok (.value v) w' => K v w'
  | .ok .skip w' => K undef w'
  | .ok (.enter f args) w' => Calls P f args w' fun e w'' => ∃ v, e = .returned v ∧ K v w''
  | _ => False

def NewN (w : World) (o : Obj) (K : Nat → World → Prop) : Prop := ∀ b w', b = w.heap.size → w' = w.alloc o → K b w'

def zero? (P : Program) (t : TypeId) : Option Value :=
  match P.info? t with
  | some i => i.zero
  | none => none

def rowOf (z : Array Value) (n : Nat) : Array Value := ((List.range n).map fun j => z.toList.getD (j % z.size) default).toArray

theorem rowOf_eq (z : Array Value) (n : Nat) : (Array.range n).map (z[· % z.size]!) = rowOf z n := by
  apply Array.ext'
  simp only [rowOf, Array.toList_map, Array.toList_range]
  refine List.map_congr_left fun j _ => ?_
  rw [Array.getElem!_eq_getD, Array.getD_eq_getD_getElem?, List.getD_eq_getElem?_getD, Array.getElem?_toList]

def bsl (P : Program) (t : TypeId) (len : Nat) (parts : Array (Nat × Value)) : Option (TypeId × Array Value) :=
  match P.underlying t with
  | some (.slice e) =>
    match P.info? e with
    | some i =>
      if len * i.size > 2 ^ 24 then none else
      match (if len * i.size = 0 then some #[] else i.zero.map Value.cells) with
      | some z => (Instr.fill (fun j => some (j * i.size, i.size)) (rowOf z (len * i.size)) parts.toList).map fun cs => (e, cs)
      | none => none
    | none => none
  | _ => none

def slInfo (P : Program) (t : TypeId) : Option (TypeId × Nat × Nat × Array Value) :=
  match P.underlying t with
  | some (.slice e) =>
    match P.info? e with
    | some i => i.zero.map fun z => (e, i.size, i.bytes, z.cells)
    | none => none
  | _ => none

def hasBody (P : Program) (f : FuncId) : Bool :=
  match P.funcs[f]? with
  | some fn => !fn.body.isNone && !(fn.name == "runtime.NumGoroutine")
  | none => false

/-- A call of a function that has no Go text. -/
def Ext (P : Program) (f : FuncId) (args : Array Value) (w : World) (v : Value) (w' : World) : Prop := (callFunc f args).run P w = .ok (.value v) w'

theorem does_value {P : Program} {s : Sem Value} {w w' : World} {v : Value} {K : Value → World → Prop} (h : s.run P w = .ok v w') (hk : K v w') : Does P (do pure (Next.value (← s))) w K := by
  unfold Does
  rw [run_value2 h]
  exact hk

theorem does_skip {P : Program} {s : Sem Unit} {w w' : World} {K : Value → World → Prop} (h : s.run P w = .ok () w') (hk : K undef w') : Does P (do s; pure Next.skip) w K := by
  unfold Does
  rw [run_skip2 h]
  exact hk

theorem zero_run {P : Program} {t : TypeId} {z : Value} (h : zero? P t = some z) (w : World) : (zeroValue t).run P w = .ok z w := by
  unfold zero? at h
  split at h
  · rename_i i hi
    have hti : (typeInfo t).run P w = .ok i w := by
      unfold typeInfo
      show ((Sem.program Sem.pure).bind _).run P w = _
      simp only [Sem.bind, Sem.run, hi]
      rfl
    unfold zeroValue
    simp only [bind, run_bind, hti, h]
    rfl
  · cases h

theorem run_newVar {P : Program} {t : TypeId} {v : Value} (w : World) : (newVar t v).run P w = .ok ⟨w.heap.size, 0, none⟩ (w.alloc (.cells v.cells t)) := rfl

theorem run_typeInfo {P : Program} {t : TypeId} {i : TypeInfo} (h : P.info? t = some i) (w : World) : (typeInfo t).run P w = .ok i w := by
  unfold typeInfo
  show ((Sem.program Sem.pure).bind _).run P w = _
  simp only [Sem.bind, Sem.run, h]
  rfl

theorem run_buildSlice {P : Program} {t : TypeId} {len : Nat} {parts : Array (Nat × Value)} {e : TypeId} {cs : Array Value} (h : bsl P t len parts = some (e, cs)) (w : World) :
    (Instr.buildSlice t len parts).run P w = .ok (.slice (some ⟨w.heap.size, 0, none⟩) len len) (w.alloc (.cells cs e)) := by
  unfold bsl at h
  split at h <;> first | (cases h; done) | skip
  rename_i e' ht
  split at h <;> first | (cases h; done) | skip
  rename_i i hi
  split at h <;> first | (cases h; done) | skip
  rename_i hlen
  split at h <;> first | (cases h; done) | skip
  rename_i z hz
  simp only [Option.map_eq_some_iff, Prod.mk.injEq] at h
  obtain ⟨cs', hcs, rfl, rfl⟩ := h
  by_cases h0 : len * i.size = 0
  · simp only [h0, if_true, Option.some.injEq] at hz
    subst hz
    simp only [Instr.buildSlice, bind, pure, run_bind, Sem.bind, Sem.run, run_underlying ht, run_sizeOf hi, if_neg hlen, if_pos h0, rowOf_eq, hcs]
    rfl
  · simp only [h0, if_false, Option.map_eq_some_iff] at hz
    obtain ⟨z', hz', rfl⟩ := hz
    have hzr : ∀ w, (zeroValue e').run P w = .ok z' w := fun w => zero_run (by unfold zero?; rw [hi]; exact hz') w
    simp only [Instr.buildSlice, bind, pure, run_bind, Sem.bind, Sem.run, run_underlying ht, run_sizeOf hi, if_neg hlen, if_neg h0, hzr, rowOf_eq, hcs]
    rfl

theorem slInfo_some {P : Program} {t e : TypeId} {sz by_ : Nat} {z : Array Value} (h : slInfo P t = some (e, sz, by_, z)) :
    ∃ i zv, P.underlying t = some (.slice e) ∧ P.info? e = some i ∧ i.size = sz ∧ i.bytes = by_ ∧ i.zero = some zv ∧ zv.cells = z := by
  unfold slInfo at h
  split at h <;> first | (cases h; done) | skip
  rename_i e' ht
  split at h <;> first | (cases h; done) | skip
  rename_i i hi
  simp only [Option.map_eq_some_iff, Prod.mk.injEq] at h
  obtain ⟨zv, hzv, rfl, rfl, rfl, rfl⟩ := h
  exact ⟨i, zv, ht, hi, rfl, rfl, hzv, rfl⟩

theorem wrap_i64 {x : Int} (h0 : -9223372036854775808 ≤ x) (h1 : x ≤ 9223372036854775807) : IntKind.i64.wrap x = x := IntWalk.i64_in x ⟨h0, h1⟩

theorem run_askRoom (P : Program) (n : Nat) (w : World) : (askRoom n).run P w = .ok () w := by
  unfold askRoom
  split <;> rfl

theorem run_makeSl {P : Program} {t e : TypeId} {sz by_ : Nat} {z : Array Value} {k k' : IntKind} {l c : Int} (h : slInfo P t = some (e, sz, by_, z))
    (hb : 0 ≤ l ∧ l ≤ c ∧ c ≤ 9223372036854775807 ∧ (by_ : Int) * c ≤ 2 ^ 48) (w : World) :
    (Instr.makeSlice t (.int k l) (.int k' c)).run P w = .ok (.slice (some ⟨w.heap.size, 0, none⟩) l.toNat c.toNat) (w.alloc (.cells (madeCells z (c.toNat * sz)) e)) := by
  obtain ⟨i, zv, ht, hi, rfl, rfl, hz, rfl⟩ := slInfo_some h
  obtain ⟨h1, h2, h3, h4⟩ := hb
  have wl : IntKind.i64.wrap l = l := wrap_i64 (by omega) (by omega)
  have wc : IntKind.i64.wrap c = c := wrap_i64 (by omega) (by omega)
  have hc1 : ¬ (((decide (c < 0) || decide ((i.bytes : Int) * c > 2 ^ 48)) || decide (l < 0) || decide (l > c)) = true) := by
    simp only [Bool.or_eq_true, decide_eq_true_eq, not_or]
    omega
  have hzr : ∀ w, (zeroValue e).run P w = .ok zv w := fun w => zero_run (by unfold zero?; rw [hi]; exact hz) w
  simp only [Instr.makeSlice, asInt, asIntOf, bind, pure, run_bind, Sem.bind, Sem.run, run_underlying ht, run_typeInfo hi, run_sizeOf hi, wl, wc]
  rw [if_neg hc1]
  simp only [run_bind, run_askRoom, run_sizeOf hi]
  by_cases h0 : c.toNat * i.size = 0
  · simp only [h0, if_true, Sem.run, run_bind, madeCells]
    have e1 : (Array.map (fun x => (#[] : Array Value)[x % (#[] : Array Value).size]!) (Array.range 0)) = #[] := by simp
    have e2 : (Array.map (fun x => zv.cells[x % zv.cells.size]!) (Array.range 0)) = #[] := by simp
    rw [e1, e2]
    rfl
  · simp only [if_neg h0, run_bind, hzr, Sem.run, madeCells]
    rfl

end Cv

namespace Cv
set_option linter.unusedSimpArgs false
set_option linter.unusedVariables false
open Go

def isNilC : Operand → Bool
  | .const (.pointer none) => true
  | _ => false

/-- 0: it looks at no world; 1: it looks at the world and leaves it; 2: all else. -/
def kindOf (P : Program) (op : Op) : Nat :=
  match op with
  | .load _ _ => 1
  | .lookup _ _ _ _ => 1
  | .convert s d _ =>
    match P.underlying s, P.underlying d with
    | some .string, some (.slice _) => 2
    | some (.slice _), some .string => 1
    | _, _ => 0
  | .binOp op t x y _ =>
    match op, P.underlying t with
    | .eql, some (.pointer _) => bif isNilC y then 0 else 1
    | .neq, some (.pointer _) => bif isNilC y then 0 else 1
    | _, _ => 0
  | .call c =>
    match c.callee with
    | .builtin .len =>
      match (c.argTypes[0]?).bind P.underlying with
      | some (.map _ _) => 1
      | _ => 0
    | .builtin .cap => 0
    | .builtin .min => 0
    | .builtin .max => 0
    | _ => 2
  | .alloc _ => 2
  | .box _ _ => 2
  | .buildSlice _ _ _ => 2
  | .makeMap _ _ => 2
  | .makeSlice _ _ _ => 2
  | .store _ _ _ => 2
  | .mapUpdate _ _ _ _ => 2
  | .mapEntry _ _ _ => 2
  | .entryStore _ _ _ _ => 2
  | .range _ _ => 2
  | .next _ _ => 2
  | _ => 0

theorem does_of_value {P : Program} {s : Sem Next} {w w' : World} {v : Value} {K : Value → World → Prop} (h : s.run P w = .ok (.value v) w') (hk : K v w') : Does P s w K := by
  unfold Does; rw [h]; exact hk

def dstOf (ops : List Oper) (j : Nat) : Option Nat :=
  match ops[j]? with
  | some o => o.dst
  | none => none

def gd (c want : Bool) (Y N : Prop) : Prop :=
  match c, want with
  | true, true => Y
  | false, false => Y
  | true, false => N
  | false, true => N

theorem gd.mk {c want : Bool} {Y N : Prop} (h1 : c = want → Y) (h2 : c = !want → N) : gd c want Y N := by
  cases c <;> cases want <;> first | exact h1 rfl | exact h2 rfl

@[reducible] def envOf (a : Act) : Env := fun i => a.tmps.getD i undef

theorem ev_envOf (a : Act) : ev (envOf a) = a.eval := by
  funext x; cases x <;> rfl

theorem envOf_put {a : Act} {dst : Option Nat} {v : Value} (h : ∀ d, dst = some d → d < a.tmps.size) : envOf (a.put dst v) = put (envOf a) dst v := by
  cases dst with
  | none => rfl
  | some d =>
    funext i
    have := h d rfl
    simp only [envOf, Act.put, put]
    cases hb : Nat.beq i d
    · have hne : i ≠ d := fun e => by subst e; simp at hb
      simp [Array.getD_eq_getD_getElem?, Array.getElem?_setIfInBounds_ne (Ne.symm hne)]
    · have e := Nat.eq_of_beq_eq_true hb; subst e
      simp [Array.getD_eq_getD_getElem?, Array.getElem?_setIfInBounds_self_of_lt this]

theorem yielded_list (ops : List Oper) (tmps : Array Value) (j : Nat) : yielded ops.toArray tmps j = match dstOf ops j with
        | none => none
        | some d => match tmps[d]? with | some (.bool b) => some b | _ => none := by
  unfold yielded dstOf
  simp only [List.getElem?_toArray]
  cases ops[j]? with
  | none => rfl
  | some o =>
    obtain ⟨dst, op, ty, pos, after, g⟩ := o
    cases dst with
    | none => rfl
    | some d =>
      simp only [Option.bind_some]
      cases tmps[d]? with
      | none => rfl
      | some v => cases v <;> rfl

/-- Each operation writes within the frame, and where it may. -/
def DstOk (n : Nat) (A : Nat → Bool) (ops : List Oper) : Prop := ∀ o ∈ ops, ∀ d, o.dst = some d → d < n ∧ A d = true

/-- A frame of n slots, without deferred calls, that is as the environment outside A. -/
structure Good (n : Nat) (A : Nat → Bool) (e0 : Env) (a : Act) : Prop where
  size : a.tmps.size = n
  defers : a.defers = []
  same : ∀ s, A s = false → envOf a s = e0 s

theorem put_size (a : Act) (d : Option Nat) (v : Value) : (a.put d v).tmps.size = a.tmps.size ∧ (a.put d v).defers = a.defers := by
  cases d <;> simp [Act.put]

theorem Good.envOf_put {n : Nat} {A : Nat → Bool} {e0 : Env} {a : Act} (h : Good n A e0 a) {dst : Option Nat} (hd : ∀ d, dst = some d → d < n ∧ A d = true) (v : Value) :
    envOf (a.put dst v) = put (envOf a) dst v := Cv.envOf_put fun d hd' => by rw [h.size]; exact (hd d hd').1

theorem Good.put {n : Nat} {A : Nat → Bool} {e0 : Env} {a : Act} (h : Good n A e0 a) {dst : Option Nat} (hd : ∀ d, dst = some d → d < n ∧ A d = true) (v : Value) : Good n A e0 (a.put dst v) := by
  refine ⟨(put_size _ _ _).1.trans h.size, (put_size _ _ _).2.trans h.defers, fun s hs => ?_⟩
  rw [h.envOf_put hd]
  cases dst with
  | none => exact h.same s hs
  | some d =>
    simp only [Cv.put]
    cases hb : Nat.beq s d
    · exact h.same s hs
    · have e := Nat.eq_of_beq_eq_true hb; subst e
      have := (hd s rfl).2
      rw [hs] at this; cases this

theorem wp_of_does {P : Program} {o : Oper} {a : Act} {w : World} {K : Act → World → Prop} {Q : Exit → Act → World → Prop}
    (h : Does P (execOp a.eval o) w fun v w' => K (a.put o.dst v) w') : o.wp P a w K Q := by
  unfold Does at h
  unfold Oper.wp
  split at h
  · rename_i v w' hr; rw [hr]; exact h
  · rename_i w' hr; rw [hr]; exact h
  · rename_i f args w' hr
    rw [hr]
    exact h.mono fun e w'' ⟨v, he, hk⟩ => by subst he; exact hk
  · exact h.elim

end Cv

namespace Cv
set_option linter.unusedSimpArgs false
set_option linter.unusedVariables false
open Go

/-- For each operation, as bits: all operations that come ahead of it, directly or through others. -/
def maskOf (acc : List Nat) (o : Oper) : Nat :=
  o.after.toList.foldl (fun s e => bif Region.binds .any e then s ||| 2 ^ e.on ||| acc.getD e.on 0 else s) 0

def befL : List Oper → List Nat → List Nat
  | [], acc => acc
  | o :: rest, acc => befL rest (acc ++ [maskOf acc o])

def Bef (bf : List Nat) (i r : Nat) : Bool := (bf.getD i 0).testBit r

def Closed (ops : List Oper) (L : Nat → Prop) : Prop := ∀ i o, ops[i]? = some o → L i → ∀ e ∈ o.after, Region.binds .any e = true → L e.on

theorem mask_bits {ops : List Oper} {acc : List Nat} {L : Nat → Prop} (hacc : ∀ k, L k → ∀ r, (acc.getD k 0).testBit r = true → L r) :
    ∀ (l : List Edge) (s : Nat), (∀ r, s.testBit r = true → L r) → (∀ e ∈ l, Region.binds .any e = true → L e.on) →
      ∀ r, (l.foldl (fun s e => bif Region.binds .any e then s ||| 2 ^ e.on ||| acc.getD e.on 0 else s) s).testBit r = true → L r
  | [], s, hs, _, r, h => hs r h
  | e :: l, s, hs, hl, r, h => by
    refine mask_bits (ops := ops) hacc l _ ?_ (fun e' he' => hl e' (List.mem_cons_of_mem _ he')) r h
    intro r hr
    dsimp only at hr
    cases hb : Region.binds .any e
    · rw [hb] at hr; exact hs r hr
    · have hon := hl e (by simp) hb
      rw [hb] at hr
      simp only [cond_true, Nat.testBit_or, Nat.testBit_two_pow, Bool.or_eq_true, decide_eq_true_eq] at hr
      rcases hr with (hr | hr) | hr
      · exact hs r hr
      · exact hr ▸ hon
      · exact hacc _ hon r hr

theorem befL_bits {ops : List Oper} {L : Nat → Prop} (hc : Closed ops L) : ∀ (l : List Oper) (acc : List Nat), (∀ j, l[j]? = ops[acc.length + j]?) →
    (∀ k o, k < acc.length → ops[k]? = some o → (∀ e ∈ o.after, Region.binds .any e = true → L e.on) → ∀ r, (acc.getD k 0).testBit r = true → L r) →
    ∀ k o, ops[k]? = some o → (∀ e ∈ o.after, Region.binds .any e = true → L e.on) → ∀ r, ((befL l acc).getD k 0).testBit r = true → L r
  | [], acc, hl, hacc, k, o, ho, hd, r, hr => by
    by_cases hk : k < acc.length
    · exact hacc k o hk ho hd r hr
    · exfalso
      have := hl (k - acc.length)
      rw [show acc.length + (k - acc.length) = k by omega, ho] at this
      simp at this
  | o :: l, acc, hl, hacc, k, o', ho', hd, r, hr => by
    refine befL_bits hc l (acc ++ [maskOf acc o]) ?_ ?_ k o' ho' hd r hr
    · intro j
      have := hl (j + 1)
      simp only [List.length_append, List.length_cons, List.length_nil]
      rw [show acc.length + (0 + 1) + j = acc.length + (j + 1) by omega]
      simpa using this
    · intro k2 o2 hk2 ho2 hd2 r2 hr2
      have hlook : ∀ k, L k → ∀ r, (acc.getD k 0).testBit r = true → L r := by
        intro k3 hL r3 h3
        by_cases hk3 : k3 < acc.length
        · cases ho3 : ops[k3]? with
          | none =>
            exfalso
            have := hl 0
            simp only [Nat.add_zero] at this
            rw [List.getElem?_eq_none_iff] at ho3
            have h4 : acc.length < ops.length := by
              rcases Nat.lt_or_ge acc.length ops.length with h | h
              · exact h
              · rw [List.getElem?_eq_none h] at this; simp at this
            omega
          | some o3 => exact hacc k3 o3 hk3 ho3 (hc k3 o3 ho3 hL) r3 h3
        · simp [List.getD_eq_getElem?_getD, List.getElem?_eq_none (Nat.not_lt.1 hk3)] at h3
      by_cases hk : k2 < acc.length
      · rw [List.getD_eq_getElem?_getD, List.getElem?_append_left hk, ← List.getD_eq_getElem?_getD] at hr2
        exact hacc k2 o2 hk ho2 hd2 r2 hr2
      · have hk' : k2 = acc.length := by simp at hk2; omega
        subst hk'
        rw [List.getD_eq_getElem?_getD, List.getElem?_append_right (Nat.le_refl _)] at hr2
        simp only [Nat.sub_self, List.getElem?_cons_zero, Option.getD_some] at hr2
        have h0 := hl 0
        simp only [List.getElem?_cons_zero, Nat.add_zero] at h0
        rw [ho2] at h0
        cases h0
        exact mask_bits (ops := ops) hlook _ 0 (by simp) (fun e he hb => hd2 e (by simpa using he) hb) r2 hr2

/-- What comes ahead of an operation that may come up now has come up. -/
theorem bef_listed {ops : List Oper} {L : Nat → Prop} (hc : Closed ops L) {i : Nat} {o : Oper} (ho : ops[i]? = some o) (hd : ∀ e ∈ o.after, Region.binds .any e = true → L e.on)
    {r : Nat} (h : Bef (befL ops []) i r = true) : L r :=
  befL_bits hc ops [] (by simp) (by simp) i o ho hd r h

/-! ### Watched values: a quiet operation may be done early, if what it says stays so till its own turn -/

@[reducible] def Mon := Nat × (World → Prop)

def keepM (bf : List Nat) (i : Nat) (M : List Mon) : List Mon := M.filter fun m => !Bef bf i m.1

def AllM (M : List Mon) (w : World) : Prop := ∀ m ∈ M, m.2 w

def upOp (P : Program) (ops : Array Oper) (i : Nat) (K : Act → World → Prop) (a : Act) (w : World) : Prop :=
  match ops[i]? with
  | none => K a w
  | some o => if Region.wanted o (yielded ops a.tmps) then Does P (execOp a.eval o) w (fun v w' => K (a.put o.dst v) w') else K (a.put o.dst undef) w

theorem Does.mono {P : Program} {s : Sem Next} {w : World} {K K' : Value → World → Prop} (h : Does P s w K) (hk : ∀ v w', K v w' → K' v w') : Does P s w K' := by
  unfold Does at *
  split at h
  · exact hk _ _ h
  · exact hk _ _ h
  · exact h.mono fun e w'' ⟨v, he, h⟩ => ⟨v, he, hk _ _ h⟩
  · exact h

theorem upOp_mono {P : Program} {ops : Array Oper} {i : Nat} {K K' : Act → World → Prop} {a : Act} {w : World} (h : upOp P ops i K a w) (hk : ∀ a w, K a w → K' a w) : upOp P ops i K' a w := by
  unfold upOp at *
  split
  · rename_i ho; simp only [ho] at h; exact hk _ _ h
  · rename_i o ho
    simp only [ho] at h
    split
    · rename_i hw; rw [if_pos hw] at h; exact h.mono fun v w' => hk _ _
    · rename_i hw; rw [if_neg hw] at h; exact hk _ _ h

def anyM (P : Program) (ops : Array Oper) (bf : List Nat) (Q : Act → World → Prop) : Nat → List Mon → Array Bool → Act → World → Prop
  | 0, _, listed, a, w => Region.ready .any ops listed = [] ∧ Q a w
  | fuel + 1, M, listed, a, w =>
    (Region.ready .any ops listed = [] → Q a w) ∧
    ∀ i ∈ Region.ready .any ops listed, upOp P ops i (fun a' w' => AllM (keepM bf i M) w' ∧ anyM P ops bf Q fuel (keepM bf i M) (listed.setIfInBounds i true) a' w') a w

theorem keepM_sub {bf : List Nat} {i : Nat} {M M' : List Mon} (h : ∀ m ∈ M', m ∈ M) : ∀ m ∈ keepM bf i M', m ∈ keepM bf i M := by
  intro m hm
  simp only [keepM, List.mem_filter] at hm ⊢
  exact ⟨h m hm.1, hm.2⟩

theorem anyM_sub {P : Program} {ops : Array Oper} {bf : List Nat} {Q : Act → World → Prop} : ∀ (fuel : Nat) {M M' : List Mon} (listed : Array Bool) (a : Act) (w : World),
    (∀ m ∈ M', m ∈ M) → anyM P ops bf Q fuel M listed a w → anyM P ops bf Q fuel M' listed a w
  | 0, _, _, _, _, _, _, h => h
  | fuel + 1, M, M', listed, a, w, hs, h => ⟨h.1, fun i hi => upOp_mono (h.2 i hi) fun a' w' hh =>
      ⟨fun m hm => hh.1 m (keepM_sub hs m hm), anyM_sub fuel _ _ _ (keepM_sub hs) hh.2⟩⟩

theorem wpAny_of_anyM {P : Program} {ops : Array Oper} {bf : List Nat} {Q : Act → World → Prop} {Q' : Exit → Act → World → Prop} (hQ : ∀ a w, Q a w → Q' .normal a w) :
    ∀ (fuel : Nat) {M : List Mon} (listed : Array Bool) (a : Act) (w : World), anyM P ops bf Q fuel M listed a w → wpAny P .any ops Q' fuel listed a w
  | 0, _, _, _, _, h => ⟨h.1, hQ _ _ h.2⟩
  | fuel + 1, M, listed, a, w, h => ⟨fun h0 => hQ _ _ (h.1 h0), fun i hi => by
      have := h.2 i hi
      unfold upOp at this
      unfold wpOp
      split
      · rename_i ho; simp only [ho] at this; exact wpAny_of_anyM hQ fuel _ _ _ this.2
      · rename_i o ho
        simp only [ho] at this
        split
        · rename_i hw; rw [if_pos hw] at this; exact .inl (wp_of_does (this.mono fun v w' hh => wpAny_of_anyM hQ fuel _ _ _ hh.2))
        · rename_i hw; rw [if_neg hw] at this; exact wpAny_of_anyM hQ fuel _ _ _ this.2⟩

/-- In state 'a', in the world 'w', operation 'o' says 'v', and leaves the world. -/
def Says (P : Program) (ops : Array Oper) (o : Oper) (v : Value) (a : Act) (w : World) : Prop :=
  (Region.wanted o (yielded ops a.tmps) = true ∧ (execOp a.eval o).run P w = .ok (.value v) w) ∨ (Region.wanted o (yielded ops a.tmps) = false ∧ v = undef)

theorem says_upOp {P : Program} {ops : Array Oper} {i : Nat} {o : Oper} {v : Value} {a : Act} {w : World} {K : Act → World → Prop} (hi : ops[i]? = some o) (h : Says P ops o v a w) (hk : K (a.put o.dst v) w) : upOp P ops i K a w := by
  unfold upOp
  simp only [hi]
  rcases h with ⟨hw, hr⟩ | ⟨hw, rfl⟩
  · rw [if_pos hw]; exact does_of_value hr hk
  · rw [if_neg (by rw [hw]; simp)]; exact hk

theorem listed_lt {listed : Array Bool} {i : Nat} (h : listed.getD i true = false) : i < listed.size := by
  rcases Nat.lt_or_ge i listed.size with h' | h'
  · exact h'
  · simp [Array.getD_eq_getD_getElem?, Array.getElem?_eq_none h'] at h

def IsListed (listed : Array Bool) (i : Nat) : Prop := listed.getD i false = true

theorem isListed_set {listed : Array Bool} {i j : Nat} (h : IsListed listed j) : IsListed (listed.setIfInBounds i true) j := by
  unfold IsListed at *
  by_cases hij : i = j
  · subst hij
    have : i < listed.size := by
      rcases Nat.lt_or_ge i listed.size with h' | h'
      · exact h'
      · simp [Array.getD_eq_getD_getElem?, Array.getElem?_eq_none h'] at h
    simp [Array.getD_eq_getD_getElem?, Array.getElem?_setIfInBounds_self_of_lt this]
  · simpa [Array.getD_eq_getD_getElem?, Array.getElem?_setIfInBounds_ne hij] using h

theorem isListed_set_inv {listed : Array Bool} {i j : Nat} (h : IsListed (listed.setIfInBounds i true) j) : j = i ∨ IsListed listed j := by
  unfold IsListed at *
  by_cases hij : i = j
  · exact .inl hij.symm
  · right; simpa [Array.getD_eq_getD_getElem?, Array.getElem?_setIfInBounds_ne hij] using h

theorem not_listed {listed : Array Bool} {i : Nat} (h : listed.getD i true = false) : ¬ IsListed listed i := by
  unfold IsListed
  have := listed_lt h
  simp only [Array.getD_eq_getD_getElem?, Array.getElem?_eq_getElem this] at h ⊢
  simp at h ⊢
  exact h

/-- The set of what has come up is closed: with each operation all that must come ahead of it. -/
theorem closed_set {ops : List Oper} {listed : Array Bool} (hc : Closed ops (IsListed listed)) {i : Nat} (hi : i ∈ Region.ready .any ops.toArray listed) : Closed ops (IsListed (listed.setIfInBounds i true)) := by
  intro j o ho hj e he hb
  rcases isListed_set_inv hj with rfl | hj
  · obtain ⟨_, o', ho', hall⟩ := mem_ready.1 hi
    simp only [List.getElem?_toArray] at ho'
    rw [ho] at ho'
    cases ho'
    exact isListed_set (hall e he hb)
  · exact isListed_set (hc j o ho hj e he hb)

/-- Which pairs need no order: neither looks at, nor writes, where the other one writes. -/
def drawOk (ops : List Oper) (bf : List Nat) : Bool :=
  Region.noSelect ops.toArray && (List.range ops.length).all fun i => (List.range i).all fun j =>
    match ops[i]?, ops[j]? with
    | some oi, some oj => Bef bf i j || (oi.apart ops.toArray oj && oj.apart ops.toArray oi)
    | _, _ => true

theorem drawOk_spec {ops : List Oper} {bf : List Nat} (h : drawOk ops bf = true) {i j : Nat} {oi oj : Oper} (hi : ops[i]? = some oi) (hj : ops[j]? = some oj) (hne : i ≠ j)
    (h1 : Bef bf i j = false) (h2 : Bef bf j i = false) : oi.apart ops.toArray oj = true := by
  simp only [drawOk, Bool.and_eq_true, List.all_eq_true, List.mem_range] at h
  have lt : ∀ {k : Nat} {o : Oper}, ops[k]? = some o → k < ops.length := fun {k o} hk => by
    rcases Nat.lt_or_ge k ops.length with h' | h'
    · exact h'
    · rw [List.getElem?_eq_none h'] at hk; cases hk
  rcases Nat.lt_or_gt_of_ne hne with hlt | hlt
  · have := h.2 j (lt hj) i hlt
    simp only [hi, hj, h2, Bool.false_or, Bool.and_eq_true] at this
    exact this.2
  · have := h.2 i (lt hi) j hlt
    simp only [hi, hj, h1, Bool.false_or, Bool.and_eq_true] at this
    exact this.1

theorem says_put {P : Program} {ops : Array Oper} {o : Oper} {v u : Value} {a : Act} {w : World} {d : Option Tmp} (hs : ∀ cs b, o.op ≠ .select cs b) (hd : ∀ t, d = some t → t ∉ o.looksAt ops) :
    Says P ops o v (a.put d u) w ↔ Says P ops o v a w := by
  unfold Says
  rw [execOp_put o hs a d u hd, wanted_put o a d u hd]

theorem upOp_put {P : Program} {ops : Array Oper} {j : Nat} {oi oj : Oper} {v : Value} (hj : ops[j]? = some oj) (hap : oi.apart ops oj = true) (hsj : ∀ cs b, oj.op ≠ .select cs b)
    {K : Act → World → Prop} {a : Act} {w : World} (h : upOp P ops j K (a.put oi.dst v) w) :
    upOp P ops j (fun a' w' => (∃ u, a' = a.put oj.dst u) ∧ K (a'.put oi.dst v) w') a w := by
  obtain ⟨h1, h2, h3⟩ := Oper.apart_spec hap
  unfold upOp at *
  simp only [hj] at *
  rw [wanted_put oj a oi.dst v h1] at h
  split
  · rename_i hw
    rw [if_pos hw] at h
    rw [execOp_put oj hsj a oi.dst v h1] at h
    refine h.mono fun u w' hk => ⟨⟨u, rfl⟩, ?_⟩
    rw [← Act.put_comm a v u h2]; exact hk
  · rename_i hw
    rw [if_neg hw] at h
    exact ⟨⟨_, rfl⟩, by rw [← Act.put_comm a v undef h2]; exact h⟩

/-- **A quiet operation that may come up now may be taken first**, if it is watched till its own turn. -/
theorem anyM_first {P : Program} {ops : List Oper} {Q : Act → World → Prop} (hok : drawOk ops (befL ops []) = true) {r : Nat} {o : Oper} {v : Value} (hr : ops[r]? = some o) :
    ∀ (fuel : Nat) (M : List Mon) (listed : Array Bool) (a : Act) (w : World), Closed ops (IsListed listed) → r ∈ Region.ready .any ops.toArray listed →
      Says P ops.toArray o v a w → AllM M w →
      anyM P ops.toArray (befL ops []) Q fuel ((r, fun w => Says P ops.toArray o v a w) :: M) (listed.setIfInBounds r true) (a.put o.dst v) w →
      anyM P ops.toArray (befL ops []) Q (fuel + 1) M listed a w := by
  have hns : ∀ (i : Nat) (o : Oper), ops[i]? = some o → ∀ cs b, o.op ≠ .select cs b := by
    intro i o hi cs b
    simp only [drawOk, Bool.and_eq_true] at hok
    exact Region.noSelect_spec hok.1 i o cs b (by simpa using hi)
  intro fuel
  induction fuel with
  | zero =>
    intro M listed a w hc hrr hs hM H
    refine ⟨fun h => (by rw [h] at hrr; cases hrr), fun i hi => ?_⟩
    by_cases hir : i = r
    · subst hir
      refine says_upOp (by simpa using hr) hs ⟨fun m hm => hM m (by simp only [keepM, List.mem_filter] at hm; exact hm.1), ?_⟩
      exact H
    · have := ready_mono hi hir
      rw [H.1] at this
      cases this
  | succ fuel ih =>
    intro M listed a w hc hrr hs hM H
    refine ⟨fun h => (by rw [h] at hrr; cases hrr), fun i hi => ?_⟩
    by_cases hir : i = r
    · subst hir
      refine says_upOp (by simpa using hr) hs ⟨fun m hm => hM m (by simp only [keepM, List.mem_filter] at hm; exact hm.1), ?_⟩
      refine anyM_sub _ _ _ _ ?_ H
      intro m hm
      simp only [keepM, List.mem_filter] at hm
      exact List.mem_cons_of_mem _ hm.1
    · have h1 := H.2 i (ready_mono hi hir)
      obtain ⟨hiun, oi, hoi, hall⟩ := mem_ready.1 hi
      obtain ⟨hrun, o', ho', hrall⟩ := mem_ready.1 hrr
      simp only [List.getElem?_toArray] at hoi ho'
      rw [hr] at ho'
      cases ho'
      have hL : ∀ (k : Nat) (ok : Oper), ops[k]? = some ok → (∀ e ∈ ok.after, Region.binds .any e = true → listed.getD e.on false = true) → ∀ q, Bef (befL ops []) k q = true → IsListed listed q :=
        fun k ok hk hd q hq => bef_listed hc hk hd hq
      have nri : Bef (befL ops []) i r = false := by
        cases hb : Bef (befL ops []) i r with
        | false => rfl
        | true => exact absurd (hL i oi hoi hall r hb) (not_listed hrun)
      have nir : Bef (befL ops []) r i = false := by
        cases hb : Bef (befL ops []) r i with
        | false => rfl
        | true => exact absurd (hL r o hr hrall i hb) (not_listed hiun)
      have hap := drawOk_spec hok hr hoi (Ne.symm hir) nir nri
      have h2 := upOp_put (by simpa using hoi) hap (hns i oi hoi) h1
      have hap' := (Oper.apart_spec hap).2.2
      have hkeep : keepM (befL ops []) i ((r, fun w => Says P ops.toArray o v a w) :: M) = (r, fun w => Says P ops.toArray o v a w) :: keepM (befL ops []) i M := by
        simp [keepM, nri]
      refine upOp_mono h2 fun a' w' hh => ?_
      obtain ⟨⟨u, rfl⟩, hA, hB⟩ := hh
      rw [hkeep] at hA hB
      have hs' : ∀ w, Says P ops.toArray o v (a.put oi.dst u) w ↔ Says P ops.toArray o v a w := fun w => says_put (hns r o hr) hap'
      refine ⟨fun m hm => hA m (List.mem_cons_of_mem _ hm), ?_⟩
      have hfun : (fun w => Says P ops.toArray o v a w) = fun w => Says P ops.toArray o v (a.put oi.dst u) w := by
        funext w; exact propext (hs' w).symm
      rw [hfun] at hA hB
      refine ih _ _ _ _ (closed_set hc hi) (ready_mono hrr (Ne.symm hir)) (hA _ List.mem_cons_self) (fun m hm => hA m (List.mem_cons_of_mem _ hm)) ?_
      rw [Array.setIfInBounds_comm _ _ hir]
      exact hB

end Cv

namespace Cv
set_option linter.unusedSimpArgs false
set_option linter.unusedVariables false
open Go

/-- That an operation says the same again. -/
def still (P : Program) (o : Oper) (ρ : Env) (v : Value) (w : World) : Prop :=
  match o.op with
  | .load t x =>
    match ev ρ x with
    | .pointer p => nilN p fun a => Holds P t a w v
    | _ => False
  | .lookup t m k ok => RunsTo P (Instr.lookup t (ev ρ m) (ev ρ k) ok) w v
  | .convert s d x => RunsTo P (convert s d (ev ρ x)) w v
  | .binOp op t x y _ => RunsTo P (do eqGuard op t x y (ev ρ x) (ev ρ y); binOp op t (ev ρ x) (ev ρ y)) w v
  | .call { callee := .builtin .len, args, argTypes } => RunsTo P (Builtin.len_ argTypes o.type (args.map (ev ρ))) w v
  | _ => False

def allV : List Nat → (Nat → Prop) → Prop
  | [], _ => True
  | [e], f => f e
  | e :: es, f => f e ∧ allV es f

theorem allV_out : ∀ {l : List Nat} {f : Nat → Prop}, allV l f → ∀ i ∈ l, f i
  | [], _, _, i, hi => by cases hi
  | [e], f, h, i, hi => by rcases List.mem_singleton.1 hi with rfl; exact h
  | e :: e' :: es, f, h, i, hi => by
    rcases List.mem_cons.1 hi with rfl | hi
    · exact h.1
    · exact allV_out h.2 i hi

theorem dst_at {n : Nat} {A : Nat → Bool} {l : List Oper} (h : DstOk n A l) {i : Nat} {o : Oper} (ho : l[i]? = some o) : ∀ d, o.dst = some d → d < n ∧ A d = true :=
  h o (List.mem_of_getElem? ho)

theorem anyM_watch {P : Program} {ops : Array Oper} {bf : List Nat} {Q : Act → World → Prop} {i : Nat} {f : World → Prop} (hf : ∀ w, f w) :
    ∀ (fuel : Nat) {M : List Mon} (listed : Array Bool) (a : Act) (w : World), anyM P ops bf Q fuel M listed a w → anyM P ops bf Q fuel ((i, f) :: M) listed a w
  | 0, _, _, _, _, h => h
  | fuel + 1, M, listed, a, w, h => ⟨h.1, fun j hj => upOp_mono (h.2 j hj) fun a' w' hh => by
      have hk : keepM bf j ((i, f) :: M) = if Bef bf j i then keepM bf j M else (i, f) :: keepM bf j M := by
        simp only [keepM, List.filter_cons]
        cases Bef bf j i <;> simp
      rw [hk]
      cases Bef bf j i
      · refine ⟨fun m hm => ?_, anyM_watch hf fuel _ _ _ hh.2⟩
        simp only [Bool.false_eq_true, if_false, List.mem_cons] at hm
        rcases hm with rfl | hm
        · exact hf w'
        · exact hh.1 m hm
      · exact hh⟩

end Cv

namespace Cv
set_option linter.unusedSimpArgs false
set_option linter.unusedVariables false
open Go

/-- What is told of a loop: what its changing slots hold, by an index; and which slots it leaves alone. -/
structure LAnn where
  ι : Type
  chg : ι → List (Nat × Value)
  fix : List Nat

def memN (s : Nat) : List Nat → Bool
  | [] => false
  | x :: l => bif Nat.beq s x then true else memN s l

theorem memN_iff {s : Nat} : ∀ {l : List Nat}, memN s l = true ↔ s ∈ l
  | [] => by simp [memN]
  | x :: l => by
    simp only [memN]
    cases hb : Nat.beq s x
    · have hne : s ≠ x := fun e => by subst e; simp at hb
      simp [memN_iff, hne]
    · have := Nat.eq_of_beq_eq_true hb
      simp [this]

/-- The slots that code may write. -/
def asg : Code → List Nat
  | .region _ ops _ => ops.toList.filterMap (·.dst)
  | .seq a b => asg a ++ asg b
  | .cond _ a b => asg a ++ asg b
  | .block _ a => asg a
  | .loop a => asg a
  | _ => []

def nL : Code → Nat
  | .seq a b => nL a + nL b
  | .cond _ a b => nL a + nL b
  | .block _ a => nL a
  | .loop a => nL a + 1
  | _ => 0

def cnd (t : Bool) (A B : Prop) : Prop :=
  match t with
  | true => A
  | false => B

theorem cnd.mk {t : Bool} {A B : Prop} (h1 : t = true → A) (h2 : t = false → B) : cnd t A B := by
  cases t
  · exact h2 rfl
  · exact h1 rfl

def DrewN (w : World) (K : World → Prop) : Prop := ∀ w', w' = w.drew → K w'

/-- What a computation is asked of code and of what is told of its loops. -/
def okC (n : Nat) : Code → Bool
  | .region _ ops d => (ops.toList.all fun o => match o.dst with | none => true | some d => Nat.blt d n) && (bif d then drawOk ops.toList (befL ops.toList []) else true)
  | .seq a b => okC n a && okC n b
  | .cond _ a b => okC n a && okC n b
  | .block _ a => okC n a
  | .loop a => okC n a
  | _ => true

theorem dstOk_of {n : Nat} {A : Nat → Bool} {ops : List Oper} (h : (ops.all fun o => match o.dst with | none => true | some d => Nat.blt d n) = true) (hA : ∀ s ∈ ops.filterMap (·.dst), A s = true) : DstOk n A ops := by
  intro o ho d hd
  have := List.all_eq_true.1 h o ho
  rw [hd] at this
  exact ⟨by simpa [Nat.blt_eq] using this, hA d (List.mem_filterMap.2 ⟨o, ho, hd⟩)⟩

end Cv

namespace Cv
set_option linter.unusedSimpArgs false
set_option linter.unusedVariables false
open Go

/-- A string of bytes, by their numbers. -/
def bs (l : List Nat) : ByteArray := ⟨(l.map Nat.toUInt8).toArray⟩

def oneOr : List Value → Value
  | [v] => v
  | vs => .tuple vs.toArray

def initEnv (args : List Value) : Env := fun i => args.getD i undef

def resS (tmps : Array Value) : ResultVar → Sem Value
  | .tmp t => pure (tmps.getD t undef)
  | .cell a t => (asAddr (tmps.getD a undef)).bind fun ad => loadVar t ad

theorem results_any {P : Program} {tmps : Array Value} {w : World} {vs : List Value} {rs : List ResultVar} (h : (rs.mapM (resS tmps)).run P w = .ok vs w) (F : ResultVar → Sem Value) (hF : ∀ r, F r = resS tmps r) :
    ((rs.mapM F).bind fun vs => Sem.pure (if h : vs.toArray.size = 1 then vs.toArray[0] else .tuple vs.toArray)).run P w = .ok (oneOr vs) w := by
  obtain rfl : F = resS tmps := funext hF
  rw [run_bind, h]
  simp only [Sem.run]
  cases vs with
  | nil => rfl
  | cons v vs =>
    cases vs with
    | nil => rfl
    | cons u us => simp [oneOr]

end Cv

namespace Cv
set_option linter.unusedSimpArgs false
set_option linter.unusedVariables false
open Go Go.RowKit

@[reducible] def PH := Nat → Option Obj
@[reducible] def HP := PH → Prop

def pe : PH := fun _ => none
def one (b : Nat) (o : Obj) : PH := fun x => if x = b then some o else none
def Dj (g h : PH) : Prop := ∀ b, g b = none ∨ h b = none
def Sub (h : PH) (w : World) : Prop := ∀ b o, h b = some o → w.heap[b]? = some o
def un (g h : PH) : PH := fun b => match g b with | some o => some o | none => h b

theorem Dj.symm {g h : PH} (d : Dj g h) : Dj h g := fun b => (d b).symm
theorem Dj.pe (h : PH) : Dj pe h := fun _ => .inl rfl
theorem dj_un_l {g g' h : PH} (d : Dj g h) (d' : Dj g' h) : Dj (un g g') h := fun b => by
  rcases d b with e | e
  · rcases d' b with e' | e'
    · left; simp [un, e, e']
    · exact .inr e'
  · exact .inr e
theorem dj_of_un_l {g g' h : PH} (d : Dj (un g g') h) (dg : Dj g g') : Dj g h ∧ Dj g' h := by
  refine ⟨fun b => ?_, fun b => ?_⟩
  · rcases d b with e | e
    · left; simp only [un] at e; cases hg : g b with
      | none => rfl
      | some o => rw [hg] at e; cases e
    · exact .inr e
  · rcases d b with e | e
    · left; simp only [un] at e; cases hg : g b with
      | none => rw [hg] at e; exact e
      | some o => rw [hg] at e; cases e
    · exact .inr e
theorem sub_un {g h : PH} {w : World} (a : Sub g w) (b : Sub h w) : Sub (un g h) w := fun x o e => by
  simp only [un] at e
  cases hg : g x with
  | some o' => rw [hg] at e; cases e; exact a x _ hg
  | none => rw [hg] at e; exact b x o e
theorem sub_of_un {g h : PH} {w : World} (s : Sub (un g h) w) (d : Dj g h) : Sub g w ∧ Sub h w := by
  refine ⟨fun x o e => s x o (by simp [un, e]), fun x o e => s x o ?_⟩
  rcases d x with e' | e'
  · simp [un, e', e]
  · rw [e] at e'; cases e'
theorem Sub.pe (w : World) : Sub Cv.pe w := fun _ _ e => by cases e
theorem Sub.lt {h : PH} {w : World} (s : Sub h w) {b : Nat} (hb : h b ≠ none) : b < w.heap.size := by
  cases e : h b with
  | none => exact absurd e hb
  | some o =>
    have := s b o e
    rcases Nat.lt_or_ge b w.heap.size with h' | h'
    · exact h'
    · rw [Array.getElem?_eq_none h'] at this; cases this

/-- What stays the same through a call, besides memory. -/
structure Ko where
  os : Os
  tape : Nat → Question → Nat
  output : Array (Nat × ByteArray)

def ko (w : World) : Ko := ⟨w.os, w.tape, w.output⟩
def Kon (k : Ko) (w : World) : Prop := w.os = k.os ∧ w.tape = k.tape ∧ w.output = k.output

inductive Hs (w : World) : List HP → List PH → Prop
  | nil : Hs w [] []
  | cons {A : HP} {h : PH} {L : List HP} {hs : List PH} : A h → Sub h w → (∀ g ∈ hs, Dj h g) → Hs w L hs → Hs w (A :: L) (h :: hs)

/-- In the world w there are, apart from each other, these. -/
def Hp (k : Ko) (w : World) (L : List HP) : Prop := Kon k w ∧ ∃ hs, Hs w L hs

/-- In the world w there is this (perhaps with others in the same place). -/
def Sat (w : World) (A : HP) : Prop := ∃ h, A h ∧ Sub h w

theorem Hs.perm {w : World} {L L' : List HP} (p : L.Perm L') : ∀ {hs : List PH}, Hs w L hs → ∃ hs', Hs w L' hs' ∧ hs.Perm hs' := by
  induction p with
  | nil => intro hs h; cases h; exact ⟨[], .nil, .nil⟩
  | cons A _ ih =>
    intro hs h
    cases h with
    | cons ha hsub hd hr =>
      obtain ⟨hs', h1, h2⟩ := ih hr
      exact ⟨_, .cons ha hsub (fun g hg => hd g (h2.mem_iff.2 hg)) h1, .cons _ h2⟩
  | swap A B L =>
    intro hs h
    cases h with
    | cons hb hbs hbd hr =>
      cases hr with
      | cons ha has had hr =>
        refine ⟨_, .cons ha has ?_ (.cons hb hbs (fun g hg => hbd g (List.mem_cons_of_mem _ hg)) hr), .swap _ _ _⟩
        intro g hg
        rcases List.mem_cons.1 hg with rfl | hg
        · exact (hbd _ List.mem_cons_self).symm
        · exact had g hg
  | trans _ _ ih1 ih2 =>
    intro hs h
    obtain ⟨hs1, h1, p1⟩ := ih1 h
    obtain ⟨hs2, h2, p2⟩ := ih2 h1
    exact ⟨hs2, h2, p1.trans p2⟩

theorem Hp.perm {k : Ko} {w : World} {L L' : List HP} (H : Hp k w L) (p : L.Perm L') : Hp k w L' :=
  ⟨H.1, let ⟨_, h⟩ := H.2; let ⟨hs', h', _⟩ := h.perm p; ⟨hs', h'⟩⟩

theorem Hp.drop {k : Ko} {w : World} {A : HP} {L : List HP} (H : Hp k w (A :: L)) : Hp k w L := by
  obtain ⟨hk, hs, hh⟩ := H
  cases hh with
  | cons _ _ _ hr => exact ⟨hk, _, hr⟩

theorem Hp.sat {k : Ko} {w : World} {A : HP} {L : List HP} (H : Hp k w (A :: L)) : Sat w A := by
  obtain ⟨hk, hs, hh⟩ := H
  cases hh with
  | cons ha hsub _ _ => exact ⟨_, ha, hsub⟩

theorem Hp.imp {k : Ko} {w : World} {A B : HP} {L : List HP} (H : Hp k w (A :: L)) (h : ∀ x, A x → B x) : Hp k w (B :: L) := by
  obtain ⟨hk, hs, hh⟩ := H
  cases hh with
  | cons ha hsub hd hr => exact ⟨hk, _, .cons (h _ ha) hsub hd hr⟩

/-! ### Assertions -/
def pt (b : Nat) (o : Obj) : HP := fun h => h = one b o
def hEx {α : Type} (F : α → HP) : HP := fun h => ∃ x, F x h
def hPu (p : Prop) : HP := fun h => p ∧ h = pe
def hS2 (A B : HP) : HP := fun h => ∃ g g', A g ∧ B g' ∧ Dj g g' ∧ h = un g g'
def hS : List HP → HP
  | [] => fun h => h = pe
  | [A] => A
  | A :: L => hS2 A (hS L)

theorem hp_pure {k : Ko} {w : World} {p : Prop} {L : List HP} : Hp k w (hPu p :: L) ↔ p ∧ Hp k w L := by
  constructor
  · rintro ⟨hk, hs, hh⟩
    cases hh with
    | cons ha hsub hd hr => exact ⟨ha.1, hk, _, hr⟩
  · rintro ⟨hp, hk, hs, hh⟩
    exact ⟨hk, _, .cons ⟨hp, rfl⟩ (Sub.pe w) (fun g _ => Dj.pe g) hh⟩

theorem hp_star2 {k : Ko} {w : World} {A B : HP} {L : List HP} : Hp k w (hS2 A B :: L) ↔ Hp k w (A :: B :: L) := by
  constructor
  · rintro ⟨hk, hs, hh⟩
    cases hh with
    | cons ha hsub hd hr =>
      obtain ⟨g, g', h1, h2, h3, rfl⟩ := ha
      obtain ⟨s1, s2⟩ := sub_of_un hsub h3
      refine ⟨hk, _, .cons h1 s1 ?_ (.cons h2 s2 (fun x hx => (dj_of_un_l (hd x hx) h3).2) hr)⟩
      intro x hx
      rcases List.mem_cons.1 hx with rfl | hx
      · exact h3
      · exact (dj_of_un_l (hd x hx) h3).1
  · rintro ⟨hk, hs, hh⟩
    cases hh with
    | cons h1 s1 d1 hr =>
      cases hr with
      | cons h2 s2 d2 hr =>
        exact ⟨hk, _, .cons ⟨_, _, h1, h2, d1 _ List.mem_cons_self, rfl⟩ (sub_un s1 s2) (fun x hx => dj_un_l (d1 x (List.mem_cons_of_mem _ hx)) (d2 x hx)) hr⟩

theorem hp_star0 {k : Ko} {w : World} {L : List HP} : Hp k w (hS [] :: L) ↔ Hp k w L := by
  have e : hS [] = hPu True := by funext h; simp [hS, hPu]
  rw [e, hp_pure]
  exact ⟨fun h => h.2, fun h => ⟨trivial, h⟩⟩
theorem hp_starC {k : Ko} {w : World} {A B : HP} {l L : List HP} : Hp k w (hS (A :: B :: l) :: L) ↔ Hp k w (A :: hS (B :: l) :: L) := hp_star2

theorem Hp.swap {k : Ko} {w : World} {A B : HP} {L : List HP} (H : Hp k w (A :: B :: L)) : Hp k w (B :: A :: L) := H.perm (.swap _ _ _)
theorem Hp.cons {k : Ko} {w : World} {A : HP} {L L' : List HP} (H : Hp k w (A :: L)) (p : L.Perm L') : Hp k w (A :: L') := H.perm (.cons _ p)

theorem hp_star {k : Ko} {w : World} : ∀ {l L : List HP}, Hp k w (hS l :: L) ↔ Hp k w (l ++ L)
  | [], L => hp_star0
  | [A], L => Iff.rfl
  | A :: B :: l, L => by
    rw [hp_starC]
    constructor
    · intro h
      have h1 := (hp_star (l := B :: l) (L := A :: L)).1 h.swap
      refine h1.perm ?_
      exact List.perm_middle
    · intro h
      have h1 : Hp k w ((B :: l) ++ (A :: L)) := h.perm (List.perm_middle (l₁ := B :: l)).symm
      exact ((hp_star (l := B :: l) (L := A :: L)).2 h1).swap

/-! ### Steps -/
theorem Hp.ko {k : Ko} {w : World} {L : List HP} (H : Hp k w L) : Kon k w := H.1

theorem Hs.move {w w' : World} (h : ∀ (x : PH), Sub x w → Sub x w') : ∀ {L : List HP} {hs : List PH}, Hs w L hs → Hs w' L hs
  | _, _, .nil => .nil
  | _, _, .cons ha hsub hd hr => .cons ha (h _ hsub) hd (hr.move h)

theorem sub_below {w w' : World} (h : Below w.heap.size w w') {x : PH} (s : Sub x w) : Sub x w' := fun b o e => by
  rw [h.block b (s.lt (by rw [e]; simp))]
  exact s b o e

theorem kon_below {k : Ko} {B : Nat} {w w' : World} (h : Below B w w') (hk : Kon k w) : Kon k w' := ⟨h.os.trans hk.1, h.tape.trans hk.2.1, h.output.trans hk.2.2⟩

theorem Hp.below {k : Ko} {w w' : World} {L : List HP} (H : Hp k w L) (h : Below w.heap.size w w') : Hp k w' L :=
  ⟨kon_below h H.1, let ⟨hs, hh⟩ := H.2; ⟨hs, hh.move fun _ s => sub_below h s⟩⟩

theorem Sat.below {w w' : World} {A : HP} (H : Sat w A) (h : Below w.heap.size w w') : Sat w' A := let ⟨x, a, s⟩ := H; ⟨x, a, sub_below h s⟩

theorem Hp.drew {k : Ko} {w : World} {L : List HP} (H : Hp k w L) : Hp k w.drew L := H.below ((Below.refl _ _).drew)

theorem Hp.new {k : Ko} {w : World} {L : List HP} (H : Hp k w L) (o : Obj) : Hp k (w.alloc o) (pt w.heap.size o :: L) := by
  have hb : Below w.heap.size w (w.alloc o) := (Below.refl _ _).alloc (Nat.le_refl _) o
  obtain ⟨hk, hs, hh⟩ := H
  refine ⟨kon_below hb hk, _, .cons rfl ?_ ?_ (hh.move fun _ s => sub_below hb s)⟩
  · intro b o' e
    simp only [one] at e
    split at e
    · rename_i hb'; subst hb'; cases e; exact heap_alloc_new w o
    · cases e
  · intro g hg
    have hsub : ∀ {L : List HP} {hs : List PH}, Hs w L hs → ∀ g ∈ hs, Sub g w := by
      intro L hs hh
      induction hh with
      | nil => intro g hg; cases hg
      | cons _ hs _ _ ih =>
        intro g hg
        rcases List.mem_cons.1 hg with rfl | hg
        · exact hs
        · exact ih g hg
    intro b
    by_cases hb' : b = w.heap.size
    · right
      cases hgb : g b with
      | none => rfl
      | some o' =>
        have := (hsub hh g hg).lt (b := b) (by rw [hgb]; simp)
        omega
    · left; simp [one, hb']

def World.setB (w : World) (b : Nat) (o : Obj) : World := { w with heap := w.heap.setIfInBounds b o }

theorem Hp.get {k : Ko} {w : World} {b : Nat} {o : Obj} {L : List HP} (H : Hp k w (pt b o :: L)) : w.heap[b]? = some o := by
  obtain ⟨h, rfl, s⟩ := H.sat
  exact s b o (by simp [one])

theorem Hp.upd {k : Ko} {w : World} {b : Nat} {o : Obj} {L : List HP} (H : Hp k w (pt b o :: L)) (o' : Obj) : Hp k (World.setB w b o') (pt b o' :: L) := by
  have hget := H.get
  obtain ⟨hk, hs, hh⟩ := H
  cases hh with
  | cons ha hsub hd hr =>
    cases ha
    have hlt : b < w.heap.size := hsub.lt (b := b) (by simp [one])
    rename_i hs
    have s0 : Sub (one b o') (World.setB w b o') := by
      intro x o2 e
      simp only [one] at e
      split at e
      · rename_i hx; subst hx; cases e; simp [World.setB, Array.getElem?_setIfInBounds_self_of_lt hlt]
      · cases e
    have d0 : ∀ g ∈ hs, Dj (one b o') g := by
      intro g hg x
      rcases hd g hg x with e | e
      · left; simp only [one] at e ⊢; split at e <;> simp_all
      · exact .inr e
    have key : ∀ {L : List HP} {hs : List PH}, Hs w L hs → (∀ g ∈ hs, Dj (one b o) g) → Hs (World.setB w b o') L hs := by
      intro L hs hh
      induction hh with
      | nil => intro _; exact .nil
      | cons ha hs' hd' _ ih =>
        intro hdj
        refine .cons ha ?_ hd' (ih fun g hg => hdj g (List.mem_cons_of_mem _ hg))
        intro x o2 e
        have hne : x ≠ b := by
          intro hx
          subst hx
          rcases hdj _ List.mem_cons_self x with e' | e'
          · simp [one] at e'
          · rw [e] at e'; cases e'
        simp only [World.setB]
        rw [Array.getElem?_setIfInBounds_ne (Ne.symm hne)]
        exact hs' x o2 e
    exact ⟨hk, _, .cons rfl s0 d0 (key hr hd)⟩

/-! ### The whole of an older heap, as one part -/
def base (w0 : World) : HP := fun h => h = fun b => w0.heap[b]?

theorem Hp.start (w : World) : Hp (Cv.ko w) w [base w] := ⟨⟨rfl, rfl, rfl⟩, _, .cons rfl (fun _ _ e => e) (fun g hg => by cases hg) .nil⟩

theorem Hp.out0 {w0 w : World} {L : List HP} (H : Hp (Cv.ko w0) w (base w0 :: L)) : Below w0.heap.size w0 w := by
  obtain ⟨h, rfl, s⟩ := H.sat
  obtain ⟨h1, h2, h3⟩ := H.1
  have hb : ∀ b, b < w0.heap.size → w.heap[b]? = w0.heap[b]? := fun b hb => by
    have : w0.heap[b]? = some w0.heap[b] := Array.getElem?_eq_getElem hb
    rw [this]; exact s b _ this
  refine ⟨h1, h2, h3, ?_, hb⟩
  rcases Nat.lt_or_ge w.heap.size w0.heap.size with hlt | hge
  · have := hb w.heap.size hlt
    rw [Array.getElem?_eq_none (Nat.le_refl _), Array.getElem?_eq_getElem hlt] at this
    cases this
  · exact hge

theorem Hp.old {w0 w : World} {k : Ko} {A : HP} {L : List HP} (H : Hp k w (base w0 :: L)) (h : Sat w0 A) : Sat w A := by
  obtain ⟨g, rfl, s⟩ := H.sat
  obtain ⟨x, ha, hs⟩ := h
  exact ⟨x, ha, fun b o e => s b o (hs b o e)⟩

/-- Behind a call that leaves old memory as it was, new memory holds this. -/
def Out (w w' : World) (A : HP) : Prop := Below w.heap.size w w' ∧ ∃ h, A h ∧ Sub h w' ∧ ∀ b, h b ≠ none → w.heap.size ≤ b

theorem Hp.out {w0 w : World} {A : HP} {L : List HP} (H : Hp (Cv.ko w0) w (A :: base w0 :: L)) : Out w0 w A := by
  have hB := H.drop.out0
  obtain ⟨hk, hs, hh⟩ := H
  cases hh with
  | cons ha hsub hd hr =>
    cases hr with
    | cons hb _ _ _ =>
      refine ⟨hB, _, ha, hsub, fun b hb' => ?_⟩
      rcases hd _ List.mem_cons_self b with e | e
      · exact absurd e hb'
      · cases hb
        rcases Nat.lt_or_ge b w0.heap.size with h | h
        · simp [Array.getElem?_eq_getElem h] at e
        · exact h

theorem Hp.add {k : Ko} {w w' : World} {A : HP} {L : List HP} (H : Hp k w L) (h : Out w w' A) : Hp k w' (A :: L) := by
  obtain ⟨hb, x, ha, hs, hn⟩ := h
  have H' := H.below hb
  obtain ⟨hk, hs0, hh⟩ := H
  refine ⟨H'.1, _, .cons ha hs ?_ (hh.move fun _ s => sub_below hb s)⟩
  have hsub : ∀ {L : List HP} {hs : List PH}, Hs w L hs → ∀ g ∈ hs, Sub g w := by
    intro L hs hh
    induction hh with
    | nil => intro g hg; cases hg
    | cons _ hs _ _ ih =>
        intro g hg
        rcases List.mem_cons.1 hg with rfl | hg
        · exact hs
        · exact ih g hg
  intro g hg b
  cases hx : x b with
  | none => exact .inl rfl
  | some o =>
    right
    cases hgb : g b with
    | none => rfl
    | some o' =>
      have h1 := hn b (by rw [hx]; simp)
      have h2 := (hsub hh g hg).lt (b := b) (by rw [hgb]; simp)
      omega

theorem Out.below {w w' : World} {A : HP} (h : Out w w' A) : Below w.heap.size w w' := h.1
theorem Out.imp {w w' : World} {A B : HP} (h : Out w w' A) (f : ∀ x, A x → B x) : Out w w' B := let ⟨a, x, b, c, d⟩ := h; ⟨a, x, f x b, c, d⟩

/-! ### Nodes -/
theorem NewN.mk {k : Ko} {w : World} {L : List HP} {o : Obj} {K : Nat → World → Prop} (H : Hp k w L) (h : ∀ b w', Hp k w' (pt b o :: L) → K b w') : NewN w o K := by
  rintro b w' rfl rfl
  exact h _ _ (H.new o)

theorem DrewN.mk {k : Ko} {w : World} {L : List HP} {K : World → Prop} (H : Hp k w L) (h : ∀ w', Hp k w' L → K w') : DrewN w K := by
  rintro w' rfl
  exact h _ H.drew

end Cv

namespace Cv
set_option linter.unusedSimpArgs false
set_option linter.unusedVariables false
open Go Go.RowKit

theorem add_mk (b o n : Nat) : (⟨b, o, none⟩ : Addr).add n = ⟨b, o + n, none⟩ := by
  unfold Addr.add; split
  · rename_i h; subst h; rfl
  · rfl

def scal (P : Program) (t : TypeId) : Bool :=
  match P.underlying t with
  | some (.struct _) => false
  | some (.array _ _) => false
  | some _ => true
  | none => false

def aggS (P : Program) (t : TypeId) : Option Nat :=
  match P.underlying t with
  | some (.struct _) => (P.info? t).map fun (x : TypeInfo) => x.size
  | some (.array _ _) => (P.info? t).map fun (x : TypeInfo) => x.size
  | _ => none

theorem run_isAgg_scal {P : Program} {t : TypeId} (h : scal P t = true) (w : World) : (isAgg t).run P w = .ok false w := by
  unfold scal at h
  cases hd : P.underlying t with
  | none => rw [hd] at h; cases h
  | some d =>
    rw [hd] at h
    unfold isAgg
    simp only [bind, run_bind, run_underlying hd]
    cases d <;> first | rfl | (simp at h)

theorem run_isAgg_agg {P : Program} {t : TypeId} {n : Nat} (h : aggS P t = some n) (w : World) : (isAgg t).run P w = .ok true w ∧ (Go.sizeOf t).run P w = .ok n w := by
  unfold aggS at h
  cases hd : P.underlying t with
  | none => rw [hd] at h; cases h
  | some d =>
    rw [hd] at h
    cases d <;> simp only [reduceCtorEq] at h
    all_goals
      cases hi : P.info? t with
      | none => rw [hi] at h; cases h
      | some i =>
        rw [hi] at h
        simp only [Option.map_some, Option.some.injEq] at h
        subst h
        refine ⟨?_, run_sizeOf hi w⟩
        unfold isAgg
        simp only [bind, run_bind, run_underlying hd]
        rfl

theorem run_load {P : Program} {w : World} {a : Addr} {v : Value} (h : w.cell? a = some v) : (load a).run P w = .ok v w := by
  simp only [load, Sem.run, h]

theorem cell_list {w : World} {b o : Nat} {l : List Value} {T : TypeId} {fr : Nat × Nat} (hb : w.heap[b]? = some (.cells l.toArray T fr)) : w.cell? ⟨b, o, none⟩ = l[o]? := by
  simp [World.cell?, hb]

theorem holds_cell {P : Program} {t : TypeId} {w : World} {b o : Nat} {l : List Value} {T : TypeId} {fr : Nat × Nat} {v : Value} (hs : scal P t = true)
    (hb : w.heap[b]? = some (.cells l.toArray T fr)) (hc : l[o]? = some v) : Holds P t ⟨b, o, none⟩ w v := by
  unfold Holds loadVar
  simp only [bind, run_bind, run_isAgg_scal hs, Bool.false_eq_true, if_false]
  exact run_load ((cell_list hb).trans hc)

theorem run_loadCellsFrom {P : Program} {w : World} {b o : Nat} {l : List Value} {T : TypeId} {fr : Nat × Nat} (hb : w.heap[b]? = some (.cells l.toArray T fr)) :
    ∀ (n i : Nat) (acc : Array Value), o + i + n ≤ l.length → (loadCellsFrom ⟨b, o, none⟩ i n acc).run P w = .ok (acc ++ ((l.drop (o + i)).take n).toArray) w
  | 0, i, acc, _ => by simp [loadCellsFrom, pure, Sem.run]
  | n + 1, i, acc, h => by
    have hlt : o + i < l.length := by omega
    have hc : w.cell? ⟨b, o + i, none⟩ = some l[o + i] := by rw [cell_list hb]; exact List.getElem?_eq_getElem hlt
    unfold loadCellsFrom
    simp only [bind, run_bind, add_mk, run_load hc]
    rw [run_loadCellsFrom hb n (i + 1) _ (by omega)]
    congr 1
    rw [List.drop_eq_getElem_cons hlt, List.take_succ_cons]
    simp [Nat.add_assoc]

theorem run_loadCells {P : Program} {w : World} {b o n : Nat} {l : List Value} {T : TypeId} {fr : Nat × Nat} (hb : w.heap[b]? = some (.cells l.toArray T fr)) (h : o + n ≤ l.length) :
    (loadCells ⟨b, o, none⟩ n).run P w = .ok ((l.drop o).take n).toArray w := by
  unfold loadCells
  rw [run_loadCellsFrom hb n 0 #[] (by omega)]
  simp

theorem holds_agg {P : Program} {t : TypeId} {w : World} {b o n : Nat} {l vs : List Value} {T : TypeId} {fr : Nat × Nat} (hs : aggS P t = some n)
    (hb : w.heap[b]? = some (.cells l.toArray T fr)) (hc : (l.drop o).take n = vs) (hl : vs.length = n) : Holds P t ⟨b, o, none⟩ w (.agg vs.toArray) := by
  unfold Holds loadVar
  have hlen : o + n ≤ l.length ∨ n = 0 := by
    subst hc
    simp only [List.length_take, List.length_drop] at hl
    omega
  simp only [bind, run_bind, (run_isAgg_agg hs w).1, if_true, (run_isAgg_agg hs w).2]
  rcases hlen with hlen | h0
  · rw [run_loadCells hb hlen, hc]
    rfl
  · subst h0
    have : vs = [] := List.eq_nil_of_length_eq_zero hl
    subst this
    rfl

/-! ### Stores -/
def _root_.Go.Value.oneC : Value → Bool
  | .agg _ => false
  | .tuple _ => false
  | _ => true

def spl (l : List Value) (o : Nat) (vs : List Value) : List Value := l.take o ++ vs ++ l.drop (o + vs.length)

theorem setB_setB (w : World) (b : Nat) (x y : Obj) : World.setB (World.setB w b x) b y = World.setB w b y := by
  simp [World.setB, Array.setIfInBounds_setIfInBounds]

theorem run_store1 {P : Program} {w : World} {b o : Nat} {l : List Value} {T : TypeId} {v : Value} (hb : w.heap[b]? = some (.cells l.toArray T (0, 0))) (ho : o < l.length) (hv : v.oneC = true) :
    (store ⟨b, o, none⟩ v).run P w = .ok () (World.setB w b (.cells (l.set o v).toArray T (0, 0))) := by
  have hc : w.cell? ⟨b, o, none⟩ = some l[o] := by rw [cell_list hb]; exact List.getElem?_eq_getElem ho
  have hf : w.frozen? ⟨b, o, none⟩ = false := by simp [World.frozen?, hb]
  have hset : w.setCell ⟨b, o, none⟩ v = World.setB w b (.cells (l.set o v).toArray T (0, 0)) := by
    unfold World.setCell World.setB
    congr 1
    apply Array.ext_getElem?
    intro i
    rw [Array.getElem?_modify, Array.getElem?_setIfInBounds]
    have hlt : b < w.heap.size := by
      rcases Nat.lt_or_ge b w.heap.size with h | h
      · exact h
      · rw [Array.getElem?_eq_none h] at hb; cases hb
    by_cases hi : b = i
    · subst hi
      have hb2 : w.heap[b] = .cells l.toArray T (0, 0) := by rw [Array.getElem?_eq_getElem hlt] at hb; exact Option.some.inj hb
      simp [hlt, hb2]
    · simp [hi]
  unfold store
  cases v <;> first | (cases hv; done) | (simp only [Sem.run, hc, hf, Bool.false_eq_true, if_false, hset])

theorem spl_set {l : List Value} {p : Nat} {v : Value} {vs : List Value} (h : p < l.length) : spl (l.set p v) (p + 1) vs = spl l p (v :: vs) := by
  have h1 : (l.set p v).take (p + 1) = l.take p ++ [v] := by
    rw [List.set_eq_take_append_cons_drop, if_pos h]
    rw [List.take_append, List.length_take]
    simp [Nat.min_eq_left (Nat.le_of_lt h), List.take_take]
  have h2 : (l.set p v).drop (p + 1 + vs.length) = l.drop (p + (v :: vs).length) := by
    rw [List.drop_set_of_lt (by omega)]
    congr 1
    simp only [List.length_cons]; omega
  simp only [spl, h1, h2, List.append_assoc, List.singleton_append]

theorem run_storeCells {P : Program} {b : Nat} {T : TypeId} : ∀ (vs : List Value) (i o : Nat) (l : List Value) (w : World), w.heap[b]? = some (.cells l.toArray T (0, 0)) → o + i + vs.length ≤ l.length →
    (∀ v ∈ vs, v.oneC = true) → (storeCells ⟨b, o, none⟩ vs i).run P w = .ok () (World.setB w b (.cells (spl l (o + i) vs).toArray T (0, 0)))
  | [], i, o, l, w, hb, h, _ => by
    have hlt : b < w.heap.size := by
      rcases Nat.lt_or_ge b w.heap.size with h | h
      · exact h
      · rw [Array.getElem?_eq_none h] at hb; cases hb
    have : World.setB w b (.cells (spl l (o + i) []).toArray T (0, 0)) = w := by
      have e : spl l (o + i) [] = l := by simp [spl]
      rw [e]
      unfold World.setB
      have : w.heap.setIfInBounds b (.cells l.toArray T (0, 0)) = w.heap := by
        apply Array.ext_getElem?
        intro j
        rw [Array.getElem?_setIfInBounds]
        split
        · rename_i hj; subst hj; rw [hb]
        · rfl
      rw [this]
    unfold storeCells
    rw [this]
    rfl
  | v :: vs, i, o, l, w, hb, h, hv => by
    have hlt : b < w.heap.size := by
      rcases Nat.lt_or_ge b w.heap.size with h | h
      · exact h
      · rw [Array.getElem?_eq_none h] at hb; cases hb
    simp only [List.length_cons] at h
    unfold storeCells
    simp only [bind, run_bind, add_mk, run_store1 hb (show o + i < l.length by omega) (hv v List.mem_cons_self)]
    have hb' : (World.setB w b (.cells (l.set (o + i) v).toArray T (0, 0))).heap[b]? = some (.cells (l.set (o + i) v).toArray T (0, 0)) := by
      simp [World.setB, Array.getElem?_setIfInBounds_self_of_lt hlt]
    rw [run_storeCells vs (i + 1) o (l.set (o + i) v) _ hb' (by rw [List.length_set]; omega) (fun u hu => hv u (List.mem_cons_of_mem _ hu)), setB_setB]
    rw [show o + (i + 1) = o + i + 1 by omega, spl_set (show o + i < l.length by omega)]

/-! ### In lists of parts -/

theorem Hp.cell {k : Ko} {w : World} {b o : Nat} {l : List Value} {T : TypeId} {fr : Nat × Nat} {L : List HP} {P : Program} {t : TypeId} {v : Value} (H : Hp k w (pt b (.cells l.toArray T fr) :: L))
    (hs : scal P t = true) (hc : l[o]? = some v) : Holds P t ⟨b, o, none⟩ w v := holds_cell hs H.get hc

theorem Hp.store {k : Ko} {w : World} {b o : Nat} {l : List Value} {T : TypeId} {L : List HP} {P : Program} {t : TypeId} {v : Value} (H : Hp k w (pt b (.cells l.toArray T) :: L))
    (hs : scal P t = true) (ho : o < l.length) (hv : v.oneC = true) (hz : (P.info? t).any (fun (i : TypeInfo) => i.size == 1) = true) :
    ∃ w', RunsU P (storeVar t ⟨b, o, none⟩ v) w w' ∧ Hp k w' (pt b (.cells (l.set o v).toArray T) :: L) := by
  refine ⟨_, ?_, H.upd _⟩
  cases hi : P.info? t with
  | none => rw [hi] at hz; cases hz
  | some i =>
    rw [hi] at hz
    have hsz : i.size = 1 := by simpa using hz
    have hvc : v.cells = #[v] := by cases v <;> first | (cases hv; done) | rfl
    unfold RunsU storeVar
    simp only [bind, run_bind, run_sizeOf hi, hvc, hsz]
    have := run_storeCells (P := P) [v] 0 o l w H.get (by simp; omega) (by simpa using hv)
    simp only [Nat.add_zero] at this
    have e : spl l o [v] = l.set o v := by
      rw [List.set_eq_take_append_cons_drop, if_pos ho]
      simp [spl]
    rw [e] at this
    simpa using this

end Cv

namespace Cv
set_option linter.unusedSimpArgs false
set_option linter.unusedVariables false
open Go Go.RowKit

/-- A slice that is one's own: nil, or the head of a row. -/
def slO (e sz : Nat) (a : Option Addr) (n k : Nat) (xs : List Value) : HP := fun h =>
  (a = none ∧ n = 0 ∧ k = 0 ∧ xs = [] ∧ h = pe) ∨
  ∃ b r, a = some ⟨b, 0, none⟩ ∧ h = one b (.cells (xs ++ r).toArray e) ∧ xs.length = n * sz ∧ (xs ++ r).length = k * sz ∧ n ≤ k

/-- A slice that is looked at. -/
def slR (sz : Nat) (a : Option Addr) (n k : Nat) (xs : List Value) : HP := fun h =>
  (n = 0 ∧ xs = [] ∧ h = pe) ∨
  ∃ (b o : Nat) (l : List Value) (T : TypeId) (fr : Nat × Nat), a = some ⟨b, o, none⟩ ∧ h = one b (.cells l.toArray T fr) ∧ (l.drop o).take (n * sz) = xs ∧ xs.length = n * sz ∧ n ≤ k

theorem slR_of_slO {e sz : Nat} {a : Option Addr} {n k : Nat} {xs : List Value} {h : PH} (H : slO e sz a n k xs h) : slR sz a n k xs h := by
  rcases H with ⟨rfl, rfl, rfl, rfl, rfl⟩ | ⟨b, r, rfl, rfl, h1, h2, h3⟩
  · exact .inl ⟨rfl, rfl, rfl⟩
  · right
    exact ⟨b, 0, _, e, _, rfl, rfl, by rw [List.drop_zero, ← h1]; simp, h1, h3⟩

theorem Hp.satR {k : Ko} {w : World} {e sz : Nat} {a : Option Addr} {n c : Nat} {xs : List Value} {L : List HP} (H : Hp k w (slO e sz a n c xs :: L)) : Sat w (slR sz a n c xs) := by
  obtain ⟨h, hh, s⟩ := H.sat
  exact ⟨h, slR_of_slO hh, s⟩

theorem Hp.slcases {k : Ko} {w : World} {e sz : Nat} {a : Option Addr} {n c : Nat} {xs : List Value} {L : List HP} (H : Hp k w (slO e sz a n c xs :: L)) :
    (a = none ∧ n = 0 ∧ c = 0 ∧ xs = [] ∧ Hp k w L) ∨
    ∃ b r, a = some ⟨b, 0, none⟩ ∧ xs.length = n * sz ∧ (xs ++ r).length = c * sz ∧ n ≤ c ∧ Hp k w (pt b (.cells (xs ++ r).toArray e) :: L) := by
  obtain ⟨hk, hs, hh⟩ := H
  cases hh with
  | cons ha hsub hd hr =>
    rcases ha with ⟨h1, h2, h3, h4, h5⟩ | ⟨b, r, h1, h2, h3, h4, h5⟩
    · exact .inl ⟨h1, h2, h3, h4, hk, _, hr⟩
    · subst h2
      exact .inr ⟨b, r, h1, h3, h4, h5, hk, _, .cons rfl hsub hd hr⟩

theorem Hp.slmk {k : Ko} {w : World} {e sz b n c : Nat} {xs r : List Value} {L : List HP} (H : Hp k w (pt b (.cells (xs ++ r).toArray e) :: L)) (h1 : xs.length = n * sz) (h2 : (xs ++ r).length = c * sz) (h3 : n ≤ c) :
    Hp k w (slO e sz (some ⟨b, 0, none⟩) n c xs :: L) := H.imp fun x hx => .inr ⟨b, r, rfl, hx, h1, h2, h3⟩

theorem slO_nil (e sz : Nat) : slO e sz none 0 0 [] pe := .inl ⟨rfl, rfl, rfl, rfl, rfl⟩

theorem Hp.nil {k : Ko} {w : World} {L : List HP} (e sz : Nat) (H : Hp k w L) : Hp k w (slO e sz none 0 0 [] :: L) :=
  ((@hp_pure k w True L).2 ⟨trivial, H⟩).imp fun x hx => by rw [hx.2]; exact slO_nil e sz

/-- A new row, as a slice. -/
theorem Hp.lit {k : Ko} {w : World} {b e sz n : Nat} {l : List Value} {L : List HP} (H : Hp k w (pt b (.cells l.toArray e) :: L)) (hl : l.length = n * sz) : Hp k w (slO e sz (some ⟨b, 0, none⟩) n n l :: L) :=
  H.imp fun x hx => .inr ⟨b, [], rfl, by rw [hx, List.append_nil], hl, by simpa using hl, Nat.le_refl _⟩

theorem slO_len {e sz : Nat} {a : Option Addr} {n k : Nat} {xs : List Value} {h : PH} (H : slO e sz a n k xs h) : xs.length = n * sz ∧ n ≤ k := by
  rcases H with ⟨rfl, rfl, rfl, rfl, rfl⟩ | ⟨b, r, rfl, rfl, h1, h2, h3⟩
  · simp
  · exact ⟨h1, h3⟩

theorem Hp.len {k : Ko} {w : World} {e sz : Nat} {a : Option Addr} {n c : Nat} {xs : List Value} {L : List HP} (H : Hp k w (slO e sz a n c xs :: L)) : xs.length = n * sz ∧ n ≤ c := by
  obtain ⟨h, hh, s⟩ := H.sat
  exact slO_len hh

theorem slR_len {w : World} {sz : Nat} {a : Option Addr} {n k : Nat} {xs : List Value} (H : Sat w (slR sz a n k xs)) : xs.length = n * sz := by
  obtain ⟨h, hh, s⟩ := H
  rcases hh with ⟨rfl, rfl, _⟩ | ⟨b, o, l, T, fr, rfl, rfl, h1, h2, _⟩
  · simp
  · exact h2

/-- Where the elements of a slice lie. -/
theorem slR_at {w : World} {sz : Nat} {a : Option Addr} {n k : Nat} {xs : List Value} (H : Sat w (slR sz a n k xs)) (hn : 0 < n) :
    ∃ (b o : Nat) (l : List Value) (T : TypeId) (fr : Nat × Nat), a = some ⟨b, o, none⟩ ∧ w.heap[b]? = some (.cells l.toArray T fr) ∧ (l.drop o).take (n * sz) = xs := by
  obtain ⟨h, hh, s⟩ := H
  rcases hh with ⟨rfl, rfl, _⟩ | ⟨b, o, l, T, fr, rfl, rfl, h1, h2, _⟩
  · omega
  · exact ⟨b, o, l, T, fr, rfl, s b _ (by simp [one]), h1⟩

/-! ### Looking at an element -/

theorem idxN.mk {p : Option Addr} {n : Nat} {i : Int} {K : Addr → Prop} {a : Addr} (hp : p = some a) (h : 0 ≤ i ∧ i < n) (hk : K a) : idxN p n i K := by subst hp; exact ⟨h, hk⟩

theorem nilN.mk {a : Addr} {K : Addr → Prop} (hk : K a) : nilN (some a) K := hk

/-! ### append -/

theorem growBy_le (m : Nat) (hm : 256 ≤ m) : ∀ (r c : Nat), c ≤ 2 * m → Builtin.growBy m r c ≤ 2 * m
  | 0, c, h => h
  | r + 1, c, h => by
    unfold Builtin.growBy
    split
    · exact h
    · exact growBy_le m hm r _ (by omega)

theorem nextcap_le {need cap : Nat} (h : cap < need) : Builtin.nextslicecap need cap ≤ 2 * need := by
  unfold Builtin.nextslicecap
  split
  · omega
  · split
    · omega
    · exact growBy_le need (by omega) 4 cap (by omega)

/-- What is appended: a slice that is looked at, or a string. -/
def Src (sz : Nat) (w : World) (x : Value) (m : Nat) (ys : List Value) : Prop :=
  (∃ a k, x = .slice a m k ∧ Sat w (slR sz a m k ys)) ∨ (∃ s : ByteArray, x = .string s ∧ sz = 1 ∧ m = s.size ∧ ys = s.data.toList.map fun b => .int .u8 b.toNat)

theorem src_run {P : Program} {sz : Nat} {w : World} {x : Value} {m : Nat} {ys : List Value} (h : Src sz w x m ys) :
    (Builtin.lenOf x).run P w = .ok m w ∧ (Builtin.firstCells sz m x).run P w = .ok ys.toArray w ∧ ys.length = m * sz := by
  rcases h with ⟨a, k, rfl, H⟩ | ⟨s, rfl, rfl, rfl, rfl⟩
  · refine ⟨rfl, ?_, slR_len H⟩
    have hl := slR_len H
    obtain ⟨h, hh, s⟩ := H
    rcases hh with ⟨rfl, rfl, _⟩ | ⟨b, o, l, T, fr, rfl, rfl, h1, h2, _⟩
    · cases a with
      | none => rfl
      | some a => simp [Builtin.firstCells, loadCells, loadCellsFrom, pure, Sem.run]
    · have hb := s b _ (show one b _ b = _ by simp [one]; rfl)
      unfold Builtin.firstCells
      by_cases h0 : m * sz = 0
      · rw [h0] at h1 hl ⊢
        have : ys = [] := List.eq_nil_of_length_eq_zero hl
        subst this
        rfl
      · have : o + m * sz ≤ l.length := by
          rw [← h1, List.length_take, List.length_drop] at h2
          omega
        rw [run_loadCells hb this, h1]
  · refine ⟨rfl, ?_, by simp⟩
    simp only [Builtin.firstCells]
    have : s.extract 0 s.size = s := by simp
    rw [this]
    simp only [pure, Sem.run]
    congr 1
    apply Array.ext'
    simp

def srcT (P : Program) (t : TypeId) : Bool :=
  match P.underlying t with
  | some (.slice _) => true
  | some .string => true
  | _ => false

theorem srcT_out {P : Program} {t : TypeId} (h : srcT P t = true) : (∃ e, P.underlying t = some (.slice e)) ∨ P.underlying t = some .string := by
  unfold srcT at h
  cases hd : P.underlying t with
  | none => rw [hd] at h; cases h
  | some d =>
    rw [hd] at h
    cases d <;> first | exact .inl ⟨_, rfl⟩ | exact .inr rfl | (cases h)

theorem Hp.append {P : Program} {k : Ko} {w : World} {L : List HP} {t1 t2 rt e sz by_ : Nat} {z : Array Value} (hi : slInfo P t1 = some (e, sz, by_, z)) (h2 : srcT P t2 = true) {a : Option Addr} {n c : Nat} {xs : List Value}
    (H : Hp k w (slO e sz a n c xs :: L)) {x : Value} {m : Nat} {ys : List Value} (hx : Src sz w x m ys) (hv : ∀ v ∈ ys, v.oneC = true) (hz : z.size = sz) (hby : 0 < by_) (hb : (n + m) * by_ ≤ 70368744177664) :
    ∃ a' c' w', Runs P (Builtin.append_ #[t1, t2] rt #[.slice a n c, x]) w (.slice a' (n + m) c') w' ∧ Hp k w' (slO e sz a' (n + m) c' (xs ++ ys) :: L) := by
  obtain ⟨i, zv, q1, q2, rfl, rfl, q5, rfl⟩ := slInfo_some hi
  obtain ⟨r1, r2, hylen⟩ := src_run (P := P) hx
  obtain ⟨hxlen, hnc⟩ := H.len
  have hnm : n + m ≤ 70368744177664 := Nat.le_trans (Nat.le_mul_of_pos_right _ hby) hb
  have hrow : (n + m) * i.size = n * i.size + m * i.size := Nat.add_mul _ _ _
  by_cases hfit : n + m ≤ c
  · -- within the capacity
    rcases H.slcases with ⟨rfl, rfl, rfl, rfl, H0⟩ | ⟨b, r, rfl, h3, h4, h5, H0⟩
    · have hm : m = 0 := by omega
      subst hm
      have hys : ys = [] := List.eq_nil_of_length_eq_zero (by simpa using hylen)
      subst hys
      refine ⟨none, 0, w, ?_, by simpa using H⟩
      unfold Runs Builtin.append_
      rcases srcT_out h2 with ⟨e2, hd⟩ | hd <;>
      simp only [List.getElem?_toArray, List.getElem?_cons_zero, List.getElem?_cons_succ, bind, pure, run_bind, Sem.bind, Sem.run, run_underlying q1, run_sizeOf q2, run_underlying hd, Bool.false_eq_true, if_false, r1, r2, Nat.add_zero, Nat.le_refl, if_true, Bool.not_false]
    · have hroom : n * i.size + ys.length ≤ (xs ++ r).length := by
        rw [h4, hylen, ← hrow]; exact Nat.mul_le_mul_right _ hfit
      have hst := run_storeCells (P := P) ys 0 (n * i.size) (xs ++ r) w H0.get (by omega) hv
      simp only [Nat.add_zero] at hst
      have hspl : spl (xs ++ r) (n * i.size) ys = (xs ++ ys) ++ r.drop ys.length := by
        simp only [spl]
        rw [← h3, List.take_left, List.drop_append]
        simp
      rw [hspl] at hst
      refine ⟨some ⟨b, 0, none⟩, c, _, ?_, (H0.upd _).slmk (r := r.drop ys.length) (by rw [List.length_append, h3, hylen, hrow]) ?_ hfit⟩
      · unfold Runs Builtin.append_
        rcases srcT_out h2 with ⟨e2, hd⟩ | hd <;>
        simp only [List.getElem?_toArray, List.getElem?_cons_zero, List.getElem?_cons_succ, bind, pure, run_bind, Sem.bind, Sem.run, run_underlying q1, run_sizeOf q2, run_underlying hd, Bool.false_eq_true, if_false, r1, r2, hfit, if_true, add_mk, Nat.zero_add, hst, Bool.not_false]
      · rw [← h4]
        simp only [List.length_append, List.length_drop] at hroom ⊢
        omega
  · have hc1 : ¬ (((n + m : Nat) : Int) > IntKind.i64.max ∧ (False ∨ i.bytes = 0)) := by
      rintro ⟨_, h | h⟩
      · exact h
      · omega
    have hc2 : ¬ (Builtin.nextslicecap (n + m) c * i.bytes > 2 ^ 48) := by
      have := nextcap_le (need := n + m) (cap := c) (by omega)
      have := Nat.mul_le_mul_right i.bytes this
      have e : 2 * (n + m) * i.bytes = 2 * ((n + m) * i.bytes) := by rw [Nat.mul_assoc]
      omega
    have hold : (Builtin.firstCells i.size n (.slice a n c)).run P w = .ok xs.toArray w := (src_run (P := P) (.inl ⟨a, c, rfl, H.satR⟩)).2.1
    have hzr : ∀ w, (zeroValue e).run P w = .ok zv w := fun w => zero_run (by unfold zero?; rw [q2]; exact q5) w
    have hti : ∀ w, (typeInfo e).run P w = .ok i w := fun w => run_typeInfo q2 w
    generalize hcap : (Question.appendCap (n + m) c e).cut (w.tape w.drawn (.appendCap (n + m) c e)) = nc
    have hge : n + m ≤ nc := by
      rw [← hcap]; simp only [Question.cut]; omega
    have r2' : (Builtin.firstCells i.size m x).run P w.drew = .ok ys.toArray w.drew := by
      have hx' : Src i.size w.drew x m ys := by
        rcases hx with ⟨a, kk, rfl, H⟩ | h
        · exact .inl ⟨a, kk, rfl, H.below ((Below.refl _ _).drew)⟩
        · exact .inr h
      exact (src_run (P := P) hx').2.1
    have hold' : (Builtin.firstCells i.size n (.slice a n c)).run P w.drew = .ok xs.toArray w.drew := (src_run (P := P) (.inl ⟨a, c, rfl, H.satR.below ((Below.refl _ _).drew)⟩)).2.1
    have hch : (choose (.appendCap (n + m) c e)).run P w = .ok nc w.drew := by
      simp only [choose, Sem.run, Question.forced, Bool.false_eq_true, if_false, hcap]
      rfl
    have hnew := (H.drop.drew).new (.cells (xs ++ (ys ++ (Builtin.zeroCells zv.cells (nc - (n + m))).toList)).toArray e)
    have hlen : (ys ++ (Builtin.zeroCells zv.cells (nc - (n + m))).toList).length = m * i.size + (nc - (n + m)) * i.size := by
      rw [List.length_append, hylen, Array.length_toList, size_zeroCells, hz]
    have harr : xs.toArray ++ ys.toArray ++ Builtin.zeroCells zv.cells (nc - (n + m)) = (xs ++ (ys ++ (Builtin.zeroCells zv.cells (nc - (n + m))).toList)).toArray := by
      apply Array.ext'
      simp
    refine ⟨some ⟨w.drew.heap.size, 0, none⟩, nc, w.drew.alloc (.cells (xs ++ (ys ++ (Builtin.zeroCells zv.cells (nc - (n + m))).toList)).toArray e), ?_, ?_⟩
    · unfold Runs Builtin.append_
      rcases srcT_out h2 with ⟨e2, hd⟩ | hd <;>
      simp only [List.getElem?_toArray, List.getElem?_cons_zero, List.getElem?_cons_succ, bind, pure, run_bind, Sem.bind, Sem.run, run_underlying q1, run_sizeOf q2, run_underlying hd, Bool.false_eq_true, if_false, r1, hfit, hti, hc1, hc2, hch, run_askRoom, hold', r2', hzr, Bool.not_false, if_true, harr, newRow, newObj]
      all_goals rfl
    · have := Hp.slmk (c := nc) (n := n + m) (sz := i.size) (xs := xs ++ ys) (r := (Builtin.zeroCells zv.cells (nc - (n + m))).toList) (by rw [List.append_assoc]; exact hnew) (by rw [List.length_append, hxlen, hylen, hrow]) ?_ hge
      · exact this
      · rw [List.append_assoc, List.length_append, hlen, hxlen, ← Nat.add_mul, ← Nat.add_mul]
        congr 1
        omega

end Cv

namespace Sx
set_option linter.unusedSimpArgs false
set_option linter.unusedVariables false
open Go Go.RowKit Cv

/-- Data that name no place: a cell; a slice that is looked at alone, element by element, each of so many cells. -/
inductive D where
  | v (x : Value)
  | ro (sz : Nat) (els : List (List D))

/-- Values of a walk. 'nm': a place in a row; 'el': in an element of a slice that is one's own; 're': of one that is looked at. -/
inductive V where
  | top
  | d (x : D)
  | nm (n off : Nat)
  | el (n sz i f : Nat)
  | re (sz : Nat) (els : List (List D)) (i f : Nat)
  | own (n : Nat)
  | mp (n : Nat)
  | sub (n i : Nat)
  | agg (l : List V)
  | tup (l : List V)
  | fn (f : Nat) (first cap : List V)
  | ifc (t : Nat) (x : V)

inductive AObj : Type 1 where
  | gone
  | nilo
  | cells (vs : List V) (t : TypeId)
  | own (t sz : Nat) (els : List (List D))
  | fro (sz : Nat) (els : List (List D))
  | mrk (t : TypeId) (els : List (List D))
  | map (es : List (Value × List D))
  | mapS (es : List (Value × List D)) (kv : Value) (b : Int)
  | iter (s : ByteArray) (pos : Nat)
  | adt (T : Type) (m : Nat) (unf : T → Nat → AObj) (x : T)
  | objs (t : Nat) (T : Type) (m : Nat) (unf : T → Nat → AObj) (l : List T) (hole : Option Nat)

@[reducible] def Hd := Value × List Value

structure Ev where
  F : PH
  tab : List Hd

def FLe (F G : PH) : Prop := ∀ b o, F b = some o → G b = some o
def Ev.le (E E' : Ev) : Prop := FLe E.F E'.F ∧ E.tab <+: E'.tab

theorem FLe.refl (F : PH) : FLe F F := fun _ _ h => h
theorem FLe.trans {F G H : PH} (a : FLe F G) (b : FLe G H) : FLe F H := fun x o h => b x o (a x o h)
theorem Ev.le.refl (E : Ev) : E.le E := ⟨FLe.refl _, List.prefix_refl _⟩
theorem Ev.le.trans {E E' E2 : Ev} (a : E.le E') (b : E'.le E2) : E.le E2 := ⟨a.1.trans b.1, a.2.trans b.2⟩
theorem pre_get {α : Type} {l l' : List α} (h : l <+: l') {n : Nat} {x : α} (e : l[n]? = some x) : l'[n]? = some x := by
  obtain ⟨t, rfl⟩ := h
  rw [List.getElem?_append_left]
  · exact e
  · exact (List.getElem?_eq_some_iff.1 e).1
theorem Ev.le.get {E E' : Ev} (a : E.le E') {n : Nat} {x : Hd} (e : E.tab[n]? = some x) : E'.tab[n]? = some x := pre_get a.2 e

mutual
def DR (F : PH) : D → Value → Prop
  | .v x, y => y = x ∧ x.oneC = true
  | .ro sz els, y => ∃ a c, y = .slice a els.length c ∧ els.length ≤ c ∧ (∀ el ∈ els, el.length = sz) ∧
      (els = [] ∨ ∃ (b o : Nat) (l : List Value) (T : TypeId) (fr : Nat × Nat), a = some ⟨b, o, none⟩ ∧ F b = some (.cells l.toArray T fr) ∧ DRS F els (l.drop o))
def DRL (F : PH) : List D → List Value → Prop
  | [], l => l = []
  | d :: ds, l => ∃ x xs, l = x :: xs ∧ DR F d x ∧ DRL F ds xs
/-- The list begins with these. -/
def DRS (F : PH) : List (List D) → List Value → Prop
  | [], _ => True
  | el :: els, l => ∃ l1 l2, l = l1 ++ l2 ∧ DRL F el l1 ∧ DRS F els l2
end

mutual
theorem DR.mono {F G : PH} (h : FLe F G) : ∀ {d : D} {y : Value}, DR F d y → DR G d y
  | .v x, y, e => by simpa only [DR] using e
  | .ro sz els, y, e => by
    simp only [DR] at e ⊢
    obtain ⟨a, c, h1, h2, h3, h4⟩ := e
    refine ⟨a, c, h1, h2, h3, ?_⟩
    rcases h4 with h4 | ⟨b, o, l, T, fr, q1, q2, q3⟩
    · exact .inl h4
    · exact .inr ⟨b, o, l, T, fr, q1, h _ _ q2, DRS.mono h q3⟩
theorem DRL.mono {F G : PH} (h : FLe F G) : ∀ {ds : List D} {l : List Value}, DRL F ds l → DRL G ds l
  | [], l, e => by simpa only [DRL] using e
  | d :: ds, l, e => by
    simp only [DRL] at e ⊢
    obtain ⟨x, xs, h1, h2, h3⟩ := e
    exact ⟨x, xs, h1, DR.mono h h2, DRL.mono h h3⟩
theorem DRS.mono {F G : PH} (h : FLe F G) : ∀ {els : List (List D)} {l : List Value}, DRS F els l → DRS G els l
  | [], l, e => by simp only [DRS]
  | el :: els, l, e => by
    simp only [DRS] at e ⊢
    obtain ⟨x, xs, h1, h2, h3⟩ := e
    exact ⟨x, xs, h1, DRL.mono h h2, DRS.mono h h3⟩
end

mutual
def VR (E : Ev) : V → Value → Prop
  | .top, _ => True
  | .d d, y => DR E.F d y
  | .nm n o, y => ∃ (b oo : Nat) (l : List Value), E.tab[n]? = some (.pointer (some ⟨b, oo, none⟩), l) ∧ y = .pointer (some ⟨b, oo + o, none⟩)
  | .el n sz i f, y => ∃ (b oo m c : Nat) (l : List Value), E.tab[n]? = some (.slice (some ⟨b, oo, none⟩) m c, l) ∧ y = .pointer (some ⟨b, oo + i * sz + f, none⟩)
  | .re sz els i f, y => i < els.length ∧ (∀ el ∈ els, el.length = sz) ∧ ∃ (b o : Nat) (l : List Value) (T : TypeId) (fr : Nat × Nat), y = .pointer (some ⟨b, o + i * sz + f, none⟩) ∧ E.F b = some (.cells l.toArray T fr) ∧ DRS E.F els (l.drop o)
  | .own n, y => ∃ l, E.tab[n]? = some (y, l) ∧ ∃ a m c, y = .slice a m c
  | .mp n, y => ∃ b l, E.tab[n]? = some (y, l) ∧ y = .map (some b)
  | .sub n i, y => ∃ hd l b oo, E.tab[n]? = some (hd, l) ∧ l[i]? = some y ∧ y = .pointer (some ⟨b, oo, none⟩)
  | .agg l, y => ∃ ys, y = .agg ys.toArray ∧ VRL E l ys
  | .tup l, y => ∃ ys, y = .tuple ys.toArray ∧ VRL E l ys
  | .fn f a b, y => ∃ as bs, y = .func (.func f) as.toArray bs.toArray ∧ VRL E a as ∧ VRL E b bs
  | .ifc t x, y => ∃ z, y = .iface t z ∧ VR E x z
def VRL (E : Ev) : List V → List Value → Prop
  | [], l => l = []
  | v :: vs, l => ∃ x xs, l = x :: xs ∧ VR E v x ∧ VRL E vs xs
end

mutual
theorem VR.mono {E E' : Ev} (h : E.le E') : ∀ {v : V} {y : Value}, VR E v y → VR E' v y
  | .top, y, e => by simp only [VR]
  | .d d, y, e => by simp only [VR] at e ⊢; exact e.mono h.1
  | .nm n o, y, e => by
    simp only [VR] at e ⊢
    obtain ⟨b, oo, l, h1, h2⟩ := e
    exact ⟨b, oo, l, h.get h1, h2⟩
  | .el n sz i f, y, e => by
    simp only [VR] at e ⊢
    obtain ⟨b, oo, m, c, l, h1, h2⟩ := e
    exact ⟨b, oo, m, c, l, h.get h1, h2⟩
  | .re sz els i f, y, e => by
    simp only [VR] at e ⊢
    obtain ⟨h0, h1, b, o, l, T, fr, h2, h3, h4⟩ := e
    exact ⟨h0, h1, b, o, l, T, fr, h2, h.1 _ _ h3, h4.mono h.1⟩
  | .own n, y, e => by
    simp only [VR] at e ⊢
    obtain ⟨l, h1, h2⟩ := e
    exact ⟨l, h.get h1, h2⟩
  | .mp n, y, e => by
    simp only [VR] at e ⊢
    obtain ⟨b, l, h1, h2⟩ := e
    exact ⟨b, l, h.get h1, h2⟩
  | .sub n i, y, e => by
    simp only [VR] at e ⊢
    obtain ⟨hd, l, b, oo, h1, h2⟩ := e
    exact ⟨hd, l, b, oo, h.get h1, h2⟩
  | .agg l, y, e => by
    simp only [VR] at e ⊢
    obtain ⟨ys, h1, h2⟩ := e
    exact ⟨ys, h1, VRL.mono h h2⟩
  | .tup l, y, e => by
    simp only [VR] at e ⊢
    obtain ⟨ys, h1, h2⟩ := e
    exact ⟨ys, h1, VRL.mono h h2⟩
  | .fn f a b, y, e => by
    simp only [VR] at e ⊢
    obtain ⟨as, bs, h1, h2, h3⟩ := e
    exact ⟨as, bs, h1, VRL.mono h h2, VRL.mono h h3⟩
  | .ifc t x, y, e => by
    simp only [VR] at e ⊢
    obtain ⟨z, h1, h2⟩ := e
    exact ⟨z, h1, VR.mono h h2⟩
theorem VRL.mono {E E' : Ev} (h : E.le E') : ∀ {vs : List V} {l : List Value}, VRL E vs l → VRL E' vs l
  | [], l, e => by simpa only [VRL] using e
  | v :: vs, l, e => by
    simp only [VRL] at e ⊢
    obtain ⟨x, xs, h1, h2, h3⟩ := e
    exact ⟨x, xs, h1, VR.mono h h2, VRL.mono h h3⟩
end

/-- A value of an entry, of its cells. -/
def valOf : List Value → Value
  | [y] => y
  | ys => .agg ys.toArray

/-- A map's entries: keys as they are. -/
def MR (F : PH) : List (Value × List D) → List MapEntry → Prop
  | [], l => l = []
  | (k, ds) :: es, l => ∃ (m : MapEntry) (ms : List MapEntry), l = m :: ms ∧ m.key = k ∧ (∃ ys, DRL F ds ys ∧ m.val = valOf ys) ∧ MR F es ms

theorem MR.mono {F G : PH} (h : FLe F G) : ∀ {es : List (Value × List D)} {l : List MapEntry}, MR F es l → MR G es l
  | [], l, e => e
  | (k, ds) :: es, l, e => by
    obtain ⟨m, ms, h1, h2, ⟨ys, h3, h4⟩, h5⟩ := e
    exact ⟨m, ms, h1, h2, ⟨ys, h3.mono h, h4⟩, h5.mono h⟩

/-- A map's stamps: each entry has its own. -/
def BornOk (l : List MapEntry) (ck : Nat) : Prop := (l.map (·.born)).Nodup ∧ ∀ e ∈ l, e.born < ck

/-- A key that a map of the type asks for as it is. -/
def KeyT (kd : TypeDesc) (x : Value) : Prop := (∃ ik k n, kd = .int ik ∧ x = .int k n) ∨ (∃ s, kd = .string ∧ x = .string s)

/-- The stamp of a key's entry. -/
def Stamped (l : List MapEntry) (x : Value) (b : Int) : Prop := ∃ kd, KeyT kd x ∧ ∃ q m, Instr.findNow kd x l 0 = some (some (q, m.val)) ∧ l[q]? = some m ∧ (m.born : Int) = b

/-- What a row is in memory: in an environment, at what is known of its place. -/
def rowHP (F : PH) : AObj → List Hd → Hd → HP
  | .gone, _, _ => fun h => h = pe
  | .nilo, _, hd => fun h => h = pe ∧ hd.1 = .slice none 0 0 ∧ hd.2 = []
  | .cells vs t, tab, hd => fun h => ∃ b l, hd.1 = .pointer (some ⟨b, 0, none⟩) ∧ VRL ⟨F, tab⟩ vs l ∧ h = one b (.cells l.toArray t)
  | .own t sz els, tab, hd => fun h => ∃ a k xs, hd.1 = .slice a els.length k ∧ DRL F els.flatten xs ∧ (∀ el ∈ els, el.length = sz) ∧ slO t sz a els.length k xs h
  | .fro sz els, tab, hd => fun h => h = pe ∧ DR F (.ro sz els) hd.1
  | .mrk t els, tab, hd => fun h => ∃ b k xs r, hd.1 = .slice (some ⟨b, 0, none⟩) els.length k ∧ DRL F els.flatten xs ∧ (∀ el ∈ els, el.length = 1) ∧ els.length ≤ k ∧ h = one b (.cells (xs ++ r).toArray t ((xs ++ r).length, (xs ++ r).length + 1))
  | .map es, tab, hd => fun h => ∃ b ents ck, hd.1 = .map (some b) ∧ MR F es ents ∧ BornOk ents ck ∧ h = one b (.map ents.toArray ck)
  | .mapS es kv x, tab, hd => fun h => ∃ b ents ck, hd.1 = .map (some b) ∧ MR F es ents ∧ BornOk ents ck ∧ Stamped ents kv x ∧ h = one b (.map ents.toArray ck)
  | .iter s pos, tab, hd => fun h => ∃ b, hd.1 = .pointer (some ⟨b, 0, none⟩) ∧ h = one b (.stringIter s pos)
  | .adt T m unf x, tab, hd => fun h => ∃ tab1, tab1[0]? = some hd ∧ tab1.length = m ∧ hS ((List.range m).map fun j => fun h => ∃ hd', tab1[j]? = some hd' ∧ rowHP F (unf x j) tab1 hd' h) h
  | .objs t T m unf l hole, tab, hd => fun h => ∃ a k, hd.1 = .slice a l.length k ∧ hd.2.length = l.length ∧ (∀ p ∈ hd.2, ∃ b oo, p = .pointer (some ⟨b, oo, none⟩)) ∧
      hS [slO t 1 a l.length k hd.2, hS ((List.range l.length).map fun i => fun h => if hole = some i then h = pe else ∃ x p l0 tab1, l[i]? = some x ∧ hd.2[i]? = some p ∧ tab1[0]? = some (p, l0) ∧ tab1.length = m ∧
        hS ((List.range m).map fun j => fun h => ∃ hd', tab1[j]? = some hd' ∧ rowHP F (unf x j) tab1 hd' h) h)] h

theorem hS_imp {α : Type} {f g : α → HP} (h : ∀ a x, f a x → g a x) : ∀ {l : List α} {x : PH}, hS (l.map f) x → hS (l.map g) x
  | [], x, e => e
  | [a], x, e => h a x e
  | a :: b :: l, x, e => by
    obtain ⟨g1, g2, h1, h2, h3, h4⟩ := e
    exact ⟨g1, g2, h a _ h1, hS_imp h (l := b :: l) h2, h3, h4⟩

theorem rowHP.mono {F G : PH} (hF : FLe F G) (o : AObj) : ∀ {tab tab' : List Hd} (ht : tab <+: tab') {hd : Hd} {h : PH}, rowHP F o tab hd h → rowHP G o tab' hd h := by
  induction o with
  | gone => intro _ _ _ _ _ e; exact e
  | nilo => intro _ _ _ _ _ e; exact e
  | cells vs t =>
    intro tab tab' ht hd h e
    simp only [rowHP] at e ⊢
    obtain ⟨b, l, h1, h2, h3⟩ := e
    exact ⟨b, l, h1, h2.mono ⟨hF, ht⟩, h3⟩
  | own t sz els =>
    intro tab tab' ht hd h e
    simp only [rowHP] at e ⊢
    obtain ⟨a, k, xs, h1, h2, h3⟩ := e
    exact ⟨a, k, xs, h1, h2.mono hF, h3⟩
  | fro sz els =>
    intro tab tab' ht hd h e
    simp only [rowHP] at e ⊢
    exact ⟨e.1, e.2.mono hF⟩
  | mrk t els =>
    intro tab tab' ht hd h e
    simp only [rowHP] at e ⊢
    obtain ⟨b, k, xs, r, h1, h2, h3⟩ := e
    exact ⟨b, k, xs, r, h1, h2.mono hF, h3⟩
  | map es =>
    intro tab tab' ht hd h e
    simp only [rowHP] at e ⊢
    obtain ⟨b, l, ck, h1, h2, h3⟩ := e
    exact ⟨b, l, ck, h1, h2.mono hF, h3⟩
  | mapS es kv x =>
    intro tab tab' ht hd h e
    simp only [rowHP] at e ⊢
    obtain ⟨b, l, ck, h1, h2, h3⟩ := e
    exact ⟨b, l, ck, h1, h2.mono hF, h3⟩
  | iter s pos => intro _ _ _ _ _ e; simpa only [rowHP] using e
  | adt T m unf x ih =>
    intro tab tab' ht hd h e
    simp only [rowHP] at e ⊢
    obtain ⟨tab1, h1, h2, h3⟩ := e
    refine ⟨tab1, h1, h2, hS_imp ?_ h3⟩
    rintro j y ⟨hd', q1, q2⟩
    exact ⟨hd', q1, ih x j (List.prefix_refl _) q2⟩
  | objs t T m unf l hole ih =>
    intro tab tab' ht hd h e
    simp only [rowHP] at e ⊢
    obtain ⟨a, k, h1, h2, h3, h5⟩ := e
    refine ⟨a, k, h1, h2, h3, ?_⟩
    obtain ⟨g1, g2, q1, q2, q3, q4⟩ := h5
    refine ⟨g1, g2, q1, hS_imp ?_ q2, q3, q4⟩
    intro i y hy
    split
    · rename_i hi; rw [if_pos hi] at hy; exact hy
    · rename_i hi
      rw [if_neg hi] at hy
      obtain ⟨x, p, l0, tab1, r1, r2, r3, r4, r5⟩ := hy
      refine ⟨x, p, l0, tab1, r1, r2, r3, r4, hS_imp ?_ r5⟩
      rintro j y ⟨hd', s1, s2⟩
      exact ⟨hd', s1, ih x j (List.prefix_refl _) s2⟩

/-- Rows by their names. -/
structure St where
  rows : List (Nat × AObj)
  nx : Nat

def rget (n : Nat) : List (Nat × AObj) → Option AObj
  | [] => none
  | (m, o) :: l => bif Nat.beq m n then some o else rget n l
def rdel (n : Nat) : List (Nat × AObj) → List (Nat × AObj)
  | [] => []
  | (m, o) :: l => bif Nat.beq m n then l else (m, o) :: rdel n l
def rset (n : Nat) (x : AObj) : List (Nat × AObj) → List (Nat × AObj)
  | [] => []
  | (m, o) :: l => bif Nat.beq m n then (m, x) :: l else (m, o) :: rset n x l
def St.get (s : St) (n : Nat) : Option AObj := rget n s.rows
def St.set (s : St) (n : Nat) (o : AObj) : St := ⟨rset n o s.rows, s.nx⟩
def St.del (s : St) (n : Nat) : St := ⟨rdel n s.rows, s.nx⟩
/-- A row is taken; one that is looked at alone stays. -/
def St.delF (s : St) (n : Nat) : AObj → St
  | .fro _ _ => s
  | _ => s.del n
def St.new (s : St) (o : AObj) : St := ⟨(s.nx, o) :: s.rows, s.nx + 1⟩

theorem rget_perm {n : Nat} {o : AObj} : ∀ {l : List (Nat × AObj)}, rget n l = some o → l.Perm ((n, o) :: rdel n l) ∧ ∀ x, (rset n x l).Perm ((n, x) :: rdel n l)
  | [], h => by cases h
  | (m, p) :: l, h => by
    simp only [rget, rdel, rset] at h ⊢
    cases hb : Nat.beq m n
    · rw [hb] at h
      obtain ⟨h1, h2⟩ := rget_perm (l := l) h
      exact ⟨(h1.cons _).trans (.swap _ _ _), fun x => ((h2 x).cons _).trans (.swap _ _ _)⟩
    · rw [hb] at h
      have := Nat.eq_of_beq_eq_true hb
      subst this
      cases h
      exact ⟨.refl _, fun x => .refl _⟩

def rHP (E : Ev) (r : Nat × AObj) : HP := fun h => r.2 = .gone ∧ h = pe ∨ ∃ hd, E.tab[r.1]? = some hd ∧ rowHP E.F r.2 E.tab hd h

theorem rHP.mono {E E' : Ev} (h : E.le E') (r : Nat × AObj) {x : PH} (e : rHP E r x) : rHP E' r x := by
  rcases e with e | ⟨hd, h1, h2⟩
  · exact .inl e
  · exact .inr ⟨hd, h.get h1, h2.mono h.1 _ h.2⟩

/-- Package variables whose contents are told: of each its block, and what it holds. -/
def gtab : List (Nat × (Obj → Prop)) := [(1, fun o => ∃ l T fr, o = .cells l T fr ∧ ∀ c, c < 256 → l[c]? = some (.int .u8 (Go.Lib.firstT c))), (2, fun o => ∃ l T fr, o = .cells l T fr ∧ ∀ i, i < 16 → l[2 * i]? = some (.int .u8 (Go.Lib.accLo i)) ∧ l[2 * i + 1]? = some (.int .u8 (Go.Lib.accHi i))), (0, fun o => ∃ T fr, o = .cells (Go.Lib.pow10Tab.map fun z => Value.int .u64 z).toArray T fr)]
def GTab (F : PH) : Prop := ∀ g ∈ gtab, ∃ o, F g.1 = some o ∧ g.2 o
theorem GTab.mono {F G : PH} (h : FLe F G) (e : GTab F) : GTab G := fun g hg => let ⟨o, h1, h2⟩ := e g hg; ⟨o, h _ _ h1, h2⟩

def fz (F : PH) : HP := fun h => h = F ∧ GTab F

/-- The world holds the rows, and what is looked at alone, and a frame. -/
structure Rel (k : Ko) (L : List HP) (E : Ev) (s : St) (w : World) : Prop where
  nx : E.tab.length = s.nx
  hp : Hp k w (s.rows.map (rHP E) ++ fz E.F :: L)

end Sx

namespace Cv
set_option linter.unusedSimpArgs false
set_option linter.unusedVariables false
open Go Go.RowKit

/-! ### Finite maps from numbers -/

inductive Tr (α : Type) where
  | e
  | n (v : Option α) (l r : Tr α)

def Tr.get {α : Type} : List Bool → Tr α → Option α
  | _, .e => none
  | [], .n v _ _ => v
  | b :: p, .n _ l r => bif b then Tr.get p l else Tr.get p r

def Tr.set {α : Type} (x : Option α) : List Bool → Tr α → Tr α
  | [], .e => .n x .e .e
  | [], .n _ l r => .n x l r
  | b :: p, .e => bif b then .n none (Tr.set x p .e) .e else .n none .e (Tr.set x p .e)
  | b :: p, .n v l r => bif b then .n v (Tr.set x p l) r else .n v l (Tr.set x p r)

def pthF : Nat → Nat → List Bool
  | 0, n => List.replicate n true
  | f + 1, n => bif Nat.beq n 0 then [] else Nat.beq (n % 2) 1 :: pthF f (n / 2)

def pth (n : Nat) : List Bool := pthF 40 n

/-! ### Values -/

/-- The room of a slice: known; or all of its row behind so many elements (and where it lies if that is nothing). -/
inductive Cap where
  | k (c : Nat)
  | r (l o0 : Nat)

inductive V where
  | int (k : IntKind) (n : Int)
  | bool (b : Bool)
  | str (l : List Nat)
  | ptr (a : Option (Nat × Nat))
  | sl (a : Option (Nat × Nat)) (n : Nat) (c : Cap)
  | map (r : Option Nat)
  | agg (l : List V)
  | tup (l : List V)
  | fn (f : Nat) (first cap : List V)
  | nilfn

inductive AObj where
  | cells (xs : List V) (t : TypeId) (opn : Option Nat)
  | map (es : List (V × V × Nat)) (clock : Nat)
  | iter (s : List Nat) (pos : Nat)

structure St where
  h : Tr AObj
  nx : Nat

def St.get (s : St) (b : Nat) : Option AObj := Tr.get (pth b) s.h
def St.set (s : St) (b : Nat) (o : AObj) : St := ⟨Tr.set (some o) (pth b) s.h, s.nx⟩
def St.del (s : St) (b : Nat) : St := ⟨Tr.set none (pth b) s.h, s.nx⟩
def St.new (s : St) (o : AObj) : St := ⟨Tr.set (some o) (pth s.nx) s.h, s.nx + 1⟩

/-- Where each named row lies, and for how many elements it has room. -/
@[reducible] def Phi := Nat → Nat × Nat

def cvs (φ : Phi) (b o n : Nat) : Cap → Addr
  | .k _ => ⟨(φ b).1, o, none⟩
  | .r l o0 => ⟨(φ b).1, bif Nat.beq n 0 && Nat.beq (φ b).2 l then o0 else o, none⟩

def cvc (φ : Phi) (b : Nat) : Cap → Nat
  | .k c => c
  | .r l _ => (φ b).2 - l

mutual
def cv (φ : Phi) : V → Value
  | .int k n => .int k n
  | .bool b => .bool b
  | .str l => .string (bs l)
  | .ptr none => .pointer none
  | .ptr (some (b, o)) => .pointer (some ⟨(φ b).1, o, none⟩)
  | .sl none n c => .slice none n (match c with | .k c => c | .r _ _ => 0)
  | .sl (some (b, o)) n c => .slice (some (cvs φ b o n c)) n (cvc φ b c)
  | .map none => .map none
  | .map (some b) => .map (some (φ b).1)
  | .agg l => .agg (cvl φ l).toArray
  | .tup l => .tuple (cvl φ l).toArray
  | .fn f a b => .func (.func f) (cvl φ a).toArray (cvl φ b).toArray
  | .nilfn => .nilFunc
def cvl (φ : Phi) : List V → List Value
  | [] => []
  | v :: l => cv φ v :: cvl φ l
end

def allS {α : Type} : List (Option α) → Option (List α)
  | [] => some []
  | some a :: l => match allS l with
    | some r => some (a :: r)
    | none => none
  | none :: _ => none

def aput (ρ : Tr V) : Option Nat → V → Tr V
  | none, _ => ρ
  | some d, v => Tr.set (some v) (pth d) ρ

def V.cells : V → List V
  | .agg l => l
  | v => [v]

def V.one : V → Bool
  | .agg _ => false
  | .tup _ => false
  | _ => true

def keq : IntKind → IntKind → Bool
  | .i8, .i8 => true | .i16, .i16 => true | .i32, .i32 => true | .i64, .i64 => true
  | .u8, .u8 => true | .u16, .u16 => true | .u32, .u32 => true | .u64, .u64 => true
  | _, _ => false
/-! ### Numbers -/

/-- All naturals below it are numbers of the kind. -/
def lim : IntKind → Nat
  | .i8 => 128 | .i16 => 32768 | .i32 => 2147483648 | .i64 => 9223372036854775808
  | .u8 => 256 | .u16 => 65536 | .u32 => 4294967296 | .u64 => 18446744073709551616

def wr (k : IntKind) : Int → Int
  | .ofNat n => bif Nat.blt n (lim k) then .ofNat n else k.wrap (.ofNat n)
  | x => k.wrap x

def isPtrT (P : Program) (t : TypeId) : Bool :=
  match P.underlying t with
  | some (.pointer _) => true
  | _ => false
def isSlT (P : Program) (t : TypeId) : Bool :=
  match P.underlying t with
  | some (.slice _) => true
  | _ => false
def isMapT (P : Program) (t : TypeId) : Bool :=
  match P.underlying t with
  | some (.map _ _) => true
  | _ => false
def isStrT (P : Program) (t : TypeId) : Bool :=
  match P.underlying t with
  | some .string => true
  | _ => false

/-! ### Operations that look at no memory -/

def fieldOff (P : Program) (s : TypeId) (f : Nat) : Option Nat :=
  match P.underlying s with
  | some (.struct fs) => match fs[f]? with
    | some fd => match P.info? fd.type with
      | some i => bif Nat.beq i.size 0 then none else some fd.offset
      | none => none
    | none => none
  | _ => none

def fieldPart (P : Program) (s : TypeId) (f : Nat) : Option (TypeId × Nat) :=
  match P.underlying s with
  | some (.struct fs) => match fs[f]? with
    | some fd => some (fd.type, fd.offset)
    | none => none
  | _ => none

def arrPart (P : Program) (t : TypeId) : Option (Nat × TypeId × Nat) :=
  match P.underlying t with
  | some (.array n e) => match P.info? e with
    | some i => some (n, e, i.size)
    | none => none
  | _ => none

/-- A part of a struct or an array. -/
def apart (P : Program) (t : TypeId) (cs : List V) (off : Nat) : Option V :=
  match aggS P t with
  | some sz => some (.agg ((cs.drop off).take sz))
  | none => bif scal P t then cs[off]? else none

def idxOk (i : Int) (n : Nat) : Option Nat :=
  match i with
  | .ofNat j => bif Nat.blt j n then some j else none
  | _ => none

/-- The parts' places in a struct. -/
def places (P : Program) (t : TypeId) : Option (List (Option (Nat × Nat))) :=
  match P.underlying t with
  | some (.struct fs) => some (fs.toList.map fun fd => match P.info? fd.type with
      | some i => some (fd.offset, i.size)
      | none => none)
  | _ => none

def placeAt (l : List (Option (Nat × Nat))) (i : Nat) : Option (Nat × Nat) :=
  match l[i]? with
  | some r => r
  | none => none

def mapT (P : Program) (t : TypeId) : Option (TypeId × TypeId) :=
  match P.underlying t with
  | some (.map k e) => some (k, e)
  | _ => none

def u8Sl (P : Program) (t : TypeId) : Bool :=
  match P.underlying t with
  | some (.slice e) => match P.underlying e with
    | some (.int .u8) => true
    | _ => false
  | _ => false

def sizeA (P : Program) (t : TypeId) : Option Nat :=
  match P.info? t with
  | some i => some i.size
  | none => none

end Cv

namespace Cv
set_option linter.unusedSimpArgs false
set_option linter.unusedVariables false
open Go Go.RowKit

/-! ### Finite maps -/

theorem pthF_inj : ∀ (f a b : Nat), pthF f a = pthF f b → a = b
  | 0, a, b, h => by simpa [pthF] using congrArg List.length h
  | f + 1, a, b, h => by
    simp only [pthF] at h
    cases ha : Nat.beq a 0 <;> cases hb : Nat.beq b 0 <;> rw [ha, hb] at h <;> simp only [cond_true, cond_false] at h
    · simp only [List.cons.injEq] at h
      have h2 := pthF_inj f _ _ h.2
      have h1 := h.1
      rcases Nat.mod_two_eq_zero_or_one a with e | e <;> rcases Nat.mod_two_eq_zero_or_one b with e' | e' <;> rw [e, e'] at h1 <;>
        first | omega | exact absurd h1 (by decide)
    · cases h
    · cases h
    · rw [Nat.eq_of_beq_eq_true ha, Nat.eq_of_beq_eq_true hb]

theorem pth_inj {a b : Nat} (h : pth a = pth b) : a = b := pthF_inj 40 a b h

theorem Tr.get_e {α : Type} (p : List Bool) : Tr.get p (.e : Tr α) = none := by cases p <;> rfl

theorem Tr.get_set_same {α : Type} (x : Option α) : ∀ (p : List Bool) (t : Tr α), Tr.get p (Tr.set x p t) = x
  | [], .e => rfl
  | [], .n _ _ _ => rfl
  | b :: p, .e => by cases b <;> simp [Tr.set, Tr.get, get_set_same x p .e]
  | b :: p, .n v l r => by cases b <;> simp [Tr.set, Tr.get, get_set_same x p l, get_set_same x p r]

theorem Tr.get_set_ne {α : Type} (x : Option α) : ∀ (p q : List Bool) (t : Tr α), p ≠ q → Tr.get q (Tr.set x p t) = Tr.get q t
  | [], [], _, h => absurd rfl h
  | [], b :: q, .e, _ => by cases b <;> simp [Tr.set, Tr.get, Tr.get_e]
  | [], b :: q, .n _ _ _, _ => rfl
  | b :: p, [], .e, _ => by cases b <;> rfl
  | b :: p, [], .n _ _ _, _ => by cases b <;> rfl
  | b :: p, c :: q, .e, h => by
    cases b <;> cases c <;> simp only [Tr.set, Tr.get, cond_true, cond_false, Tr.get_e]
    · rw [get_set_ne x p q .e (fun e => h (by rw [e])), Tr.get_e]
    · rw [get_set_ne x p q .e (fun e => h (by rw [e])), Tr.get_e]
  | b :: p, c :: q, .n v l r, h => by
    cases b <;> cases c <;> simp only [Tr.set, Tr.get, cond_true, cond_false]
    · exact get_set_ne x p q r (fun e => h (by rw [e]))
    · exact get_set_ne x p q l (fun e => h (by rw [e]))

theorem St.get_set_same (s : St) (b : Nat) (o : AObj) : (s.set b o).get b = some o := Tr.get_set_same _ _ _
theorem St.get_set_ne (s : St) {b c : Nat} (o : AObj) (h : b ≠ c) : (s.set b o).get c = s.get c := Tr.get_set_ne _ _ _ _ (fun e => h (pth_inj e))
def cme (φ : Phi) (e : V × V × Nat) : MapEntry := { key := cv φ e.1, val := cv φ e.2.1, born := e.2.2 }

/-- What lies in the world where a row has its name. -/
def coT (φ : Phi) (b : Nat) : AObj → Obj → Prop
  | .cells xs t none, O => O = .cells (cvl φ xs).toArray t
  | .cells xs t (some sz), O => ∃ r, O = .cells (cvl φ xs ++ r).toArray t ∧ xs.length + r.length = (φ b).2 * sz
  | .map es ck, O => O = .map (es.map (cme φ)).toArray ck
  | .iter l pos, O => O = .stringIter (bs l) pos

structure Rel (φ : Phi) (s : St) (w : World) : Prop where
  obj : ∀ b o, s.get b = some o → ∃ O, w.heap[(φ b).1]? = some O ∧ coT φ b o O
  inj : ∀ b c, s.get b ≠ none → s.get c ≠ none → (φ b).1 = (φ c).1 → b = c
  lt : ∀ b, s.get b ≠ none → b < s.nx

def ER (φ : Phi) (ρA : Tr V) (ρ : Env) : Prop := ∀ t v, Tr.get (pth t) ρA = some v → ρ t = cv φ v

def Agr (n : Nat) (φ ψ : Phi) : Prop := ∀ b, b < n → ψ b = φ b

theorem Agr.refl (n : Nat) (φ : Phi) : Agr n φ φ := fun _ _ => rfl
theorem Agr.trans {n m : Nat} {φ ψ χ : Phi} (h : Agr n φ ψ) (h' : Agr m ψ χ) (hn : n ≤ m) : Agr n φ χ := fun b hb => (h' b (Nat.lt_of_lt_of_le hb hn)).trans (h b hb)
theorem Agr.symm {n : Nat} {φ ψ : Phi} (h : Agr n φ ψ) : Agr n ψ φ := fun b hb => (h b hb).symm
theorem Agr.mono {n m : Nat} {φ ψ : Phi} (h : Agr m φ ψ) (hn : n ≤ m) : Agr n φ ψ := fun b hb => h b (Nat.lt_of_lt_of_le hb hn)

theorem ER.put {φ : Phi} {ρA : Tr V} {ρ : Env} (h : ER φ ρA ρ) (d : Option Nat) (v : V) : ER φ (aput ρA d v) (put ρ d (cv φ v)) := by
  cases d with
  | none => exact h
  | some d =>
    intro t u hu
    simp only [aput] at hu
    simp only [Cv.put]
    by_cases ht : t = d
    · subst ht
      rw [Tr.get_set_same] at hu
      cases hu
      rw [Nat.beq_refl]; rfl
    · rw [Tr.get_set_ne _ _ _ _ (fun e => ht (pth_inj e).symm)] at hu
      have hb : Nat.beq t d = false := by
        cases hb : Nat.beq t d with
        | false => rfl
        | true => exact absurd (Nat.eq_of_beq_eq_true hb) ht
      rw [hb]
      exact h t u hu

theorem bs_toNat (s : ByteArray) : bs (s.data.toList.map UInt8.toNat) = s := by
  unfold bs
  rw [List.map_map]
  have : (Nat.toUInt8 ∘ UInt8.toNat) = id := by
    funext x
    simp [Nat.toUInt8]
  rw [this]
  simp

/-! ### Filling in parts -/

theorem fold_spl {off : Nat} : ∀ (vs : List Value) (k : Nat) (l : List Value), off + k + vs.length ≤ l.length →
    List.foldl (fun (cs : Array Value) (p : Value × Nat) => cs.setIfInBounds (off + p.2) p.1) l.toArray (vs.zipIdx k) = (spl l (off + k) vs).toArray
  | [], k, l, _ => by simp [spl]
  | v :: vs, k, l, h => by
    simp only [List.length_cons] at h
    simp only [List.zipIdx_cons, List.foldl_cons, List.setIfInBounds_toArray]
    rw [fold_spl vs (k + 1) (l.set (off + k) v) (by rw [List.length_set]; omega), show off + (k + 1) = off + k + 1 by omega, spl_set (by omega)]

end Cv

namespace Cv
set_option linter.unusedSimpArgs false
set_option linter.unusedVariables false
open Go Go.RowKit

theorem keq_sound {k k' : IntKind} (h : keq k k' = true) : k = k' := by cases k <;> cases k' <;> first | rfl | cases h

end Cv

namespace Cv
set_option linter.unusedSimpArgs false
set_option linter.unusedVariables false
open Go Go.RowKit

theorem isPtrT_some {P : Program} {t : TypeId} (h : isPtrT P t = true) : ∃ e, P.underlying t = some (.pointer e) := by
  unfold isPtrT at h; split at h
  · exact ⟨_, by assumption⟩
  · cases h
theorem isSlT_some {P : Program} {t : TypeId} (h : isSlT P t = true) : ∃ e, P.underlying t = some (.slice e) := by
  unfold isSlT at h; split at h
  · exact ⟨_, by assumption⟩
  · cases h
theorem isMapT_some {P : Program} {t : TypeId} (h : isMapT P t = true) : ∃ k e, P.underlying t = some (.map k e) := by
  unfold isMapT at h; split at h
  · exact ⟨_, _, by assumption⟩
  · cases h
theorem isStrT_some {P : Program} {t : TypeId} (h : isStrT P t = true) : P.underlying t = some .string := by
  unfold isStrT at h; split at h
  · assumption
  · cases h
end Cv

namespace Cv
set_option linter.unusedSimpArgs false
set_option linter.unusedVariables false
open Go Go.RowKit

theorem cond_some {α : Type} {b : Bool} {x : Option α} {v : α} (h : (bif b then x else none) = some v) : b = true ∧ x = some v := by
  cases b
  · cases h
  · exact ⟨rfl, h⟩

theorem idxOk_some {i : Int} {n j : Nat} (h : idxOk i n = some j) : i = (j : Int) ∧ j < n := by
  unfold idxOk at h
  split at h
  · rename_i m
    obtain ⟨hb, h⟩ := cond_some h
    simp only [Option.some.injEq] at h
    subst h
    exact ⟨rfl, by simpa [Nat.blt_eq] using hb⟩
  · cases h

theorem fieldOff_some {P : Program} {s f off : Nat} (h : fieldOff P s f = some off) : ∃ fs fd i, P.underlying s = some (.struct fs) ∧ fs[f]? = some fd ∧ P.info? fd.type = some i ∧ i.size ≠ 0 ∧ fd.offset = off := by
  unfold fieldOff at h
  split at h <;> first | (cases h; done) | skip
  rename_i fs hfs
  split at h <;> first | (cases h; done) | skip
  rename_i fd hfd
  split at h <;> first | (cases h; done) | skip
  rename_i i hi
  cases hb : Nat.beq i.size 0
  · rw [hb] at h
    simp only [cond_false, Option.some.injEq] at h
    exact ⟨fs, fd, i, hfs, hfd, hi, (fun e => by rw [e] at hb; cases hb), h⟩
  · rw [hb] at h; cases h

theorem fieldPart_some {P : Program} {s f ft off : Nat} (h : fieldPart P s f = some (ft, off)) : ∃ fs fd, P.underlying s = some (.struct fs) ∧ fs[f]? = some fd ∧ fd.type = ft ∧ fd.offset = off := by
  unfold fieldPart at h
  split at h <;> first | (cases h; done) | skip
  rename_i fs hfs
  split at h <;> first | (cases h; done) | skip
  rename_i fd hfd
  simp only [Option.some.injEq, Prod.mk.injEq] at h
  exact ⟨fs, fd, hfs, hfd, h.1, h.2⟩

theorem arrPart_some {P : Program} {t n e sz : Nat} (h : arrPart P t = some (n, e, sz)) : ∃ i, P.underlying t = some (.array n e) ∧ P.info? e = some i ∧ i.size = sz := by
  unfold arrPart at h
  split at h <;> first | (cases h; done) | skip
  rename_i n' e' ht
  split at h <;> first | (cases h; done) | skip
  rename_i i hi
  simp only [Option.some.injEq, Prod.mk.injEq] at h
  obtain ⟨rfl, rfl, rfl⟩ := h
  exact ⟨i, ht, hi, rfl⟩

theorem allS_some {α : Type} : ∀ {l : List (Option α)} {L : List α}, allS l = some L → l = L.map some
  | [], L, h => by simp only [allS, Option.some.injEq] at h; subst h; rfl
  | none :: l, L, h => by cases h
  | some a :: l, L, h => by
    simp only [allS] at h
    split at h <;> first | (cases h; done) | skip
    rename_i r hr
    simp only [Option.some.injEq] at h
    subst h
    rw [List.map_cons, ← allS_some hr]

theorem run_places {P : Program} (w : World) : ∀ {fs : List Field} {L : List (Nat × Nat)},
    (fs.map fun fd => match P.info? fd.type with | some i => some (fd.offset, i.size) | none => none) = L.map some →
    ((fs.mapM fun f => (do pure (f.offset, ← Go.sizeOf f.type) : Sem (Nat × Nat))) : Sem (List (Nat × Nat))).run P w = .ok L w
  | [], L, h => by
    cases L with
    | nil => rfl
    | cons a l => cases h
  | fd :: fs, L, h => by
    cases L with
    | nil => cases h
    | cons a l =>
      simp only [List.map_cons, List.cons.injEq] at h
      obtain ⟨h1, h2⟩ := h
      split at h1 <;> first | (cases h1; done) | skip
      rename_i i hi
      simp only [Option.some.injEq] at h1
      subst h1
      have ih := run_places w h2
      simp only [List.mapM_cons, bind, pure, run_bind, Sem.bind, Sem.run, run_sizeOf hi] at ih ⊢
      rw [ih]

theorem exec_builtin {ρ : Env} {o : Oper} {c : Call} {b : Builtin} (ho : o.op = .call c) (hc : c.callee = .builtin b) :
    execOp (ev ρ) o = builtin b c.argTypes o.type (c.args.map fun | .const _ => true | _ => false) (c.args.map (ev ρ)) := by
  have hexec : execOp (ev ρ) o = (resolve (ev ρ) c o.type).bind fun d => invoke d.target d.args := by
    simp only [execOp, ho]; rfl
  rw [hexec]; unfold resolve; rw [hc]; rfl

end Cv

