/- A symbolic walk, second part: lists of values; operations that look at no memory. No condition. -/
import Derived.Test.YtlgpgmafmgmfdaaSxA
import Derived.Test.YtlgpgmafmgmfdaaCvP
set_option linter.unusedSimpArgs false
set_option linter.unusedVariables false
namespace Sx
open Go Go.RowKit Cv

/-! ### Lists -/
theorem VRL.length {E : Ev} : ∀ {vs : List V} {l : List Value}, VRL E vs l → l.length = vs.length
  | [], l, h => by simp only [VRL] at h; subst h; rfl
  | v :: vs, l, h => by simp only [VRL] at h; obtain ⟨x, xs, rfl, h1, h2⟩ := h; simp [h2.length]
theorem VRL.get {E : Ev} : ∀ {vs : List V} {l : List Value}, VRL E vs l → ∀ {i : Nat} {v : V}, vs[i]? = some v → ∃ y, l[i]? = some y ∧ VR E v y
  | [], l, h, i, v, e => by simp at e
  | v :: vs, l, h, i, u, e => by
    simp only [VRL] at h; obtain ⟨x, xs, rfl, h1, h2⟩ := h
    cases i with
    | zero => simp at e; subst e; exact ⟨x, rfl, h1⟩
    | succ i => simp at e ⊢; exact h2.get e
theorem VRL.take {E : Ev} : ∀ {vs : List V} {l : List Value}, VRL E vs l → ∀ (n : Nat), VRL E (vs.take n) (l.take n)
  | [], l, h, n => by simp only [VRL] at h; subst h; simp [VRL]
  | v :: vs, l, h, n => by
    simp only [VRL] at h; obtain ⟨x, xs, rfl, h1, h2⟩ := h
    cases n with
    | zero => simp [VRL]
    | succ n => simp only [List.take_succ_cons, VRL]; exact ⟨_, _, rfl, h1, h2.take n⟩
theorem VRL.drop {E : Ev} : ∀ {vs : List V} {l : List Value}, VRL E vs l → ∀ (n : Nat), VRL E (vs.drop n) (l.drop n)
  | [], l, h, n => by simp only [VRL] at h; subst h; simp [VRL]
  | v :: vs, l, h, n => by
    have h0 := h
    simp only [VRL] at h; obtain ⟨x, xs, rfl, h1, h2⟩ := h
    cases n with
    | zero => exact h0
    | succ n => simp only [List.drop_succ_cons]; exact h2.drop n
theorem VRL.append {E : Ev} : ∀ {vs : List V} {l : List Value}, VRL E vs l → ∀ {us : List V} {m : List Value}, VRL E us m → VRL E (vs ++ us) (l ++ m)
  | [], l, h, us, m, h' => by simp only [VRL] at h; subst h; exact h'
  | v :: vs, l, h, us, m, h' => by
    simp only [VRL] at h; obtain ⟨x, xs, rfl, h1, h2⟩ := h
    simp only [List.cons_append, VRL]; exact ⟨_, _, rfl, h1, h2.append h'⟩
theorem VRL.one {E : Ev} {v : V} {y : Value} (h : VR E v y) : VRL E [v] [y] := by simp only [VRL]; exact ⟨_, _, rfl, h, rfl⟩
theorem VRL.nil {E : Ev} : VRL E [] [] := by simp only [VRL]

theorem DRL.length {F : PH} : ∀ {vs : List D} {l : List Value}, DRL F vs l → l.length = vs.length
  | [], l, h => by simp only [DRL] at h; subst h; rfl
  | v :: vs, l, h => by simp only [DRL] at h; obtain ⟨x, xs, rfl, h1, h2⟩ := h; simp [h2.length]
theorem DRL.append {F : PH} : ∀ {vs : List D} {l : List Value}, DRL F vs l → ∀ {us : List D} {m : List Value}, DRL F us m → DRL F (vs ++ us) (l ++ m)
  | [], l, h, us, m, h' => by simp only [DRL] at h; subst h; exact h'
  | v :: vs, l, h, us, m, h' => by
    simp only [DRL] at h; obtain ⟨x, xs, rfl, h1, h2⟩ := h
    simp only [List.cons_append, DRL]; exact ⟨_, _, rfl, h1, h2.append h'⟩
theorem DRL.split {F : PH} : ∀ {vs us : List D} {l : List Value}, DRL F (vs ++ us) l → ∃ l1 l2, l = l1 ++ l2 ∧ DRL F vs l1 ∧ DRL F us l2
  | [], us, l, h => ⟨[], l, rfl, by simp only [DRL], h⟩
  | v :: vs, us, l, h => by
    simp only [List.cons_append, DRL] at h; obtain ⟨x, xs, rfl, h1, h2⟩ := h
    obtain ⟨l1, l2, rfl, h3, h4⟩ := h2.split
    exact ⟨x :: l1, l2, rfl, by simp only [DRL]; exact ⟨_, _, rfl, h1, h3⟩, h4⟩
theorem DRL.take {F : PH} : ∀ {vs : List D} {l : List Value}, DRL F vs l → ∀ (n : Nat), DRL F (vs.take n) (l.take n)
  | [], l, h, n => by simp only [DRL] at h; subst h; simp [DRL]
  | v :: vs, l, h, n => by
    simp only [DRL] at h; obtain ⟨x, xs, rfl, h1, h2⟩ := h
    cases n with
    | zero => simp [DRL]
    | succ n => simp only [List.take_succ_cons, DRL]; exact ⟨_, _, rfl, h1, h2.take n⟩
theorem DRL.drop {F : PH} : ∀ {vs : List D} {l : List Value}, DRL F vs l → ∀ (n : Nat), DRL F (vs.drop n) (l.drop n)
  | [], l, h, n => by simp only [DRL] at h; subst h; simp [DRL]
  | v :: vs, l, h, n => by
    have h0 := h
    simp only [DRL] at h; obtain ⟨x, xs, rfl, h1, h2⟩ := h
    cases n with
    | zero => exact h0
    | succ n => simp only [List.drop_succ_cons]; exact h2.drop n
theorem DRL.one {F : PH} : ∀ {vs : List D} {l : List Value}, DRL F vs l → ∀ v ∈ l, v.oneC = true
  | [], l, h => by simp only [DRL] at h; subst h; simp
  | v :: vs, l, h => by
    simp only [DRL] at h; obtain ⟨x, xs, rfl, h1, h2⟩ := h
    intro u hu
    rcases List.mem_cons.1 hu with rfl | hu
    · cases v with
      | v y => simp only [DR] at h1; rw [h1.1]; exact h1.2
      | ro sz els => simp only [DR] at h1; obtain ⟨a, c, rfl, _⟩ := h1; rfl
    · exact h2.one u hu
theorem DRL.get {F : PH} : ∀ {vs : List D} {l : List Value}, DRL F vs l → ∀ {i : Nat} {v : D}, vs[i]? = some v → ∃ y, l[i]? = some y ∧ DR F v y
  | [], l, h, i, v, e => by simp at e
  | v :: vs, l, h, i, u, e => by
    simp only [DRL] at h; obtain ⟨x, xs, rfl, h1, h2⟩ := h
    cases i with
    | zero => simp at e; subst e; exact ⟨x, rfl, h1⟩
    | succ i => simp at e ⊢; exact h2.get e
theorem DRL.vrl {E : Ev} : ∀ {vs : List D} {l : List Value}, DRL E.F vs l → VRL E (vs.map .d) l
  | [], l, h => by simp only [DRL] at h; subst h; simp [VRL]
  | v :: vs, l, h => by
    simp only [DRL] at h; obtain ⟨x, xs, rfl, h1, h2⟩ := h
    simp only [List.map_cons, VRL, VR]; exact ⟨_, _, rfl, h1, h2.vrl⟩

theorem DRS_iff {F : PH} : ∀ {els : List (List D)} {l : List Value}, DRS F els l ↔ ∃ xs r, l = xs ++ r ∧ DRL F els.flatten xs
  | [], l => by simp only [DRS, List.flatten_nil, true_iff, DRL]; exact ⟨[], l, rfl, rfl⟩
  | el :: els, l => by
    simp only [DRS, List.flatten_cons]
    constructor
    · rintro ⟨l1, l2, rfl, h1, h2⟩
      obtain ⟨xs, r, rfl, h3⟩ := DRS_iff.1 h2
      exact ⟨l1 ++ xs, r, by simp, h1.append h3⟩
    · rintro ⟨xs, r, rfl, h⟩
      obtain ⟨l1, l2, rfl, h1, h2⟩ := h.split
      exact ⟨l1, l2 ++ r, by simp, h1, DRS_iff.2 ⟨l2, r, rfl, h2⟩⟩

theorem flat_len {α : Type} {sz : Nat} : ∀ {els : List (List α)}, (∀ el ∈ els, el.length = sz) → els.flatten.length = els.length * sz
  | [], _ => by simp
  | el :: els, h => by
    rw [List.flatten_cons, List.length_append, h el List.mem_cons_self, flat_len (fun e he => h e (List.mem_cons_of_mem _ he)), List.length_cons, Nat.succ_mul]
    omega
theorem flat_drop {α : Type} {sz : Nat} : ∀ {els : List (List α)} (i : Nat), (∀ el ∈ els, el.length = sz) → els.flatten.drop (i * sz) = (els.drop i).flatten
  | [], i, _ => by simp
  | el :: els, 0, h => by simp
  | el :: els, i + 1, h => by
    rw [List.flatten_cons, List.drop_succ_cons, ← flat_drop i (fun e he => h e (List.mem_cons_of_mem _ he)), Nat.succ_mul, Nat.add_comm, ← List.drop_drop]
    rw [show (el ++ els.flatten).drop sz = els.flatten by rw [← h el List.mem_cons_self, List.drop_left]]
theorem flat_take {α : Type} {sz : Nat} : ∀ {els : List (List α)} (i : Nat), (∀ el ∈ els, el.length = sz) → els.flatten.take (i * sz) = (els.take i).flatten
  | [], i, _ => by simp
  | el :: els, 0, h => by simp
  | el :: els, i + 1, h => by
    rw [List.flatten_cons, List.take_succ_cons, List.flatten_cons, ← flat_take i (fun e he => h e (List.mem_cons_of_mem _ he)), Nat.succ_mul, Nat.add_comm, List.take_append, h el List.mem_cons_self]
    simp [h el List.mem_cons_self]
    rw [List.take_of_length_le (by rw [h el List.mem_cons_self]; omega)]

/-- A part of an element. -/
theorem flat_part {α : Type} {sz : Nat} {els : List (List α)} {i f n : Nat} {el : List α} (h : ∀ el ∈ els, el.length = sz) (hi : els[i]? = some el) (hf : f + n ≤ sz) : (els.flatten.drop (i * sz + f)).take n = (el.drop f).take n := by
  have hm := List.mem_of_getElem? hi
  have hlt : i < els.length := (List.getElem?_eq_some_iff.1 hi).1
  rw [← List.drop_drop, flat_drop i h]
  have : els.drop i = el :: els.drop (i + 1) := by
    rw [List.drop_eq_getElem_cons hlt]
    congr 1
    exact (List.getElem?_eq_some_iff.1 hi).2
  rw [this, List.flatten_cons, List.drop_append_of_le_length (by rw [h el hm]; omega), List.take_append_of_le_length (by rw [List.length_drop, h el hm]; omega)]

/-! ### Operands -/
def okc : Value → Bool
  | .agg cs => cs.toList.all (·.oneC)
  | .tuple cs => cs.toList.all (·.oneC)
  | _ => true

def toV (x : Value) : V :=
  bif okc x then (match x with
  | .agg cs => .agg (cs.toList.map fun y => .d (.v y))
  | .tuple cs => .tup (cs.toList.map fun y => .d (.v y))
  | x => .d (.v x)) else .top

theorem leafs {E : Ev} : ∀ {l : List Value}, (l.all (·.oneC)) = true → VRL E (l.map fun y => .d (.v y)) l
  | [], _ => by simp [VRL]
  | y :: l, h => by
    simp only [List.all_cons, Bool.and_eq_true] at h
    simp only [List.map_cons, VRL, VR, DR]
    exact ⟨y, l, rfl, ⟨rfl, h.1⟩, leafs h.2⟩

theorem toV_ok (E : Ev) (x : Value) : VR E (toV x) x := by
  unfold toV
  cases h : okc x
  · simp [VR]
  · cases x <;> simp only [cond_true, VR, DR] <;> first | exact ⟨rfl, rfl⟩ | exact ⟨trivial, rfl⟩ | (rename_i cs; exact ⟨cs.toList, by simp, leafs h⟩)

@[reducible] def SEnv := Nat → V

def sev (ρ : SEnv) : Operand → V
  | .tmp t => ρ t
  | .const x => toV x
  | .func f => .fn f [] []
  | .global _ => .top

def sput (ρ : SEnv) : Option Nat → V → SEnv
  | none, _ => ρ
  | some d, v => fun i => bif Nat.beq i d then v else ρ i

def EnvR (E : Ev) (ρS : SEnv) (ρ : Env) : Prop := ∀ t, VR E (ρS t) (ρ t)

theorem EnvR.ev {E : Ev} {ρS : SEnv} {ρ : Env} (h : EnvR E ρS ρ) (x : Operand) : VR E (sev ρS x) (ev ρ x) := by
  cases x with
  | tmp t => exact h t
  | const v => exact toV_ok E v
  | func f => simp only [sev, Cv.ev, VR]; exact ⟨[], [], rfl, VRL.nil, VRL.nil⟩
  | global g => simp only [sev, VR]

theorem EnvR.put {E : Ev} {ρS : SEnv} {ρ : Env} (h : EnvR E ρS ρ) (d : Option Nat) {v : V} {y : Value} (hv : VR E v y) : EnvR E (sput ρS d v) (Cv.put ρ d y) := by
  cases d with
  | none => exact h
  | some d =>
    intro t
    simp only [sput, Cv.put]
    cases Nat.beq t d
    · exact h t
    · exact hv

theorem EnvR.mono {E E' : Ev} (h : E.le E') {ρS : SEnv} {ρ : Env} (e : EnvR E ρS ρ) : EnvR E' ρS ρ := fun t => (e t).mono h

def evs (ρ : SEnv) : List Operand → List V
  | [] => []
  | x :: l => sev ρ x :: evs ρ l

theorem evs_ok {E : Ev} {ρS : SEnv} {ρ : Env} (h : EnvR E ρS ρ) : ∀ (l : List Operand), VRL E (evs ρS l) (l.map (ev ρ))
  | [] => by simp [evs, VRL]
  | x :: l => by simp only [evs, List.map_cons, VRL]; exact ⟨_, _, rfl, h.ev x, evs_ok h l⟩

theorem evs_arr {E : Ev} {ρS : SEnv} {ρ : Env} (h : EnvR E ρS ρ) (l : Array Operand) : ∃ ys : List Value, l.map (ev ρ) = ys.toArray ∧ VRL E (evs ρS l.toList) ys :=
  ⟨l.toList.map (ev ρ), by apply Array.ext'; simp, evs_ok h _⟩

/-! ### Leaves -/
def leafL : List V → Option (List Value)
  | [] => some []
  | .d (.v x) :: l => match leafL l with
    | some r => some (x :: r)
    | none => none
  | _ :: _ => none

def leaf : V → Option Value
  | .d (.v x) => some x
  | .agg l => match leafL l with
    | some r => some (.agg r.toArray)
    | none => none
  | .fn f [] [] => some (.func (.func f) #[] #[])
  | _ => none

theorem leafL_ok {E : Ev} : ∀ {l : List V} {r ys : List Value}, leafL l = some r → VRL E l ys → ys = r
  | [], r, ys, h, e => by simp only [leafL, Option.some.injEq] at h; subst h; simpa only [VRL] using e
  | v :: l, r, ys, h, e => by
    simp only [VRL] at e; obtain ⟨x, xs, rfl, h1, h2⟩ := e
    unfold leafL at h
    split at h
    · rename_i heq; cases heq
    · rename_i x' l' heq
      cases heq
      simp only [VR, DR] at h1
      split at h <;> first | (cases h; done) | skip
      rename_i r' hr
      cases h
      rw [h1.1, leafL_ok hr h2]
    · cases h

theorem leaf_ok {E : Ev} {v : V} {x y : Value} (h : leaf v = some x) (e : VR E v y) : y = x := by
  unfold leaf at h
  split at h
  · cases h; simp only [VR, DR] at e; exact e.1
  · rename_i l
    split at h <;> first | (cases h; done) | skip
    rename_i r hr
    cases h
    simp only [VR] at e
    obtain ⟨ys, rfl, h2⟩ := e
    rw [leafL_ok hr h2]
  · cases h
    simp only [VR] at e
    obtain ⟨as, bs, rfl, h2, h3⟩ := e
    simp only [VRL] at h2 h3
    subst h2 h3; rfl
  · cases h

def lfy (ρ : SEnv) : Operand → Bool
  | .tmp t => match leaf (ρ t) with
    | some _ => true
    | none => false
  | _ => true

def lfys (ρ : SEnv) : List Operand → Bool
  | [] => true
  | x :: l => bif lfy ρ x then lfys ρ l else false

def lenv (ρ : SEnv) : Env := fun t => match leaf (ρ t) with
  | some x => x
  | none => undef

theorem lfy_ev {E : Ev} {ρS : SEnv} {ρ : Env} (h : EnvR E ρS ρ) {x : Operand} (hl : lfy ρS x = true) : ev (lenv ρS) x = ev ρ x := by
  cases x with
  | tmp t =>
    simp only [lfy] at hl
    split at hl <;> first | (cases hl; done) | skip
    rename_i y hy
    simp only [Cv.ev, lenv, hy]
    exact (leaf_ok hy (h t)).symm
  | _ => rfl

theorem lfys_ev {E : Ev} {ρS : SEnv} {ρ : Env} (h : EnvR E ρS ρ) : ∀ {l : List Operand}, lfys ρS l = true → ∀ x ∈ l, ev (lenv ρS) x = ev ρ x
  | [], _, x, hx => by cases hx
  | y :: l, hl, x, hx => by
    simp only [lfys] at hl
    cases hy : lfy ρS y with
    | false => rw [hy] at hl; cases hl
    | true =>
      rw [hy] at hl
      rcases List.mem_cons.1 hx with rfl | hx
      · exact lfy_ev h hy
      · exact lfys_ev h hl x hx

/-- Operations that look at their operands alone. -/
def plainOp : Op → Bool
  | .binOp _ _ _ _ _ => true
  | .unOp _ _ _ => true
  | .convert _ _ _ => true
  | .index _ _ _ => true
  | .nilCheck _ => true
  | .slice _ _ _ _ none => true
  | .call { callee := .builtin _, .. } => true
  | _ => false

theorem exec_leaf {ρ ρ' : Env} {o : Oper} (hp : plainOp o.op = true) (h : ∀ x ∈ o.op.operands.toList, ev ρ x = ev ρ' x) : execOp (ev ρ) o = execOp (ev ρ') o := by
  obtain ⟨dst, op, ty, pos, after, gd⟩ := o
  cases op <;> simp only [plainOp, Bool.false_eq_true] at hp
  case binOp a b x y c => simp only [Op.operands, List.mem_cons, List.not_mem_nil, or_false, forall_eq_or_imp, forall_eq] at h; simp only [execOp, h]
  case unOp a b x => simp only [Op.operands, List.mem_cons, List.not_mem_nil, or_false, forall_eq] at h; simp only [execOp, h]
  case convert a b x => simp only [Op.operands, List.mem_cons, List.not_mem_nil, or_false, forall_eq] at h; simp only [execOp, h]
  case index a x y => simp only [Op.operands, List.mem_cons, List.not_mem_nil, or_false, forall_eq_or_imp, forall_eq] at h; simp only [execOp, h]
  case nilCheck x => simp only [Op.operands, List.mem_cons, List.not_mem_nil, or_false, forall_eq] at h; simp only [execOp, h]
  case slice a x lo hi mx =>
    cases mx with
    | some m => simp [plainOp] at hp
    | none =>
      have hl : lo.map (ev ρ) = lo.map (ev ρ') := by
        cases lo with
        | none => rfl
        | some z => simp only [Option.map_some]; rw [h z (by simp [Op.operands])]
      have hh : hi.map (ev ρ) = hi.map (ev ρ') := by
        cases hi with
        | none => rfl
        | some z => simp only [Option.map_some]; rw [h z (by simp [Op.operands])]
      simp only [execOp, hl, hh, h x (by simp [Op.operands])]
      rfl
  case call c =>
    obtain ⟨callee, args, ats⟩ := c
    cases callee <;> simp only [plainOp, Bool.false_eq_true] at hp
    have ha : args.map (ev ρ) = args.map (ev ρ') := by
      apply Array.map_congr_left
      intro x hx
      exact h x (by simp [Op.operands, Call.operands, hx])
    simp only [execOp, resolve, ha]

end Sx
