/- The calculus, second part: operations in their order, regions that draw their order, and code. No condition. -/
import Derived.Test.YtlgpgmafmgmfdaaCvA
set_option linter.unusedSimpArgs false
set_option linter.unusedVariables false
namespace Cv
open Go

def isNilC : Operand → Bool
  | .const (.pointer none) => true
  | _ => false

/-- 0: it looks at no world; 1: it looks at the world and leaves it; 2: all else. -/
def kindOf (P : Program) (op : Op) : Nat :=
  match op with
  | .load _ _ => 1
  | .lookup _ _ _ _ => 1
  | .convert s d _ =>
    match P.underlying s, P.underlying d with
    | some .string, some (.slice _) => 2
    | some (.slice _), some .string => 1
    | _, _ => 0
  | .binOp op t x y _ =>
    match op, P.underlying t with
    | .eql, some (.pointer _) => bif isNilC y then 0 else 1
    | .neq, some (.pointer _) => bif isNilC y then 0 else 1
    | _, _ => 0
  | .call c =>
    match c.callee with
    | .builtin .len =>
      match (c.argTypes[0]?).bind P.underlying with
      | some (.map _ _) => 1
      | _ => 0
    | .builtin .cap => 0
    | .builtin .min => 0
    | .builtin .max => 0
    | _ => 2
  | .alloc _ => 2
  | .box _ _ => 2
  | .buildSlice _ _ _ => 2
  | .makeMap _ _ => 2
  | .makeSlice _ _ _ => 2
  | .store _ _ _ => 2
  | .mapUpdate _ _ _ _ => 2
  | .mapEntry _ _ _ => 2
  | .entryStore _ _ _ _ => 2
  | .range _ _ => 2
  | .next _ _ => 2
  | _ => 0

def opV (P : Program) (o : Oper) (ρ : Env) (w : World) (K : Value → World → Prop) : Prop :=
  match kindOf P o.op with
  | 0 => pval P o ρ fun v => K v w
  | 1 => rval P o ρ w fun v => K v w
  | _ => evalE P o ρ w K

theorem does_of_value {P : Program} {s : Sem Next} {w w' : World} {v : Value} {K : Value → World → Prop} (h : s.run P w = .ok (.value v) w') (hk : K v w') : Does P s w K := by
  unfold Does; rw [h]; exact hk

theorem opV_sound {P : Program} {o : Oper} {ρ : Env} {w : World} {K : Value → World → Prop} (h : opV P o ρ w K) : Does P (execOp (ev ρ) o) w K := by
  unfold opV at h
  split at h
  · obtain ⟨v, hk, hf⟩ := pval_sound h; exact does_of_value (hf w) hk
  · obtain ⟨v, hk, hf⟩ := rval_sound h; exact does_of_value hf hk
  · exact eff_sound h

def dstOf (ops : List Oper) (j : Nat) : Option Nat :=
  match ops[j]? with
  | some o => o.dst
  | none => none

def gd (c want : Bool) (Y N : Prop) : Prop :=
  match c, want with
  | true, true => Y
  | false, false => Y
  | true, false => N
  | false, true => N

theorem gd.mk {c want : Bool} {Y N : Prop} (h1 : c = want → Y) (h2 : c = !want → N) : gd c want Y N := by
  cases c <;> cases want <;> first | exact h1 rfl | exact h2 rfl

theorem gd.mk1 {c : Bool} {Y N : Prop} (h1 : c = true → Y) (h2 : c = false → N) : gd c true Y N := gd.mk h1 h2
theorem gd.mk0 {c : Bool} {Y N : Prop} (h1 : c = true → N) (h2 : c = false → Y) : gd c false Y N := gd.mk h2 h1

def guardV (ops : List Oper) (g : Option (Nat × Bool)) (ρ : Env) (Y N : Env → Prop) : Prop :=
  match g with
  | none => Y ρ
  | some (j, want) =>
    match dstOf ops j with
    | none => N ρ
    | some d =>
      match ρ d with
      | .bool c => gd c want (Y (put ρ (some d) (.bool want))) (N (put ρ (some d) (.bool !want)))
      | _ => N ρ

theorem put_same {ρ : Env} {d : Nat} {v : Value} (h : ρ d = v) : put ρ (some d) v = ρ := by
  funext i
  simp only [put]
  cases hb : Nat.beq i d
  · rfl
  · have := Nat.eq_of_beq_eq_true hb; subst this; exact h.symm

@[reducible] def envOf (a : Act) : Env := fun i => a.tmps.getD i undef

theorem ev_envOf (a : Act) : ev (envOf a) = a.eval := by
  funext x; cases x <;> rfl

theorem envOf_put {a : Act} {dst : Option Nat} {v : Value} (h : ∀ d, dst = some d → d < a.tmps.size) : envOf (a.put dst v) = put (envOf a) dst v := by
  cases dst with
  | none => rfl
  | some d =>
    funext i
    have := h d rfl
    simp only [envOf, Act.put, put]
    cases hb : Nat.beq i d
    · have hne : i ≠ d := fun e => by subst e; simp at hb
      simp [Array.getD_eq_getD_getElem?, Array.getElem?_setIfInBounds_ne (Ne.symm hne)]
    · have e := Nat.eq_of_beq_eq_true hb; subst e
      simp [Array.getD_eq_getD_getElem?, Array.getElem?_setIfInBounds_self_of_lt this]

theorem yielded_list (ops : List Oper) (tmps : Array Value) (j : Nat) : yielded ops.toArray tmps j = match dstOf ops j with
        | none => none
        | some d => match tmps[d]? with | some (.bool b) => some b | _ => none := by
  unfold yielded dstOf
  simp only [List.getElem?_toArray]
  cases ops[j]? with
  | none => rfl
  | some o =>
    obtain ⟨dst, op, ty, pos, after, g⟩ := o
    cases dst with
    | none => rfl
    | some d =>
      simp only [Option.bind_some]
      cases tmps[d]? with
      | none => rfl
      | some v => cases v <;> rfl

theorem guardV_sound {ops : List Oper} {o : Oper} {a : Act} {Y N : Env → Prop} (h : guardV ops o.guard (envOf a) Y N) :
    if Region.wanted o (yielded ops.toArray a.tmps) then Y (envOf a) else N (envOf a) := by
  unfold guardV at h
  unfold Region.wanted
  split at h
  · rename_i hg; rw [hg]; exact h
  · rename_i j want hg
    rw [hg]
    have hy := yielded_list ops a.tmps j
    split at h
    · rename_i hd
      rw [hd] at hy
      simp only [hy]
      simpa using h
    · rename_i d hd
      rw [hd] at hy
      simp only [hy]
      have hv : envOf a d = (a.tmps[d]?).getD undef := by simp [envOf, Array.getD_eq_getD_getElem?]
      rw [hv] at h
      cases ht : a.tmps[d]? with
      | none =>
        rw [ht] at h
        simpa [undef] using h
      | some v =>
        rw [ht] at h hv
        simp only [Option.getD_some] at h hv
        cases v with
        | bool c =>
          simp only [] at h ⊢
          have hs : ∀ b, c = b → put (envOf a) (some d) (.bool b) = envOf a := fun b hb => put_same (by rw [hv, hb])
          cases c <;> cases want <;> simp only [gd, Bool.not_true, Bool.not_false] at h <;> rw [hs _ rfl] at h <;> simpa using h
        | _ => simpa using h

def copsV (P : Program) (ops : List Oper) : List Oper → Env → World → (Env → World → Prop) → Prop
  | [], ρ, w, K => K ρ w
  | o :: rest, ρ, w, K =>
    guardV ops o.guard ρ (fun ρ => opV P o ρ w fun v w' => copsV P ops rest (put ρ o.dst v) w' K) (fun ρ => copsV P ops rest (put ρ o.dst undef) w K)

/-- Each operation writes within the frame, and where it may. -/
def DstOk (n : Nat) (A : Nat → Bool) (ops : List Oper) : Prop := ∀ o ∈ ops, ∀ d, o.dst = some d → d < n ∧ A d = true

/-- A frame of n slots, without deferred calls, that is as the environment outside A. -/
structure Good (n : Nat) (A : Nat → Bool) (e0 : Env) (a : Act) : Prop where
  size : a.tmps.size = n
  defers : a.defers = []
  same : ∀ s, A s = false → envOf a s = e0 s

theorem put_size (a : Act) (d : Option Nat) (v : Value) : (a.put d v).tmps.size = a.tmps.size ∧ (a.put d v).defers = a.defers := by
  cases d <;> simp [Act.put]

theorem Good.envOf_put {n : Nat} {A : Nat → Bool} {e0 : Env} {a : Act} (h : Good n A e0 a) {dst : Option Nat} (hd : ∀ d, dst = some d → d < n ∧ A d = true) (v : Value) :
    envOf (a.put dst v) = put (envOf a) dst v := Cv.envOf_put fun d hd' => by rw [h.size]; exact (hd d hd').1

theorem Good.put {n : Nat} {A : Nat → Bool} {e0 : Env} {a : Act} (h : Good n A e0 a) {dst : Option Nat} (hd : ∀ d, dst = some d → d < n ∧ A d = true) (v : Value) : Good n A e0 (a.put dst v) := by
  refine ⟨(put_size _ _ _).1.trans h.size, (put_size _ _ _).2.trans h.defers, fun s hs => ?_⟩
  rw [h.envOf_put hd]
  cases dst with
  | none => exact h.same s hs
  | some d =>
    simp only [Cv.put]
    cases hb : Nat.beq s d
    · exact h.same s hs
    · have e := Nat.eq_of_beq_eq_true hb; subst e
      have := (hd s rfl).2
      rw [hs] at this; cases this

theorem wp_of_does {P : Program} {o : Oper} {a : Act} {w : World} {K : Act → World → Prop} {Q : Exit → Act → World → Prop}
    (h : Does P (execOp a.eval o) w fun v w' => K (a.put o.dst v) w') : o.wp P a w K Q := by
  unfold Does at h
  unfold Oper.wp
  split at h
  · rename_i v w' hr; rw [hr]; exact h
  · rename_i w' hr; rw [hr]; exact h
  · rename_i f args w' hr
    rw [hr]
    exact h.mono fun e w'' ⟨v, he, hk⟩ => by subst he; exact hk
  · exact h.elim

theorem cops_sound {P : Program} {ops : List Oper} {n : Nat} {A : Nat → Bool} {e0 : Env} {Q : Exit → Act → World → Prop} {K : Env → World → Prop}
    (hQ : ∀ a w, Good n A e0 a → K (envOf a) w → Q .normal a w) :
    ∀ (l : List Oper) (a : Act) (w : World), DstOk n A l → Good n A e0 a → copsV P ops l (envOf a) w K → wpList P ops.toArray Q l a w
  | [], a, w, _, hg, h => hQ a w hg h
  | o :: l, a, w, hf, hgd, h => by
    have hdst := hf o List.mem_cons_self
    have hf' : DstOk n A l := fun o' ho' => hf o' (List.mem_cons_of_mem _ ho')
    have hg := guardV_sound h
    have nx : ∀ {v : Value} {w : World}, copsV P ops l (put (envOf a) o.dst v) w K → wpList P ops.toArray Q l (a.put o.dst v) w := fun {v w} hh =>
      cops_sound hQ l _ _ hf' (hgd.put hdst v) (by rw [hgd.envOf_put hdst]; exact hh)
    unfold wpList
    split
    · rename_i hw
      rw [if_pos hw] at hg
      left
      refine wp_of_does ?_
      have := opV_sound hg
      rw [ev_envOf] at this
      unfold Does at this ⊢
      split at this
      · exact nx this
      · exact nx this
      · exact this.mono fun e w'' ⟨v, he, hk⟩ => ⟨v, he, nx hk⟩
      · exact this
    · rename_i hw
      rw [if_neg hw] at hg
      exact nx hg

end Cv
