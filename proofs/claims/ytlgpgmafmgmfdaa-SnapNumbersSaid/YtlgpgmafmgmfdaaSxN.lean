/- A symbolic walk: structs of numbers, texts and truths held against each other. No condition. -/
import Derived.Test.YtlgpgmafmgmfdaaSxB
set_option linter.unusedSimpArgs false
set_option linter.unusedVariables false
namespace Sx
open Go Go.RowKit Cv

/-- Two cells of a type that is a number, a text or a truth. -/
def scEq (P : Program) (t : TypeId) (x y : Value) : Option Bool :=
  match P.underlying t with
  | some (.int _) => match x with
    | .int k a => match y with
      | .int k' b => bif keq k k' then some (a == b) else none
      | _ => none
    | _ => none
  | some .string => match x with
    | .string a => match y with
      | .string b => some (a == b)
      | _ => none
    | _ => none
  | some .bool => match x with
    | .bool a => match y with
      | .bool b => some (a == b)
      | _ => none
    | _ => none
  | _ => none

def fsEq (P : Program) (xs ys : List Value) : List Field → Option Bool
  | [] => some true
  | f :: fs => bif f.name == "_" then none else match xs[f.offset]?, ys[f.offset]? with
    | some x, some y => match scEq P f.type x y with
      | some a => match fsEq P xs ys fs with
        | some b => some (a && b)
        | none => none
      | none => none
    | _, _ => none

def aggEq (P : Program) (t : TypeId) (xs ys : List Value) : Option Bool :=
  match P.underlying t with
  | some (.struct fs) => bif P.stoodInHeld t then none else fsEq P xs ys fs.toList
  | _ => none

theorem scEq_scal {P : Program} {t : TypeId} {x y : Value} {b : Bool} (h : scEq P t x y = some b) : scal P t = true := by
  unfold scEq at h
  unfold scal
  split at h <;> first | (cases h; done) | skip
  all_goals (rename_i he; rw [he])

theorem scEq_run {P : Program} {t : TypeId} {x y : Value} {b : Bool} {d : Nat} (h : scEq P t x y = some b) (w : World) : (Op.equalIn (d + 1) t x y).run P w = .ok b w := by
  unfold scEq at h
  split at h <;> first | (cases h; done) | skip
  all_goals
    rename_i he
    split at h <;> first | (cases h; done) | skip
    split at h <;> first | (cases h; done) | skip
    unfold Op.equalIn
    simp only [bind, pure, run_bind, Cv.run_underlying he]
  · obtain ⟨hk, hb⟩ := cond_some h
    clear h
    have := keq_sound hk
    subst this
    cases hb
    simp only [if_true, Sem.run]
  · cases h; rfl
  · cases h; rfl

theorem run_part {P : Program} {t off : Nat} {cs : List Value} {v : Value} (hs : scal P t = true) (h : cs[off]? = some v) (w : World) : (part t cs.toArray off).run P w = .ok v w := by
  unfold part
  have : cs.toArray[off]? = some v := by simp [h]
  simp only [bind, run_bind, run_isAgg_scal hs w, Bool.false_eq_true, if_false, this]
  rfl

theorem run_fsFor {P : Program} (w : World) {xs ys : List Value} {σ : Type} {s0 : σ} {fin : σ} {F : Field → σ → Sem (ForInStep σ)}
    (hF : ∀ f x y b, (f.name == "_") = false → xs[f.offset]? = some x → ys[f.offset]? = some y → scEq P f.type x y = some b → (F f s0).run P w = .ok (if b then .yield s0 else .done fin) w) :
    ∀ {fs : List Field} {b : Bool}, fsEq P xs ys fs = some b → ((forIn fs s0 F) : Sem σ).run P w = .ok (if b then s0 else fin) w
  | [], b, h => by
    simp only [fsEq, Option.some.injEq] at h
    subst h; rfl
  | f :: fs, b, h => by
    simp only [fsEq] at h
    have hn : (f.name == "_") = false := by
      cases hb : (f.name == "_")
      · rfl
      · rw [hb] at h; cases h
    rw [hn] at h
    simp only [cond_false] at h
    split at h <;> first | (cases h; done) | skip
    rename_i x y hx hy
    split at h <;> first | (cases h; done) | skip
    rename_i a ha
    split at h <;> first | (cases h; done) | skip
    rename_i b' hb
    cases h
    have h1 := hF f x y a hn hx hy ha
    have ih := run_fsFor (P := P) w hF hb
    simp only [List.forIn_cons, bind, run_bind, h1]
    cases a
    · rfl
    · simpa using ih

theorem aggEq_run {P : Program} {t : TypeId} {xs ys : List Value} {b : Bool} (h : aggEq P t xs ys = some b) (w : World) : (Op.equal t (.agg xs.toArray) (.agg ys.toArray)).run P w = .ok b w := by
  unfold aggEq at h
  split at h <;> first | (cases h; done) | skip
  rename_i fs hfs
  have hst : P.stoodInHeld t = false ∧ fsEq P xs ys fs.toList = some b := by
    revert h; cases P.stoodInHeld t <;> intro h
    · exact ⟨rfl, h⟩
    · cases h
  rw [equal_succ]
  unfold Op.equalIn
  simp only [bind, pure, run_bind, Cv.run_underlying hfs, program, Sem.run, Sem.bind, hst.1, Bool.false_eq_true, if_false]
  rw [← Array.forIn_toList]
  have := run_fsFor (P := P) (xs := xs) (ys := ys) w (σ := Option Bool × Unit) (s0 := (none, ())) (fin := (some false, ())) (F := fun f __s => if f.name ≠ "_" then
      (part f.type xs.toArray f.offset).bind fun x => (part f.type ys.toArray f.offset).bind fun y => (Op.equalIn 9999 f.type x y).bind fun c =>
        if (!c) = true then Sem.pure (ForInStep.done (some false, ())) else Sem.pure (ForInStep.yield (none, ()))
      else Sem.pure (ForInStep.yield (none, ()))) (by
    intro f x y c hn hx hy hc
    have hne : f.name ≠ "_" := by simpa using hn
    simp only [hne, ne_eq, not_false_eq_true, if_true, run_bind, run_part (scEq_scal hc) hx, run_part (scEq_scal hc) hy, scEq_run (d := 9998) hc]
    cases c <;> rfl) hst.2
  rw [this]
  cases b <;> rfl

end Sx
