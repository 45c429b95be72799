/- The calculus, sixth part: what a function hands back; a call by the walk of its code. No condition. -/
import Derived.Test.YtlgpgmafmgmfdaaCvE
set_option linter.unusedSimpArgs false
set_option linter.unusedVariables false
namespace Cv
open Go

/-- A string of bytes, by their numbers. -/
def bs (l : List Nat) : ByteArray := ⟨(l.map Nat.toUInt8).toArray⟩

def resL (P : Program) : List ResultVar → Env → World → (List Value → Prop) → Prop
  | [], _, _, K => K []
  | .tmp t :: rs, ρ, w, K => resL P rs ρ w fun vs => K (ρ t :: vs)
  | .cell a t :: rs, ρ, w, K =>
    match ρ a with
    | .pointer p => nilN p fun ad => exT P t fun v => Holds P t ad w v ∧ resL P rs ρ w fun vs => K (v :: vs)
    | _ => False

def oneOr : List Value → Value
  | [v] => v
  | vs => .tuple vs.toArray

def fnPost (P : Program) (fn : Func) (R : Ending → World → Prop) : Exit → Env → World → Prop
  | .normal, ρ, w => resL P fn.results.toList ρ w fun vs => R (.returned (oneOr vs)) w
  | .ret, ρ, w => resL P fn.results.toList ρ w fun vs => R (.returned (oneOr vs)) w
  | _, _, _ => False

def initEnv (args : List Value) : Env := fun i => args.getD i undef

def resS (tmps : Array Value) : ResultVar → Sem Value
  | .tmp t => pure (tmps.getD t undef)
  | .cell a t => (asAddr (tmps.getD a undef)).bind fun ad => loadVar t ad

theorem resL_run {P : Program} {tmps : Array Value} {w : World} : ∀ {rs : List ResultVar} {K : List Value → Prop}, resL P rs (fun i => tmps.getD i undef) w K →
    ∃ vs, (rs.mapM (resS tmps)).run P w = .ok vs w ∧ K vs
  | [], K, h => ⟨[], rfl, h⟩
  | .tmp t :: rs, K, h => by
    obtain ⟨vs, h1, h3⟩ := resL_run (rs := rs) h
    refine ⟨_ :: vs, ?_, h3⟩
    simp only [List.mapM_cons, resS, bind, pure, run_bind, Sem.bind, Sem.run] at h1 ⊢
    rw [h1]
  | .cell a t :: rs, K, h => by
    simp only [resL] at h
    split at h
    · rename_i p hp
      obtain ⟨ad, rfl, h⟩ := nilN_out h
      obtain ⟨v, hv, h⟩ := exV_out h
      obtain ⟨vs, h1, h3⟩ := resL_run (rs := rs) h
      refine ⟨v :: vs, ?_, h3⟩
      simp only [List.mapM_cons, resS, bind, pure, run_bind, Sem.bind, Sem.run, hp, asAddr] at h1 ⊢
      rw [hv]
      simp only [h1]
    · exact h.elim

theorem results_any {P : Program} {tmps : Array Value} {w : World} {vs : List Value} {rs : List ResultVar} (h : (rs.mapM (resS tmps)).run P w = .ok vs w) (F : ResultVar → Sem Value) (hF : ∀ r, F r = resS tmps r) :
    ((rs.mapM F).bind fun vs => Sem.pure (if h : vs.toArray.size = 1 then vs.toArray[0] else .tuple vs.toArray)).run P w = .ok (oneOr vs) w := by
  obtain rfl : F = resS tmps := funext hF
  rw [run_bind, h]
  simp only [Sem.run]
  cases vs with
  | nil => rfl
  | cons v vs =>
    cases vs with
    | nil => rfl
    | cons u us => simp [oneOr]

theorem results_run {P : Program} {fn : Func} {tmps : Array Value} {w : World} {K : Value → Prop} (h : resL P fn.results.toList (fun i => tmps.getD i undef) w fun vs => K (oneOr vs)) :
    ∃ v, (results fn tmps).run P w = .ok v w ∧ K v := by
  obtain ⟨vs, h1, h3⟩ := resL_run h
  refine ⟨oneOr vs, ?_, h3⟩
  unfold results
  rw [Array.mapM_eq_mapM_toList, map_eq_pure_bind, bind_assoc]
  exact results_any h1 _ (fun r => by cases r <;> rfl)

theorem calls_of_cwp {P : Program} {f : FuncId} {fn : Func} {c : Code} {args : List Value} {w : World} {R : Ending → World → Prop} (hm : P.follows .mixedOrders = true)
    (hf : P.funcs[f]? = some fn) (hb : fn.body = some c) (an : List LAnn) (hok : okC fn.ntmps c = true) (hfx : okF an c = true) (hsz' : Nat.ble args.length fn.ntmps = true)
    (h : cwp P an c (fnPost P fn R) (initEnv args) w) : Calls P f args.toArray w R := by
  have hsz := Nat.le_of_ble_eq_true hsz'
  refine calls_of_wp hf hb ?_
  have hg : Good fn.ntmps (fun _ => true) (initEnv args) { tmps := args.toArray ++ Array.replicate (fn.ntmps - args.toArray.size) undef, defers := [] } :=
    ⟨by simp; omega, rfl, fun s hs => by cases hs⟩
  have henv : envOf { tmps := args.toArray ++ Array.replicate (fn.ntmps - args.toArray.size) undef, defers := [] } = initEnv args := by
    funext i
    simp only [envOf, initEnv, Array.getD_eq_getD_getElem?, List.getD_eq_getElem?_getD, Array.getElem?_append]
    split
    · simp
    · rename_i hlt
      simp at hlt
      rw [List.getElem?_eq_none hlt, Array.getElem?_replicate]
      split <;> rfl
  refine wp_mono (cwp_sound hm c an _ (fun _ => true) (initEnv args) _ w hok hfx (fun _ _ => rfl) hg (henv ▸ h)) ?_
  rintro e a' w' ⟨hg', h'⟩
  cases e <;> first | exact h'.elim | skip
  · obtain ⟨v, hv, hk⟩ := results_run (K := fun v => R (.returned v) w') h'
    exact ⟨hg'.defers, v, hv, hk⟩
  · obtain ⟨v, hv, hk⟩ := results_run (K := fun v => R (.returned v) w') h'
    exact ⟨hg'.defers, v, hv, hk⟩

theorem calls_of_vc {P : Program} {f : FuncId} {fn : Func} {c : Code} {args : List Value} {w : World} {R : Ending → World → Prop} {V : Prop} (hm : P.follows .mixedOrders = true)
    (hf : P.funcs[f]? = some fn) (hb : fn.body = some c) (an : List LAnn) (hok : okC fn.ntmps c = true) (hfx : okF an c = true) (hsz : Nat.ble args.length fn.ntmps = true)
    (e : V = cwp P an c (fnPost P fn R) (initEnv args) w) (h : V) : Calls P f args.toArray w R :=
  calls_of_cwp hm hf hb an hok hfx hsz (e ▸ h)

end Cv
