/- The machine of one's own, fourth part: operations that look at no memory. No condition. -/
import Derived.Test.YtlgpgmafmgmfdaaCvN
set_option linter.unusedSimpArgs false
set_option linter.unusedVariables false
namespace Cv
open Go Go.RowKit

theorem isPtrT_some {P : Program} {t : TypeId} (h : isPtrT P t = true) : ∃ e, P.underlying t = some (.pointer e) := by
  unfold isPtrT at h; split at h
  · exact ⟨_, by assumption⟩
  · cases h
theorem isSlT_some {P : Program} {t : TypeId} (h : isSlT P t = true) : ∃ e, P.underlying t = some (.slice e) := by
  unfold isSlT at h; split at h
  · exact ⟨_, by assumption⟩
  · cases h
theorem isMapT_some {P : Program} {t : TypeId} (h : isMapT P t = true) : ∃ k e, P.underlying t = some (.map k e) := by
  unfold isMapT at h; split at h
  · exact ⟨_, _, by assumption⟩
  · cases h
theorem isStrT_some {P : Program} {t : TypeId} (h : isStrT P t = true) : P.underlying t = some .string := by
  unfold isStrT at h; split at h
  · assumption
  · cases h
theorem isBoolT_some {P : Program} {t : TypeId} (h : isBoolT P t = true) : P.underlying t = some .bool := by
  unfold isBoolT at h; split at h
  · assumption
  · cases h

theorem run_eq_bool {P : Program} {t : TypeId} (h : isBoolT P t = true) (a b : Bool) (w : World) : (Op.equal t (.bool a) (.bool b)).run P w = .ok (a == b) w := by
  rw [equal_succ]
  generalize 9999 = d
  unfold Op.equalIn
  simp only [bind, pure, run_bind, run_underlying (isBoolT_some h)]
  rfl

theorem run_eq_ptr1 {P : Program} {t : TypeId} (h : isPtrT P t = true) (p : Option Addr) (w : World) : (Op.equal t (.pointer p) (.pointer none)).run P w = .ok p.isNone w := by
  obtain ⟨e, he⟩ := isPtrT_some h
  exact run_nilEq_ptr (by simp [nilEq, he]) w

theorem run_eq_ptr2 {P : Program} {t : TypeId} (h : isPtrT P t = true) (p : Option Addr) (w : World) : (Op.equal t (.pointer none) (.pointer p)).run P w = .ok p.isNone w := by
  obtain ⟨e, he⟩ := isPtrT_some h
  rw [equal_succ]
  generalize 9999 = d
  unfold Op.equalIn
  simp only [bind, pure, run_bind, run_underlying he]
  rfl

theorem run_bin_eq {P : Program} {t : TypeId} {x y : Operand} {a b : Value} {r : Bool} {w : World} (hg : ∀ op, (eqGuard op t x y a b).run P w = .ok () w) (h : (Op.equal t a b).run P w = .ok r w)
    (ha : match a with | .int _ _ => False | .float _ _ => False | .complex _ _ _ => False | .string _ => False | _ => True) :
    ((do eqGuard .eql t x y a b; binOp .eql t a b : Sem Value)).run P w = .ok (.bool r) w ∧ ((do eqGuard .neq t x y a b; binOp .neq t a b : Sem Value)).run P w = .ok (.bool !r) w := by
  constructor
  · simp only [bind, run_bind, hg]
    cases a <;> first | exact ha.elim | (simp only [binOp, bind, run_bind, h]; rfl)
  · simp only [bind, run_bind, hg]
    cases a <;> first | exact ha.elim | (simp only [binOp, bind, run_bind, h]; rfl)

theorem abin_sound {P : Program} {φ : Phi} {op : BinOp} {t : TypeId} {x y : Operand} {a b v : V} (h : abin P op t x y a b = some v) (w : World) :
    ((do eqGuard op t x y (cv φ a) (cv φ b); binOp op t (cv φ a) (cv φ b) : Sem Value)).run P w = .ok (cv φ v) w := by
  unfold abin at h
  split at h
  · split at h <;> first | (cases h; done) | skip
    exact aint_sound h w
  · split at h <;> first | (cases h; done) | skip
    rename_i a _ b
    obtain ⟨hb, h⟩ : isBoolT P t = true ∧ _ := by
      cases hb : isBoolT P t
      · rw [hb] at h; cases h
      · rw [hb] at h; exact ⟨rfl, h⟩
    have hh := run_bin_eq (P := P) (t := t) (x := x) (y := y) (a := .bool a) (b := .bool b) (w := w) (fun op => by cases op <;> rfl) (run_eq_bool hb a b w) trivial
    simp only [cond_true] at h
    split at h <;> first | (cases h; done) | skip
    · simp only [Option.some.injEq] at h; subst h
      simp only [cv]
      rw [hh.1]
      cases a <;> cases b <;> rfl
    · simp only [Option.some.injEq] at h; subst h
      simp only [cv]
      rw [hh.2]
      cases a <;> cases b <;> rfl
  · split at h <;> first | (cases h; done) | skip
    rename_i a _ b
    split at h <;> first | (cases h; done) | skip
    · cases hl : Nat.blt (a.length + b.length) 1000000000
      · rw [hl] at h; cases h
      rw [hl] at h
      simp only [cond_true, Option.some.injEq] at h
      subst h
      have hl' : a.length + b.length < 1000000000 := by simpa [Nat.blt_eq] using hl
      have hno : ¬ ((((bs a).size + (bs b).size : Nat) : Int) > IntKind.i64.max) := by
        rw [bs_size, bs_size]
        have : IntKind.i64.max = 9223372036854775807 := by rfl
        rw [this]
        omega
      simp only [cv, eqGuard, binOp, Op.stringOp, if_neg hno, bind, pure, Sem.bind, Sem.run, bs_append]
      rfl
    · simp only [Option.some.injEq] at h; subst h
      simp only [cv, eqGuard, binOp, Op.stringOp, bind, pure, Sem.bind, Sem.run, bs_toList, ← beqs_eq]
      rfl
    · simp only [Option.some.injEq] at h; subst h
      simp only [cv, eqGuard, binOp, Op.stringOp, bind, pure, Sem.bind, Sem.run, bs_toList, ← beqs_eq]
      rfl
    · simp only [Option.some.injEq] at h; subst h
      simp only [cv, eqGuard, binOp, Op.stringOp, bind, pure, Sem.bind, Sem.run, bs_toList, ← blts_eq]
      rfl
  · split at h <;> first | (cases h; done) | skip
    rename_i a _ b
    cases hb : isPtrT P t && (a.isNone || b.isNone)
    · rw [hb] at h; cases h
    rw [hb] at h
    simp only [Bool.and_eq_true, Bool.or_eq_true] at hb
    simp only [cond_true] at h
    have hh : ∀ (A B : Option Addr), (A = none ∨ B = none) → ((do eqGuard .eql t x y (.pointer A) (.pointer B); binOp .eql t (.pointer A) (.pointer B) : Sem Value)).run P w = .ok (.bool (A.isNone && B.isNone)) w ∧ ((do eqGuard .neq t x y (.pointer A) (.pointer B); binOp .neq t (.pointer A) (.pointer B) : Sem Value)).run P w = .ok (.bool !(A.isNone && B.isNone)) w := by
      intro A B hAB
      refine run_bin_eq (fun op => by cases op <;> rfl) ?_ trivial
      rcases hAB with rfl | rfl
      · rw [run_eq_ptr2 hb.1]; simp
      · rw [run_eq_ptr1 hb.1]; simp
    have hcv : ∀ c : Option (Nat × Nat), ∃ C : Option Addr, cv φ (.ptr c) = .pointer C ∧ C.isNone = c.isNone := by
      intro c
      rcases c with _ | ⟨c, o⟩
      · exact ⟨none, rfl, rfl⟩
      · exact ⟨some _, rfl, rfl⟩
    obtain ⟨A, hA, hA'⟩ := hcv a
    obtain ⟨B, hB, hB'⟩ := hcv b
    have := hh A B (by
      rcases hb.2 with h | h
      · left; rw [← hA'] at h; simpa using h
      · right; rw [← hB'] at h; simpa using h)
    rw [hA, hB]
    split at h <;> first | (cases h; done) | skip
    · simp only [Option.some.injEq] at h; subst h
      rw [this.1, hA', hB']; rfl
    · simp only [Option.some.injEq] at h; subst h
      rw [this.2, hA', hB']; rfl
  · split at h <;> first | (cases h; done) | skip
    rename_i a n c _ m d
    cases hb : isSlT P t
    · rw [hb] at h; cases h
    rw [hb] at h
    simp only [cond_true] at h
    obtain ⟨e, he⟩ := isSlT_some hb
    obtain ⟨A, N, C, hA, hA'⟩ : ∃ (A : Option Addr) (N C : Nat), cv φ (.sl a n c) = .slice A N C ∧ A.isNone = a.isNone := by
      rcases a with _ | ⟨b, o⟩
      · exact ⟨none, _, _, rfl, rfl⟩
      · exact ⟨some _, _, _, rfl, rfl⟩
    obtain ⟨N', C', hB⟩ : ∃ N' C', cv φ (.sl none m d) = .slice none N' C' := ⟨_, _, rfl⟩
    rw [hA, hB]
    have := run_bin_eq (P := P) (t := t) (x := x) (y := y) (a := .slice A N C) (b := .slice none N' C') (r := A.isNone) (w := w) (fun op => by cases op <;> rfl) (run_nilEq_slice (by simp [nilEq, he]) w) trivial
    split at h <;> first | (cases h; done) | skip
    · simp only [Option.some.injEq] at h; subst h
      rw [this.1, hA']; rfl
    · simp only [Option.some.injEq] at h; subst h
      rw [this.2, hA']; rfl
  · split at h <;> first | (cases h; done) | skip
    rename_i a _
    cases hb : isMapT P t
    · rw [hb] at h; cases h
    rw [hb] at h
    simp only [cond_true] at h
    obtain ⟨k, e, he⟩ := isMapT_some hb
    obtain ⟨A, hA, hA'⟩ : ∃ (A : Option Nat), cv φ (.map a) = .map A ∧ A.isNone = a.isNone := by
      rcases a with _ | b
      · exact ⟨none, rfl, rfl⟩
      · exact ⟨some _, rfl, rfl⟩
    rw [hA]
    have := run_bin_eq (P := P) (t := t) (x := x) (y := y) (a := .map A) (b := .map none) (r := A.isNone) (w := w) (fun op => by cases op <;> rfl) (run_nilEq_map (by simp [nilEq, he]) w) trivial
    split at h <;> first | (cases h; done) | skip
    · simp only [Option.some.injEq] at h; subst h
      simp only [cv] at this ⊢
      rw [this.1, hA']
    · simp only [Option.some.injEq] at h; subst h
      simp only [cv] at this ⊢
      rw [this.2, hA']
  · split at h <;> first | (cases h; done) | skip
    rename_i a _ b
    cases hb : plainL a && plainL b
    · rw [hb] at h; cases h
    rw [hb] at h
    simp only [Bool.and_eq_true] at hb
    simp only [cond_true] at h
    simp only [cv, plainL_sound (φ := φ) hb.1, plainL_sound (φ := φ) hb.2]
    split at h <;> first | (cases h; done) | skip
    · split at h <;> first | (cases h; done) | skip
      rename_i r h1 h2
      simp only [Option.some.injEq] at h; subst h
      simp only [bind, run_bind, (eqGuard_any (P := P) (op := .eql) (t := t) (x := x) (y := y) (x' := .tmp 0) (y' := .tmp 0) (by simp) w).trans (freeRun_run h2 w)]
      simp only [binOp, bind, run_bind, freeRun_run h1 w]
      rfl
    · split at h <;> first | (cases h; done) | skip
      rename_i r h1 h2
      simp only [Option.some.injEq] at h; subst h
      simp only [bind, run_bind, (eqGuard_any (P := P) (op := .neq) (t := t) (x := x) (y := y) (x' := .tmp 0) (y' := .tmp 0) (by simp) w).trans (freeRun_run h2 w)]
      simp only [binOp, bind, run_bind, freeRun_run h1 w]
      rfl
  · cases h

end Cv
