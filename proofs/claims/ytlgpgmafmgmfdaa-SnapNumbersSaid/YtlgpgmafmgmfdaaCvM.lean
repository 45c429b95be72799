/- The machine of one's own, second part: what it says of one operation is so in the world. No condition. -/
import Derived.Test.YtlgpgmafmgmfdaaCvL
set_option linter.unusedSimpArgs false
set_option linter.unusedVariables false
namespace Cv
open Go Go.RowKit

/-! ### Finite maps -/

theorem pthF_inj : ∀ (f a b : Nat), pthF f a = pthF f b → a = b
  | 0, a, b, h => by simpa [pthF] using congrArg List.length h
  | f + 1, a, b, h => by
    simp only [pthF] at h
    cases ha : Nat.beq a 0 <;> cases hb : Nat.beq b 0 <;> rw [ha, hb] at h <;> simp only [cond_true, cond_false] at h
    · simp only [List.cons.injEq] at h
      have h2 := pthF_inj f _ _ h.2
      have h1 := h.1
      rcases Nat.mod_two_eq_zero_or_one a with e | e <;> rcases Nat.mod_two_eq_zero_or_one b with e' | e' <;> rw [e, e'] at h1 <;>
        first | omega | exact absurd h1 (by decide)
    · cases h
    · cases h
    · rw [Nat.eq_of_beq_eq_true ha, Nat.eq_of_beq_eq_true hb]

theorem pth_inj {a b : Nat} (h : pth a = pth b) : a = b := pthF_inj 40 a b h

theorem Tr.get_e {α : Type} (p : List Bool) : Tr.get p (.e : Tr α) = none := by cases p <;> rfl

theorem Tr.get_set_same {α : Type} (x : Option α) : ∀ (p : List Bool) (t : Tr α), Tr.get p (Tr.set x p t) = x
  | [], .e => rfl
  | [], .n _ _ _ => rfl
  | b :: p, .e => by cases b <;> simp [Tr.set, Tr.get, get_set_same x p .e]
  | b :: p, .n v l r => by cases b <;> simp [Tr.set, Tr.get, get_set_same x p l, get_set_same x p r]

theorem Tr.get_set_ne {α : Type} (x : Option α) : ∀ (p q : List Bool) (t : Tr α), p ≠ q → Tr.get q (Tr.set x p t) = Tr.get q t
  | [], [], _, h => absurd rfl h
  | [], b :: q, .e, _ => by cases b <;> simp [Tr.set, Tr.get, Tr.get_e]
  | [], b :: q, .n _ _ _, _ => rfl
  | b :: p, [], .e, _ => by cases b <;> rfl
  | b :: p, [], .n _ _ _, _ => by cases b <;> rfl
  | b :: p, c :: q, .e, h => by
    cases b <;> cases c <;> simp only [Tr.set, Tr.get, cond_true, cond_false, Tr.get_e]
    · rw [get_set_ne x p q .e (fun e => h (by rw [e])), Tr.get_e]
    · rw [get_set_ne x p q .e (fun e => h (by rw [e])), Tr.get_e]
  | b :: p, c :: q, .n v l r, h => by
    cases b <;> cases c <;> simp only [Tr.set, Tr.get, cond_true, cond_false]
    · exact get_set_ne x p q r (fun e => h (by rw [e]))
    · exact get_set_ne x p q l (fun e => h (by rw [e]))

theorem St.get_set_same (s : St) (b : Nat) (o : AObj) : (s.set b o).get b = some o := Tr.get_set_same _ _ _
theorem St.get_set_ne (s : St) {b c : Nat} (o : AObj) (h : b ≠ c) : (s.set b o).get c = s.get c := Tr.get_set_ne _ _ _ _ (fun e => h (pth_inj e))
theorem St.get_del_same (s : St) (b : Nat) : (s.del b).get b = none := Tr.get_set_same _ _ _
theorem St.get_del_ne (s : St) {b c : Nat} (h : b ≠ c) : (s.del b).get c = s.get c := Tr.get_set_ne _ _ _ _ (fun e => h (pth_inj e))
theorem St.get_new_same (s : St) (o : AObj) : (s.new o).get s.nx = some o := Tr.get_set_same _ _ _
theorem St.get_new_ne (s : St) {c : Nat} (o : AObj) (h : s.nx ≠ c) : (s.new o).get c = s.get c := Tr.get_set_ne _ _ _ _ (fun e => h (pth_inj e))

/-! ### What is the same here and there -/

theorem cvl_eq (φ : Phi) : ∀ l : List V, cvl φ l = l.map (cv φ)
  | [] => rfl
  | v :: l => by simp only [cvl, List.map_cons, cvl_eq φ l]

def cme (φ : Phi) (e : V × V × Nat) : MapEntry := { key := cv φ e.1, val := cv φ e.2.1, born := e.2.2 }

/-- What lies in the world where a row has its name. -/
def coT (φ : Phi) (b : Nat) : AObj → Obj → Prop
  | .cells xs t none, O => O = .cells (cvl φ xs).toArray t
  | .cells xs t (some sz), O => ∃ r, O = .cells (cvl φ xs ++ r).toArray t ∧ xs.length + r.length = (φ b).2 * sz
  | .map es ck, O => O = .map (es.map (cme φ)).toArray ck
  | .iter l pos, O => O = .stringIter (bs l) pos

structure Rel (φ : Phi) (s : St) (w : World) : Prop where
  obj : ∀ b o, s.get b = some o → ∃ O, w.heap[(φ b).1]? = some O ∧ coT φ b o O
  inj : ∀ b c, s.get b ≠ none → s.get c ≠ none → (φ b).1 = (φ c).1 → b = c
  lt : ∀ b, s.get b ≠ none → b < s.nx

def ER (φ : Phi) (ρA : Tr V) (ρ : Env) : Prop := ∀ t v, Tr.get (pth t) ρA = some v → ρ t = cv φ v

def Agr (n : Nat) (φ ψ : Phi) : Prop := ∀ b, b < n → ψ b = φ b

theorem Agr.refl (n : Nat) (φ : Phi) : Agr n φ φ := fun _ _ => rfl
theorem Agr.trans {n m : Nat} {φ ψ χ : Phi} (h : Agr n φ ψ) (h' : Agr m ψ χ) (hn : n ≤ m) : Agr n φ χ := fun b hb => (h' b (Nat.lt_of_lt_of_le hb hn)).trans (h b hb)
theorem Agr.symm {n : Nat} {φ ψ : Phi} (h : Agr n φ ψ) : Agr n ψ φ := fun b hb => (h b hb).symm
theorem Agr.mono {n m : Nat} {φ ψ : Phi} (h : Agr m φ ψ) (hn : n ≤ m) : Agr n φ ψ := fun b hb => h b (Nat.lt_of_lt_of_le hb hn)

theorem ER.put {φ : Phi} {ρA : Tr V} {ρ : Env} (h : ER φ ρA ρ) (d : Option Nat) (v : V) : ER φ (aput ρA d v) (put ρ d (cv φ v)) := by
  cases d with
  | none => exact h
  | some d =>
    intro t u hu
    simp only [aput] at hu
    simp only [Cv.put]
    by_cases ht : t = d
    · subst ht
      rw [Tr.get_set_same] at hu
      cases hu
      rw [Nat.beq_refl]; rfl
    · rw [Tr.get_set_ne _ _ _ _ (fun e => ht (pth_inj e).symm)] at hu
      have hb : Nat.beq t d = false := by
        cases hb : Nat.beq t d with
        | false => rfl
        | true => exact absurd (Nat.eq_of_beq_eq_true hb) ht
      rw [hb]
      exact h t u hu

theorem bs_toNat (s : ByteArray) : bs (s.data.toList.map UInt8.toNat) = s := by
  unfold bs
  rw [List.map_map]
  have : (Nat.toUInt8 ∘ UInt8.toNat) = id := by
    funext x
    simp [Nat.toUInt8]
  rw [this]
  simp

theorem vOf1_sound {φ : Phi} {x : Value} {v : V} (h : vOf1 x = some v) : cv φ v = x := by
  unfold vOf1 at h
  split at h <;> first | (cases h; done) | (simp only [Option.some.injEq] at h; subst h)
  all_goals simp only [cv]
  rw [bs_toNat]

theorem allS_vOf1 {φ : Phi} : ∀ {xs : List Value} {l : List V}, allS (xs.map vOf1) = some l → cvl φ l = xs
  | [], l, h => by
    simp only [List.map_nil, allS, Option.some.injEq] at h
    subst h; rfl
  | x :: xs, l, h => by
    simp only [List.map_cons] at h
    cases hx : vOf1 x with
    | none => rw [hx] at h; simp [allS] at h
    | some v =>
      rw [hx] at h
      simp only [allS] at h
      cases hr : allS (xs.map vOf1) with
      | none => rw [hr] at h; cases h
      | some r =>
        rw [hr] at h
        simp only [Option.some.injEq] at h
        subst h
        simp only [cvl, vOf1_sound hx, allS_vOf1 hr]

theorem vOf_sound {φ : Phi} {x : Value} {v : V} (h : vOf x = some v) : cv φ v = x := by
  unfold vOf at h
  split at h
  · split at h
    · rename_i cs l hl
      simp only [Option.some.injEq] at h
      subst h
      simp only [cv, allS_vOf1 hl, Array.toArray_toList]
    · cases h
  · split at h
    · rename_i cs l hl
      simp only [Option.some.injEq] at h
      subst h
      simp only [cv, allS_vOf1 hl, Array.toArray_toList]
    · cases h
  · exact vOf1_sound h

theorem oget_sound {φ : Phi} {ρA : Tr V} {ρ : Env} (E : ER φ ρA ρ) {x : Operand} {v : V} (h : oget ρA x = some v) : ev ρ x = cv φ v := by
  cases x with
  | tmp t => exact E t v h
  | const c => exact (vOf_sound h).symm
  | global g => cases h
  | func f =>
    simp only [oget, Option.some.injEq] at h
    subst h
    simp only [ev, cv, cvl]

theorem ogets_sound {φ : Phi} {ρA : Tr V} {ρ : Env} (E : ER φ ρA ρ) : ∀ {xs : List Operand} {l : List V}, ogets ρA xs = some l → xs.map (ev ρ) = cvl φ l
  | [], l, h => by
    simp only [ogets, Option.some.injEq] at h
    subst h; rfl
  | x :: xs, l, h => by
    simp only [ogets] at h
    split at h <;> first | (cases h; done) | skip
    rename_i v hv
    split at h <;> first | (cases h; done) | skip
    rename_i r hr
    simp only [Option.some.injEq] at h
    subst h
    simp only [List.map_cons, cvl, oget_sound E hv, ogets_sound E hr]

theorem oparts_sound {φ : Phi} {ρA : Tr V} {ρ : Env} (E : ER φ ρA ρ) : ∀ {xs : List (Nat × Operand)} {l : List (Nat × V)}, oparts ρA xs = some l →
    xs.map (fun p => (p.1, ev ρ p.2)) = l.map fun p => (p.1, cv φ p.2)
  | [], l, h => by
    simp only [oparts, Option.some.injEq] at h
    subst h; rfl
  | (i, x) :: xs, l, h => by
    simp only [oparts] at h
    split at h <;> first | (cases h; done) | skip
    rename_i v hv
    split at h <;> first | (cases h; done) | skip
    rename_i r hr
    simp only [Option.some.injEq] at h
    subst h
    simp only [List.map_cons, oget_sound E hv, oparts_sound E hr]

theorem cells_cv (φ : Phi) (v : V) : (cv φ v).cells = (cvl φ v.cells).toArray := by
  cases v <;> try rfl
  case ptr a => rcases a with _ | ⟨b, o⟩ <;> rfl
  case sl a n c => rcases a with _ | ⟨b, o⟩ <;> rfl
  case map r => cases r <;> rfl

theorem one_cv (φ : Phi) (v : V) : (cv φ v).oneC = v.one := by
  cases v <;> try rfl
  case ptr a => rcases a with _ | ⟨b, o⟩ <;> rfl
  case sl a n c => rcases a with _ | ⟨b, o⟩ <;> rfl
  case map r => cases r <;> rfl

theorem cvl_length (φ : Phi) (l : List V) : (cvl φ l).length = l.length := by rw [cvl_eq, List.length_map]
theorem cvl_append (φ : Phi) (l m : List V) : cvl φ (l ++ m) = cvl φ l ++ cvl φ m := by simp only [cvl_eq, List.map_append]
theorem cvl_take (φ : Phi) (n : Nat) (l : List V) : cvl φ (l.take n) = (cvl φ l).take n := by simp only [cvl_eq, List.map_take]
theorem cvl_drop (φ : Phi) (n : Nat) (l : List V) : cvl φ (l.drop n) = (cvl φ l).drop n := by simp only [cvl_eq, List.map_drop]
theorem cvl_get (φ : Phi) (l : List V) (i : Nat) : (cvl φ l)[i]? = l[i]?.map (cv φ) := by simp only [cvl_eq, List.getElem?_map]

theorem onesL_sound (φ : Phi) : ∀ {l : List V}, onesL l = true → ∀ v ∈ cvl φ l, v.oneC = true
  | [], _, v, hv => by cases hv
  | u :: l, h, v, hv => by
    simp only [onesL, Bool.and_eq_true] at h
    simp only [cvl, List.mem_cons] at hv
    rcases hv with rfl | hv
    · rw [one_cv]; exact h.1
    · exact onesL_sound φ h.2 v hv

/-! ### Filling in parts -/

theorem fold_spl {off : Nat} : ∀ (vs : List Value) (k : Nat) (l : List Value), off + k + vs.length ≤ l.length →
    List.foldl (fun (cs : Array Value) (p : Value × Nat) => cs.setIfInBounds (off + p.2) p.1) l.toArray (vs.zipIdx k) = (spl l (off + k) vs).toArray
  | [], k, l, _ => by simp [spl]
  | v :: vs, k, l, h => by
    simp only [List.length_cons] at h
    simp only [List.zipIdx_cons, List.foldl_cons, List.setIfInBounds_toArray]
    rw [fold_spl vs (k + 1) (l.set (off + k) v) (by rw [List.length_set]; omega), show off + (k + 1) = off + k + 1 by omega, spl_set (by omega)]

theorem fill_sound {φ : Phi} {place : Nat → Option (Nat × Nat)} : ∀ {ps : List (Nat × V)} {cs r : List V}, afill place ps cs = some r →
    Instr.fill place (cvl φ cs).toArray (ps.map fun p => (p.1, cv φ p.2)) = some (cvl φ r).toArray
  | [], cs, r, h => by
    simp only [afill, Option.some.injEq] at h
    subst h; rfl
  | (i, v) :: ps, cs, r, h => by
    simp only [afill] at h
    split at h <;> first | (cases h; done) | skip
    rename_i off size hp
    cases hc : Nat.beq v.cells.length size && Nat.ble (off + size) cs.length
    · rw [hc] at h; cases h
    rw [hc] at h
    simp only [cond_true] at h
    simp only [Bool.and_eq_true] at hc
    have h1 := Nat.eq_of_beq_eq_true hc.1
    have h2 := Nat.le_of_ble_eq_true hc.2
    have hsz : (cv φ v).cells.size = size := by rw [cells_cv, List.size_toArray, cvl_length, h1]
    have hno : ¬ ((cv φ v).cells.size ≠ size ∨ off + (cv φ v).cells.size > (cvl φ cs).toArray.size) := by
      rw [hsz, List.size_toArray, cvl_length]
      omega
    have hb : (decide ((cv φ v).cells.size ≠ size) || decide (off + (cv φ v).cells.size > (cvl φ cs).toArray.size)) = false := by
      rw [hsz, List.size_toArray, cvl_length]
      simp; omega
    have ih := fill_sound (φ := φ) h
    simp only [List.map_cons, Instr.fill, hp]
    have hfold : (cv φ v).cells.zipIdx.foldl (fun (cs : Array Value) (p : Value × Nat) => cs.setIfInBounds (off + p.2) p.1) (cvl φ cs).toArray = (cvl φ (cs.take off ++ (v.cells ++ cs.drop (off + size)))).toArray := by
      have hz : (cvl φ v.cells).toArray.zipIdx = ((cvl φ v.cells).zipIdx).toArray := by
        apply Array.ext'
        simp
      rw [cells_cv, hz, List.foldl_toArray]
      rw [fold_spl (off := off) (cvl φ v.cells) 0 (cvl φ cs) (by simp only [cvl_length]; omega)]
      simp only [spl, Nat.add_zero, cvl_append, cvl_take, cvl_drop, cvl_length, h1, List.append_assoc]
    rw [if_neg (by rw [hb]; simp), hfold]
    exact ih

end Cv
