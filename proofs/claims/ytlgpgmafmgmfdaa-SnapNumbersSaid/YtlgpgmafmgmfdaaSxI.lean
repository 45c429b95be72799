/- A symbolic walk, ninth part: holding rows against patterns is so in the world. No condition. -/
import Derived.Test.YtlgpgmafmgmfdaaSxH
set_option linter.unusedSimpArgs false
set_option linter.unusedVariables false
namespace Sx
open Go Go.RowKit Cv

variable {k : Ko} {L : List HP} {w : World}

theorem Rel.out {A : HP} {E : Ev} {s : St} (R : Rel k (A :: L) E s w) : Hp k w (A :: (s.rows.map (rHP E) ++ fz E.F :: L)) := by
  refine R.hp.perm ?_
  have : (fz E.F :: A :: L).Perm (A :: fz E.F :: L) := .swap _ _ _
  exact (this.append_left _).trans List.perm_middle
theorem Rel.inn {A : HP} {E : Ev} {s : St} (hn : E.tab.length = s.nx) (H : Hp k w (A :: (s.rows.map (rHP E) ++ fz E.F :: L))) : Rel k (A :: L) E s w := by
  refine ⟨hn, H.perm ?_⟩
  have : (fz E.F :: A :: L).Perm (A :: fz E.F :: L) := .swap _ _ _
  exact ((this.append_left _).trans List.perm_middle).symm
theorem Rel.impL {A B : HP} {E : Ev} {s : St} (R : Rel k (A :: L) E s w) (h : ∀ x, A x → B x) : Rel k (B :: L) E s w := Rel.inn R.nx (R.out.imp h)

/-- The row goes to the parts that stand by. -/
theorem Rel.take {E : Ev} {s : St} (R : Rel k L E s w) {n : Nat} {o : AObj} (h : s.get n = some o) : Rel k (rHP E (n, o) :: L) E (s.del n) w := Rel.inn R.nx (R.focus h)

def PRow (E : Ev) (π : NM) (n : Nat) (o : AObj) : HP := fun h => ∀ E2 π2, E.le E2 → Ext π π2 → ∀ tl, Loc π2 E2.tab tl → ∃ hd, E2.tab[n]? = some hd ∧ rowHP E2.F o tl hd h
theorem PRow.mono {E E' : Ev} {π π' : NM} (hle : E.le E') (hx : Ext π π') {n : Nat} {o : AObj} {h : PH} (e : PRow E π n o h) : PRow E' π' n o h := fun E2 π2 a b tl c => e E2 π2 (hle.trans a) (hx.trans b) tl c

def isCells : AObj → Bool
  | .cells _ _ => true
  | _ => false

theorem rowHP.tab {F : PH} {o : AObj} (ho : isCells o = false) {tab tab' : List Hd} {hd : Hd} {h : PH} (e : rowHP F o tab hd h) : rowHP F o tab' hd h := by
  cases o <;> first | (cases ho; done) | (simp only [rowHP] at e ⊢; exact e)

theorem prow_of {E : Ev} {π : NM} {n : Nat} {o : AObj} (ho : isCells o = false) (hg : o ≠ .gone) {h : PH} (e : rHP E (n, o) h) : PRow E π n o h := by
  rcases e with ⟨e, _⟩ | ⟨hd, h1, h2⟩
  · exact absurd e hg
  · intro E2 π2 a b tl c
    exact ⟨hd, a.get h1, (h2.mono a.1 _ a.2).tab ho⟩

theorem VRL.map_ren {π : NM} {F : PH} {tl tab : List Hd} (hr : ∀ p n hd, plook p π = some n → tl[p]? = some hd → tab[n]? = some hd) : True := trivial

mutual
theorem VR.ren {π : NM} {F : PH} {tl tab : List Hd} (hr : ∀ p n hd, plook p π = some n → tl[p]? = some hd → tab[n]? = some hd) : ∀ {v : V} {y : Value}, VR ⟨F, tl⟩ v y → VR ⟨F, tab⟩ (renV π v) y
  | .top, y, h => by simp only [renV, VR]
  | .d d, y, h => by simpa only [renV, VR] using h
  | .nm n o, y, h => by
    simp only [renV]
    split
    · rename_i m hm
      simp only [VR] at h ⊢
      obtain ⟨b, oo, l, h1, h2⟩ := h
      exact ⟨b, oo, l, hr _ _ _ hm h1, h2⟩
    · simp only [VR]
  | .el n sz i f, y, h => by
    simp only [renV]
    split
    · rename_i m hm
      simp only [VR] at h ⊢
      obtain ⟨b, oo, mm, c, l, h1, h2⟩ := h
      exact ⟨b, oo, mm, c, l, hr _ _ _ hm h1, h2⟩
    · simp only [VR]
  | .re sz els i f, y, h => by simpa only [renV, VR] using h
  | .own n, y, h => by
    simp only [renV]
    split
    · rename_i m hm
      simp only [VR] at h ⊢
      obtain ⟨l, h1, h2⟩ := h
      exact ⟨l, hr _ _ _ hm h1, h2⟩
    · simp only [VR]
  | .mp n, y, h => by
    simp only [renV]
    split
    · rename_i m hm
      simp only [VR] at h ⊢
      obtain ⟨b, l, h1, h2⟩ := h
      exact ⟨b, l, hr _ _ _ hm h1, h2⟩
    · simp only [VR]
  | .sub n i, y, h => by
    simp only [renV]
    split
    · rename_i m hm
      simp only [VR] at h ⊢
      obtain ⟨hd, l, b, oo, h1, h2⟩ := h
      exact ⟨hd, l, b, oo, hr _ _ _ hm h1, h2⟩
    · simp only [VR]
  | .agg l, y, h => by
    simp only [renV, VR] at h ⊢
    obtain ⟨ys, h1, h2⟩ := h
    exact ⟨ys, h1, VRL.ren hr h2⟩
  | .tup l, y, h => by
    simp only [renV, VR] at h ⊢
    obtain ⟨ys, h1, h2⟩ := h
    exact ⟨ys, h1, VRL.ren hr h2⟩
  | .fn f a b, y, h => by
    simp only [renV, VR] at h ⊢
    obtain ⟨as, bs, h1, h2, h3⟩ := h
    exact ⟨as, bs, h1, VRL.ren hr h2, VRL.ren hr h3⟩
  | .ifc t x, y, h => by
    simp only [renV, VR] at h ⊢
    obtain ⟨z, h1, h2⟩ := h
    exact ⟨z, h1, VR.ren hr h2⟩
theorem VRL.ren {π : NM} {F : PH} {tl tab : List Hd} (hr : ∀ p n hd, plook p π = some n → tl[p]? = some hd → tab[n]? = some hd) : ∀ {vs : List V} {l : List Value}, VRL ⟨F, tl⟩ vs l → VRL ⟨F, tab⟩ (renL π vs) l
  | [], l, h => by simpa only [renL, VRL] using h
  | v :: vs, l, h => by
    simp only [renL, VRL] at h ⊢
    obtain ⟨x, xs, h1, h2, h3⟩ := h
    exact ⟨x, xs, h1, VR.ren hr h2, VRL.ren hr h3⟩
end

theorem rowHP.ren {π : NM} {F : PH} {tl tab : List Hd} (hr : ∀ p n hd, plook p π = some n → tl[p]? = some hd → tab[n]? = some hd) {o : AObj} {hd : Hd} {h : PH} (e : rowHP F o tl hd h) : rowHP F (renO π o) tab hd h := by
  cases o <;> simp only [renO] <;> first | exact e.tab rfl | skip
  simp only [rowHP] at e ⊢
  obtain ⟨b, l, h1, h2, h3⟩ := e
  exact ⟨b, l, h1, h2.ren hr, h3⟩

theorem plook_unf {n nx m j : Nat} (hj : j + 1 < m) : plook (j + 1) (unfNM n nx m) = some (nx + j) := by
  unfold unfNM
  simp only [plook, Nat.beq, cond_false]
  have : ∀ (a c : Nat), a ≤ j → j < a + c → plook (j + 1) ((List.range' a c).map fun j => (j + 1, nx + j)) = some (nx + j) := by
    intro a c
    induction c generalizing a with
    | zero => intro h1 h2; omega
    | succ c ih =>
      intro h1 h2
      simp only [List.range'_succ, List.map_cons, plook]
      cases hb : Nat.beq (a + 1) (j + 1)
      · have hne : a ≠ j := fun e => by subst e; simp at hb
        exact ih (a + 1) (by omega) (by omega)
      · have := Nat.eq_of_beq_eq_true hb
        have e : a = j := by omega
        subst e; rfl
  rw [List.range_eq_range']
  exact this 0 (m - 1) (by omega) (by omega)

theorem plook_unf_inv {n nx m p q : Nat} (h : plook p (unfNM n nx m) = some q) : (p = 0 ∧ q = n) ∨ ∃ j, p = j + 1 ∧ q = nx + j ∧ j + 1 < m := by
  unfold unfNM at h
  simp only [plook] at h
  cases hb : Nat.beq 0 p
  · rw [hb] at h
    right
    simp only [cond_false] at h
    rw [List.range_eq_range'] at h
    have : ∀ (a c : Nat), plook p ((List.range' a c).map fun j => (j + 1, nx + j)) = some q → ∃ j, p = j + 1 ∧ q = nx + j ∧ j < a + c := by
      intro a c
      induction c generalizing a with
      | zero => intro h; simp [plook] at h
      | succ c ih =>
        intro h
        simp only [List.range'_succ, List.map_cons, plook] at h
        cases hb : Nat.beq (a + 1) p
        · rw [hb] at h
          obtain ⟨j, h1, h2, h3⟩ := ih (a + 1) h
          exact ⟨j, h1, h2, by omega⟩
        · rw [hb] at h
          simp only [cond_true, Option.some.injEq] at h
          exact ⟨a, (Nat.eq_of_beq_eq_true hb).symm, h.symm, by omega⟩
    obtain ⟨j, h1, h2, h3⟩ := this 0 (m - 1) h
    exact ⟨j, h1, h2, by omega⟩
  · rw [hb] at h
    left
    simp only [cond_true, Option.some.injEq] at h
    exact ⟨(Nat.eq_of_beq_eq_true hb).symm, h.symm⟩

/-- A folded row is taken apart. -/
theorem Rel.unfold {E : Ev} {s : St} {n m : Nat} {T : Type} {unf : T → Nat → AObj} {x : T} (R : Rel k (rHP E (n, .adt T m unf x) :: L) E s w) (hm : 1 ≤ m) :
    ∃ E', E.le E' ∧ Rel k (rHP E' (n, (unfAt s n m (unf x)).1) :: L) E' (unfAt s n m (unf x)).2 w := by
  have H := R.out
  obtain ⟨hd, tab1, h1, h2, h3, H⟩ : ∃ hd tab1, E.tab[n]? = some hd ∧ tab1[0]? = some hd ∧ tab1.length = m ∧
      Hp k w (hS ((List.range m).map fun j => fun h => ∃ hd', tab1[j]? = some hd' ∧ rowHP E.F (unf x j) tab1 hd' h) :: (s.rows.map (rHP E) ++ fz E.F :: L)) := by
    obtain ⟨hk, hs, hh⟩ := H
    cases hh with
    | cons ha hsub hdj hr =>
      rcases ha with ⟨e, _⟩ | ⟨hd, q1, q2⟩
      · cases e
      · simp only [rowHP] at q2
        obtain ⟨tab1, q3, q4, q5⟩ := q2
        exact ⟨hd, tab1, q1, q3, q4, hk, _, .cons q5 hsub hdj hr⟩
  let E' : Ev := ⟨E.F, E.tab ++ tab1.drop 1⟩
  have hle : E.le E' := ⟨FLe.refl _, List.prefix_append _ _⟩
  have hren : ∀ p q hd', plook p (unfNM n s.nx m) = some q → tab1[p]? = some hd' → E'.tab[q]? = some hd' := by
    intro p q hd' hp ht
    rcases plook_unf_inv hp with ⟨rfl, rfl⟩ | ⟨j, rfl, rfl, hj⟩
    · rw [h2] at ht; cases ht
      exact hle.get h1
    · show (E.tab ++ tab1.drop 1)[s.nx + j]? = some hd'
      rw [← R.nx, List.getElem?_append_right (by omega), List.getElem?_drop]
      rw [show E.tab.length + j - E.tab.length = j by omega, Nat.add_comm]
      exact ht
  have H2 := (hp_star.1 H)
  have hrange : List.range m = 0 :: (List.range (m - 1)).map (· + 1) := by
    have : m = (m - 1) + 1 := by omega
    rw [this, List.range_succ_eq_map]
    simp
  rw [hrange] at H2
  simp only [List.map_cons, List.map_map, List.cons_append] at H2
  refine ⟨E', hle, Rel.inn (by show (E.tab ++ tab1.drop 1).length = s.nx + (m - 1); rw [List.length_append, List.length_drop, R.nx, h3]) ?_⟩
  have hrows : ∀ l : List Nat, (∀ j ∈ l, j + 1 < m) → (unfRows (unf x) (unfNM n s.nx m) s.nx l) = l.map fun j => (s.nx + j, renO (unfNM n s.nx m) (unf x (j + 1))) := by
    intro l
    induction l with
    | nil => intro _; rfl
    | cons j l ih => intro h; simp only [unfRows, List.map_cons]; rw [ih fun j hj => h j (List.mem_cons_of_mem _ hj)]
  have hr2 := hrows (List.range (m - 1)) (fun j hj => by have := List.mem_range.1 hj; omega)
  show Hp k w (rHP E' (n, renO (unfNM n s.nx m) (unf x 0)) :: ((unfRows (unf x) (unfNM n s.nx m) s.nx (List.range (m - 1)) ++ s.rows).map (rHP E') ++ fz E.F :: L))
  rw [hr2, List.map_append, List.map_map, List.append_assoc]
  have H3 : Hp k w ((List.range (m - 1)).map ((fun j => fun h => ∃ hd', tab1[j]? = some hd' ∧ rowHP E.F (unf x j) tab1 hd' h) ∘ (· + 1)) ++ ((fun h => ∃ hd', tab1[0]? = some hd' ∧ rowHP E.F (unf x 0) tab1 hd' h) :: (s.rows.map (rHP E) ++ fz E.F :: L))) := H2.perm List.perm_middle.symm
  have H4 := hp_map (g := (rHP E') ∘ fun j => (s.nx + j, renO (unfNM n s.nx m) (unf x (j + 1)))) (fun j y hy => by
    obtain ⟨hd', e1, e2⟩ := hy
    right
    have hj : j + 1 < m := by
      have := (List.getElem?_eq_some_iff.1 e1).1
      simp only at this; omega
    exact ⟨hd', hren _ _ _ (plook_unf hj) e1, e2.ren hren⟩) H3
  have H5 := H4.perm List.perm_middle
  have H6 := H5.imp (B := rHP E' (n, renO (unfNM n s.nx m) (unf x 0))) (fun y hy => by
    obtain ⟨hd', e1, e2⟩ := hy
    right
    rw [h2] at e1; cases e1
    exact ⟨hd, hle.get h1, e2.ren hren⟩)
  -- the elder rows
  have H7 : Hp k w (s.rows.map (rHP E) ++ (rHP E' (n, renO (unfNM n s.nx m) (unf x 0)) :: ((List.range (m - 1)).map ((rHP E') ∘ fun j => (s.nx + j, renO (unfNM n s.nx m) (unf x (j + 1)))) ++ fz E.F :: L))) := by
    refine H6.perm ?_
    refine List.Perm.trans ?_ List.perm_middle.symm
    refine .cons _ ?_
    rw [← List.append_assoc, ← List.append_assoc]
    exact List.perm_append_comm.append_right _
  have H8 := hp_map (fun r y => rHP.mono hle r) H7
  refine H8.perm ?_
  refine List.perm_middle.trans (.cons _ ?_)
  rw [← List.append_assoc, ← List.append_assoc]
  exact List.perm_append_comm.append_right _

theorem plook_one {n p q : Nat} (h : plook p [(0, n)] = some q) : p = 0 ∧ q = n := by
  simp only [plook] at h
  cases hb : Nat.beq 0 p
  · rw [hb] at h; cases h
  · rw [hb] at h
    simp only [cond_true, Option.some.injEq] at h
    exact ⟨(Nat.eq_of_beq_eq_true hb).symm, h.symm⟩

def MtOok (o' : AObj) : Prop := ∀ {k : Ko} {L : List HP} {w : World} {n : Nat} {o : AObj} {π : NM} {s : St} {K : NM → St → Prop} {E : Ev}, mtO o' n o π s K → Rel k (rHP E (n, o) :: L) E s w → WfM π E.tab → o ≠ .gone →
  ∃ E' π' s', MtOk k (PRow E' π' n o' :: L) w E π E' π' s' ∧ K π' s'

/-- Part j of a folded row, by its own names. -/
def PJ (g : Nat → AObj) (E : Ev) (π : NM) (j : Nat) : HP := fun h => ∃ n, plook j π = some n ∧ PRow E π n (g j) h
theorem PJ.mono {g : Nat → AObj} {E E' : Ev} {π π' : NM} (hle : E.le E') (hx : Ext π π') {j : Nat} {h : PH} (e : PJ g E π j h) : PJ g E' π' j h := by
  obtain ⟨n, h1, h2⟩ := e
  exact ⟨n, hx _ _ h1, h2.mono hle hx⟩

theorem Rel.mapL {α : Type} {f g : α → HP} (h : ∀ a x, f a x → g a x) {l : List α} {E : Ev} {s : St} (R : Rel k (l.map f ++ L) E s w) : Rel k (l.map g ++ L) E s w := by
  refine ⟨R.nx, ?_⟩
  have H : Hp k w (l.map f ++ (s.rows.map (rHP E) ++ fz E.F :: L)) := by
    refine R.hp.perm ?_
    rw [show s.rows.map (rHP E) ++ fz E.F :: (l.map f ++ L) = (s.rows.map (rHP E) ++ [fz E.F]) ++ (l.map f ++ L) by simp, ← List.append_assoc, show l.map f ++ (s.rows.map (rHP E) ++ fz E.F :: L) = (l.map f ++ (s.rows.map (rHP E) ++ [fz E.F])) ++ L by simp]
    exact List.perm_append_comm.append_right _
  have H2 := hp_map h H
  refine H2.perm ?_
  rw [show s.rows.map (rHP E) ++ fz E.F :: (l.map g ++ L) = ((s.rows.map (rHP E) ++ [fz E.F]) ++ l.map g) ++ L by simp, show l.map g ++ (s.rows.map (rHP E) ++ fz E.F :: L) = (l.map g ++ (s.rows.map (rHP E) ++ [fz E.F])) ++ L by simp]
  exact List.perm_append_comm.append_right _

theorem Rel.frontL {E : Ev} {s : St} {A : List HP} (R : Rel k (A ++ L) E s w) : Hp k w (A ++ (s.rows.map (rHP E) ++ fz E.F :: L)) := by
  refine R.hp.perm ?_
  rw [show s.rows.map (rHP E) ++ fz E.F :: (A ++ L) = (s.rows.map (rHP E) ++ [fz E.F]) ++ (A ++ L) by simp, ← List.append_assoc, show A ++ (s.rows.map (rHP E) ++ fz E.F :: L) = (A ++ (s.rows.map (rHP E) ++ [fz E.F])) ++ L by simp]
  exact List.perm_append_comm.append_right _

theorem mtAll_ok {g : Nat → AObj} (hg : ∀ j, MtOok (g j)) {c : Option AObj} : ∀ {js : List Nat} {done : List Nat} {π : NM} {s : St} {K : NM → St → Prop} {E : Ev}, (0 ∉ js) →
    mtAll (fun j π s K => match plook j π with
        | some n' => match (match j with | 0 => c | _ => s.getg n') with
          | some o' => mtO (g j) n' o' π (match j with | 0 => s | _ => s.del n') K
          | none => False
        | none => False) js π s K → Rel k (done.map (PJ g E π) ++ L) E s w → WfM π E.tab →
    ∃ E' π' s', MtOk k ((js.reverse ++ done).map (PJ g E' π') ++ L) w E π E' π' s' ∧ K π' s'
  | [], done, π, s, K, E, h0, h, R, hw => ⟨E, π, s, ⟨Ev.le.refl _, Ext.refl _, hw, by simpa using R⟩, h⟩
  | j :: js, done, π, s, K, E, h0, h, R, hw => by
    simp only [mtAll] at h
    split at h <;> first | exact h.elim | skip
    rename_i n' hn'
    cases j with
    | zero => exact absurd List.mem_cons_self h0
    | succ j =>
      simp only at h
      split at h <;> first | exact h.elim | skip
      rename_i o' ho'
      obtain ⟨ho', hgone⟩ := getg_some ho'
      · have R1 := R.take ho'
        obtain ⟨E1, π1, s1, q1, q2⟩ := hg (j + 1) h R1 hw hgone
        have R2 : Rel k (((j + 1) :: done).map (PJ g E1 π1) ++ L) E1 s1 w := by
          have R3 := q1.rel.impL (B := PJ g E1 π1 (j + 1)) fun x hx => ⟨n', q1.ext _ _ hn', hx⟩
          have R4 : Rel k (done.map (PJ g E π) ++ (PJ g E1 π1 (j + 1) :: L)) E1 s1 w := ⟨R3.nx, R3.hp.perm (by
            refine List.Perm.append_left _ (.cons _ ?_)
            exact List.perm_middle.symm)⟩
          have R5 := R4.mapL (g := PJ g E1 π1) fun a x hx => hx.mono q1.le q1.ext
          exact ⟨R5.nx, R5.hp.perm (by
            refine List.Perm.append_left _ (.cons _ ?_)
            exact List.perm_middle)⟩
        obtain ⟨E2, π2, s2, r1, r2⟩ := mtAll_ok hg (fun hm => h0 (List.mem_cons_of_mem _ hm)) q2 R2 q1.wf
        refine ⟨E2, π2, s2, ⟨q1.le.trans r1.le, q1.ext.trans r1.ext, r1.wf, ?_⟩, r2⟩
        have := r1.rel
        simpa using this

theorem mtO_ok : ∀ o', MtOok o' := by
  intro o'
  induction o' with
  | gone =>
    intro k L w n o π s K E h R hw hg
    simp only [mtO] at h
    -- what is left of the row is dropped
    have H := R.out
    refine ⟨E, π, s, ⟨Ev.le.refl _, Ext.refl _, hw, ?_⟩, h⟩
    obtain ⟨hd, x, q1, _, _⟩ : ∃ hd x, E.tab[n]? = some hd ∧ rowHP E.F o E.tab hd x ∧ Sub x w := by
      obtain ⟨x, hx, hs⟩ := H.sat
      rcases hx with ⟨e, _⟩ | ⟨hd, h1, h2⟩
      · exact absurd e hg
      · exact ⟨hd, x, h1, h2, hs⟩
    refine Rel.inn R.nx (((@hp_pure k w True _).2 ⟨trivial, H.drop⟩).imp fun x hx => ?_)
    intro E2 π2 a b tl c
    exact ⟨hd, a.get q1, by simp only [rowHP]; exact hx.2⟩
  | nilo =>
    intro k L w n o π s K E h R hw hg
    simp only [mtO] at h
    obtain ⟨rfl, h⟩ := h
    exact ⟨E, π, s, ⟨Ev.le.refl _, Ext.refl _, hw, R.impL fun x hx => prow_of rfl (by simp) hx⟩, h⟩
  | fro sz els =>
    intro k L w n o π s K E h R hw hg
    simp only [mtO] at h
    obtain ⟨rfl, h⟩ := h
    exact ⟨E, π, s, ⟨Ev.le.refl _, Ext.refl _, hw, R.impL fun x hx => prow_of rfl (by simp) hx⟩, h⟩
  | objs t T m unf l hole ih =>
    intro k L w n o π s K E h R hw hg
    simp only [mtO] at h
    obtain ⟨rfl, h⟩ := h
    exact ⟨E, π, s, ⟨Ev.le.refl _, Ext.refl _, hw, R.impL fun x hx => prow_of rfl (by simp) hx⟩, h⟩
  | map es =>
    intro k L w n o π s K E h R hw hg
    simp only [mtO] at h
    split at h <;> first | exact h.elim | skip
    obtain ⟨rfl, h⟩ := h
    exact ⟨E, π, s, ⟨Ev.le.refl _, Ext.refl _, hw, R.impL fun x hx => prow_of rfl (by simp) hx⟩, h⟩
  | iter b p =>
    intro k L w n o π s K E h R hw hg
    simp only [mtO] at h
    split at h <;> first | exact h.elim | skip
    obtain ⟨rfl, rfl, h⟩ := h
    exact ⟨E, π, s, ⟨Ev.le.refl _, Ext.refl _, hw, R.impL fun x hx => prow_of rfl (by simp) hx⟩, h⟩
  | own t sz els =>
    intro k L w n o π s K E h R hw hg
    simp only [mtO] at h
    split at h <;> first | exact h.elim | skip
    · obtain ⟨hb, rfl, hk⟩ := bif_out h
      simp only [Bool.and_eq_true] at hb
      have e1 := Nat.eq_of_beq_eq_true hb.1
      have e2 := Nat.eq_of_beq_eq_true hb.2
      subst e1 e2
      exact ⟨E, π, s, ⟨Ev.le.refl _, Ext.refl _, hw, R.impL fun x hx => prow_of rfl (by simp) hx⟩, hk⟩
    · obtain ⟨rfl, h⟩ := h
      refine ⟨E, π, s, ⟨Ev.le.refl _, Ext.refl _, hw, R.impL fun x hx => ?_⟩, h⟩
      rcases hx with ⟨e, _⟩ | ⟨hd, h1, h2⟩
      · cases e
      · intro E2 π2 a b tl c
        simp only [rowHP] at h2
        refine ⟨hd, a.get h1, ?_⟩
        simp only [rowHP]
        exact ⟨none, 0, [], h2.2, by simp [DRL], by simp, .inl ⟨rfl, rfl, rfl, rfl, h2.1⟩⟩
  | cells vs t =>
    intro k L w n o π s K E h R hw hg
    have key : ∀ {E : Ev} {s : St} {vs' : List V} {π : NM}, Rel k (rHP E (n, .cells vs' t) :: L) E s w → WfM π E.tab → mtL vs vs' π s K → ∃ E' π' s', MtOk k (PRow E' π' n (.cells vs t) :: L) w E π E' π' s' ∧ K π' s' := by
      intro E s vs' π R hw h
      have H := R.out
      obtain ⟨b, l, sub, h1, h2, H⟩ : ∃ b l sub, E.tab[n]? = some (.pointer (some ⟨b, 0, none⟩), sub) ∧ VRL E vs' l ∧ Hp k w (pt b (.cells l.toArray t) :: (s.rows.map (rHP E) ++ fz E.F :: L)) := by
        obtain ⟨hk, hs, hh⟩ := H
        cases hh with
        | cons ha hsub hdj hr =>
          rcases ha with ⟨e, _⟩ | ⟨⟨hv, sub⟩, q1, q2⟩
          · cases e
          · simp only [rowHP] at q2
            obtain ⟨b, l, rfl, q3, rfl⟩ := q2
            exact ⟨b, l, sub, q1, q3, hk, _, .cons rfl hsub hdj hr⟩
      have R1 : Rel k (pt b (.cells l.toArray t) :: L) E s w := Rel.inn R.nx H
      obtain ⟨E', π', s', q1, q2, q3⟩ := mtL_ok h R1 hw h2
      refine ⟨E', π', s', ⟨q1.le, q1.ext, q1.wf, q1.rel.impL fun x hx => ?_⟩, q3⟩
      intro E2 π2 a b' tl c
      refine ⟨_, a.get (q1.le.get h1), ?_⟩
      simp only [rowHP]
      exact ⟨b, l, rfl, q2 E2 π2 a b' tl c, hx⟩
    simp only [mtO] at h
    split at h <;> first | exact h.elim | skip
    · obtain ⟨hb, hk⟩ := bif_out h
      have e := Nat.eq_of_beq_eq_true hb
      subst e
      exact key R hw hk
    · rename_i T m unf x
      obtain ⟨hb, h⟩ := bif_out h
      obtain ⟨E1, q1, q2⟩ := R.unfold (Nat.le_of_ble_eq_true hb)
      revert q2 h
      generalize unfAt s n m (unf x) = u
      obtain ⟨u1, u2⟩ := u
      intro h q2
      simp only at h q2
      split at h <;> first | exact h.elim | skip
      rename_i vs' t' s' heq
      cases heq
      obtain ⟨hb, hk⟩ := bif_out h
      have e := Nat.eq_of_beq_eq_true hb
      subst e
      obtain ⟨E', π', s2, r1, r2⟩ := key q2 (hw.mono q1) hk
      exact ⟨E', π', s2, ⟨q1.trans r1.le, r1.ext, r1.wf, r1.rel⟩, r2⟩
  | adt T m unf x ih =>
    intro k L w n o π s K E h R hw hg
    unfold mtO at h
    split at h
    · rename_i vs t
      obtain ⟨hb, h⟩ := bif_out h
      have hm := Nat.le_of_ble_eq_true hb
      have hrange : List.range m = 0 :: (List.range (m - 1)).map (· + 1) := by
        have : m = (m - 1) + 1 := by omega
        rw [this, List.range_succ_eq_map]
        simp
      obtain ⟨hd, hd1⟩ : ∃ hd, E.tab[n]? = some hd := by
        obtain ⟨x, hx, _⟩ := R.out.sat
        rcases hx with ⟨e, _⟩ | ⟨hd, h1, _⟩
        · cases e
        · exact ⟨hd, h1⟩
      have hw0 : WfM [(0, n)] E.tab := fun p q e => by
        obtain ⟨_, rfl⟩ := plook_one e
        exact ⟨hd, hd1⟩
      rw [hrange] at h
      simp only [mtAll] at h
      have hpl : plook 0 [(0, n)] = some n := rfl
      rw [hpl] at h
      simp only at h
      obtain ⟨E1, π1, s1, q1, q2⟩ := ih x 0 h R hw0 (by simp)
      have R2 : Rel k ([0].map (PJ (unf x) E1 π1) ++ L) E1 s1 w := q1.rel.impL fun y hy => ⟨n, q1.ext _ _ hpl, hy⟩
      obtain ⟨E2, π2, s2, r1, r2⟩ := mtAll_ok (fun j => ih x j) (c := some (AObj.cells vs t)) (by simp) q2 R2 q1.wf
      have hle := q1.le.trans r1.le
      obtain ⟨hlt, r2⟩ := bif_out r2
      refine ⟨E2, π, s2, ⟨hle, Ext.refl _, hw.mono hle, ?_⟩, r2⟩
      have H := r1.rel.frontL
      have H2 : Hp k w ((List.range m).map (PJ (unf x) E2 π2) ++ (s2.rows.map (rHP E2) ++ fz E2.F :: L)) := by
        refine H.perm (List.Perm.append_right _ (List.Perm.map _ ?_))
        rw [hrange]
        refine (List.reverse_perm _).append_right _ |>.trans ?_
        exact List.perm_append_comm
      refine Rel.inn r1.rel.nx ((hp_star.2 H2).imp fun y hy => ?_)
      intro E3 π3 a b tl c
      -- the local names
      have hall : ∀ j, j < m → ∃ n, plook j π2 = some n := by
        intro j hj
        have hs : ∀ {l : List HP} {y : PH}, hS l y → ∀ A ∈ l, ∃ z, A z := by
          intro l
          induction l with
          | nil => intro y _ A hA; cases hA
          | cons B l ih =>
            intro y hy A hA
            cases l with
            | nil => rcases List.mem_singleton.1 hA with rfl; exact ⟨y, hy⟩
            | cons C l =>
              obtain ⟨g, g', h1, h2, _, _⟩ := hy
              rcases List.mem_cons.1 hA with rfl | hA
              · exact ⟨g, h1⟩
              · exact ih h2 A hA
        obtain ⟨z, n, hz, _⟩ := hs hy (PJ (unf x) E2 π2 j) (List.mem_map.2 ⟨j, List.mem_range.2 hj, rfl⟩)
        exact ⟨n, hz⟩
      let tab1 : List Hd := (List.range m).map fun j => (E3.tab[(plook j π2).getD 0]?).getD (undef, [])
      have htab : ∀ j n, j < m → plook j π2 = some n → ∃ hd, E3.tab[n]? = some hd ∧ tab1[j]? = some hd := by
        intro j n hj hn
        obtain ⟨hd, h'⟩ := r1.wf j n hn
        refine ⟨hd, a.get h', ?_⟩
        show ((List.range m).map _)[j]? = _
        rw [List.getElem?_map, List.getElem?_range hj]
        simp only [Option.map_some, hn, Option.getD_some, a.get h']
      have hloc : Loc π2 E3.tab tab1 := fun p q e => htab p q (namesLt_ok hlt p q e) e
      refine ⟨hd, a.get (hle.get hd1), ?_⟩
      simp only [rowHP]
      refine ⟨tab1, ?_, by simp [tab1], ?_⟩
      · have h0 : plook 0 π2 = some n := r1.ext _ _ (q1.ext _ _ hpl)
        obtain ⟨hd', e1, e2⟩ := htab 0 n (by omega) h0
        rw [a.get (hle.get hd1)] at e1; cases e1
        exact e2
      · refine hS_imp ?_ hy
        rintro j z ⟨nj, hj, hz⟩
        obtain ⟨hd', e1, e2⟩ := hz E3 π2 a (Ext.refl _) tab1 hloc
        obtain ⟨hd2, e3, e4⟩ := hloc j nj hj
        rw [e1] at e3; cases e3
        exact ⟨hd', e4, e2⟩
    · obtain ⟨rfl, h⟩ := h
      exact ⟨E, π, s, ⟨Ev.le.refl _, Ext.refl _, hw, R.impL fun x hx => prow_of rfl (by simp) hx⟩, h⟩

end Sx
