/- A symbolic walk, fifth part: what turns memory: new rows, stores, append. No condition. -/
import Derived.Test.YtlgpgmafmgmfdaaSxD
set_option linter.unusedSimpArgs false
set_option linter.unusedVariables false
namespace Sx
open Go Go.RowKit Cv

variable {P : Program} {k : Ko} {L : List HP} {E : Ev} {s : St} {w : World}

theorem hs_map {α : Type _} {w : World} {f g : α → HP} (h : ∀ a x, f a x → g a x) : ∀ {l : List α} {M : List HP} {hs : List PH}, Hs w (l.map f ++ M) hs → Hs w (l.map g ++ M) hs
  | [], M, hs, H => H
  | a :: l, M, hs, H => by
    simp only [List.map_cons, List.cons_append] at H ⊢
    cases H with
    | cons ha hsub hd hr => exact .cons (h _ _ ha) hsub hd (hs_map h hr)

theorem hp_map {α : Type _} {f g : α → HP} (h : ∀ a x, f a x → g a x) {l : List α} {M : List HP} (H : Hp k w (l.map f ++ M)) : Hp k w (l.map g ++ M) :=
  ⟨H.1, let ⟨hs, hh⟩ := H.2; ⟨hs, hs_map h hh⟩⟩

/-- Two parts as one: the first one's place is told. -/
theorem hp_join {A : HP} {F : PH} {M : List HP} (H : Hp k w (A :: fz F :: M)) : ∃ x, A x ∧ Dj x F ∧ Sub x w ∧ Hp k w (fz (un x F) :: M) := by
  obtain ⟨hk, hs, hh⟩ := H
  cases hh with
  | cons ha hsub hd hr =>
    cases hr with
    | cons hf hfs hfd hr =>
      simp only [fz] at hf
      subst hf
      refine ⟨_, ha, hd _ List.mem_cons_self, hsub, hk, _, .cons rfl (sub_un hsub hfs) (fun g hg => dj_un_l (hd g (List.mem_cons_of_mem _ hg)) (hfd g hg)) hr⟩

theorem fle_un {x F : PH} (d : Dj x F) : FLe F (un x F) := fun b o e => by
  rcases d b with h | h
  · simp [un, h, e]
  · rw [e] at h; cases h

/-- The same rows, in a greater environment. -/
theorem Rel.grow {E' : Ev} (hle : E.le E') {rows : List (Nat × AObj)} {nx : Nat} (hn : E'.tab.length = nx) (H : Hp k w (rows.map (rHP E) ++ fz E'.F :: L)) : Rel k L E' ⟨rows, nx⟩ w :=
  ⟨hn, hp_map (fun r x => rHP.mono hle r) H⟩

theorem Rel.new (R : Rel k L E s w) {o : AObj} {O : Obj} {hd : Hd} (h : rowHP E.F o (E.tab ++ [hd]) hd (one w.heap.size O)) : E.le ⟨E.F, E.tab ++ [hd]⟩ ∧ Rel k L ⟨E.F, E.tab ++ [hd]⟩ (s.new o) (w.alloc O) ∧ (E.tab ++ [hd])[s.nx]? = some hd := by
  have hle : E.le ⟨E.F, E.tab ++ [hd]⟩ := ⟨FLe.refl _, List.prefix_append _ _⟩
  have hget : (E.tab ++ [hd])[s.nx]? = some hd := by rw [← R.nx]; simp
  refine ⟨hle, ⟨by simp [St.new, R.nx], ?_⟩, hget⟩
  have H := R.hp.new O
  have H1 : Hp k (w.alloc O) (s.rows.map (rHP E) ++ (pt w.heap.size O :: fz E.F :: L)) := H.perm (List.perm_middle (l₁ := s.rows.map (rHP E))).symm
  have H2 := hp_map (fun r x => rHP.mono hle r) H1
  have H3 : Hp k (w.alloc O) (pt w.heap.size O :: (s.rows.map (rHP ⟨E.F, E.tab ++ [hd]⟩) ++ fz E.F :: L)) := H2.perm List.perm_middle
  exact H3.imp fun x hx => .inr ⟨hd, hget, by rw [show x = one w.heap.size O from hx]; exact h⟩

/-! ### Freezing -/
theorem Rel.freeze (R : Rel k L E s w) {n t sz : Nat} {els : List (List D)} (h : s.get n = some (.own t sz els)) : ∃ E', E.le E' ∧ E'.tab = E.tab ∧ Rel k L E' (s.set n (.fro sz els)) w := by
  have H : Hp k w (rHP E (n, .own t sz els) :: fz E.F :: ((rdel n s.rows).map (rHP E) ++ L)) := (R.focus h).cons List.perm_middle
  obtain ⟨x, hx, hd, hsub, H⟩ := hp_join H
  rcases hx with ⟨e, _⟩ | ⟨hv, h1, h2⟩
  · cases e
  simp only [rowHP] at h2
  obtain ⟨a, c, xs, h3, h4, h5, h6⟩ := h2
  have hle : E.le ⟨un x E.F, E.tab⟩ := ⟨fle_un hd, List.prefix_refl _⟩
  refine ⟨⟨un x E.F, E.tab⟩, hle, rfl, ?_⟩
  have H1 : Hp k w ((rdel n s.rows).map (rHP E) ++ fz (un x E.F) :: L) := H.perm List.perm_middle.symm
  have H2 := hp_map (fun r x => rHP.mono hle r) H1
  have H3 : Hp k w (rHP ⟨un x E.F, E.tab⟩ (n, .fro sz els) :: ((rdel n s.rows).map (rHP ⟨un x E.F, E.tab⟩) ++ fz (un x E.F) :: L)) := by
    have := (@hp_pure k w True _).2 ⟨trivial, H2⟩
    refine this.imp fun y hy => .inr ⟨hv, h1, ?_⟩
    simp only [rowHP]
    refine ⟨hy.2, ?_⟩
    simp only [DR]
    refine ⟨a, c, h3, (slO_len h6).2, h5, ?_⟩
    rcases h6 with ⟨rfl, q2, rfl, rfl, rfl⟩ | ⟨b, r, rfl, rfl, q3, q4, q5⟩
    · exact .inl (List.eq_nil_of_length_eq_zero q2)
    · refine .inr ⟨b, 0, xs ++ r, t, (0, 0), rfl, ?_, DRS_iff.2 ⟨xs, r, rfl, h4.mono hle.1⟩⟩
      simp [un, one]
  refine ⟨by simpa [St.set] using R.nx, H3.perm ?_⟩
  have := (((rget_perm h).2 (.fro sz els)).map (rHP ⟨un x E.F, E.tab⟩)).append_right (fz (un x E.F) :: L)
  simpa [St.set] using this.symm

/-- The cells of a value, as data; slices of one's own among them are looked at alone from now on. -/
def frzV (s : St) : V → Option (D × St)
  | .d d => some (d, s)
  | .own n => match s.get n with
    | some (.own _ sz els) => some (.ro sz els, s.set n (.fro sz els))
    | some (.fro sz els) => some (.ro sz els, s)
    | _ => none
  | _ => none

def frzL (s : St) : List V → Option (List D × St)
  | [] => some ([], s)
  | v :: l => match frzV s v with
    | some (d, s') => match frzL s' l with
      | some (ds, s2) => some (d :: ds, s2)
      | none => none
    | none => none

theorem frzV_ok (R : Rel k L E s w) {v : V} {d : D} {s' : St} (h : frzV s v = some (d, s')) {y : Value} (hv : VR E v y) : ∃ E', E.le E' ∧ E'.tab = E.tab ∧ Rel k L E' s' w ∧ s'.nx = s.nx ∧ DR E'.F d y := by
  unfold frzV at h
  split at h <;> first | (cases h; done) | skip
  · cases h
    exact ⟨E, Ev.le.refl _, rfl, R, rfl, by simpa only [VR] using hv⟩
  · rename_i n
    simp only [VR] at hv
    obtain ⟨sub, h1, _⟩ := hv
    split at h <;> first | (cases h; done) | skip
    · rename_i t sz els hg
      cases h
      obtain ⟨E', q1, q2, q3⟩ := R.freeze hg
      refine ⟨E', q1, q2, q3, rfl, ?_⟩
      have hg' : (s.set n (.fro sz els)).get n = some (.fro sz els) := by
        simp only [St.get, St.set]
        have : ∀ l : List (Nat × AObj), rget n l ≠ none → rget n (rset n (.fro sz els) l) = some (.fro sz els) := by
          intro l
          induction l with
          | nil => intro h; exact absurd rfl h
          | cons p l ih =>
            obtain ⟨m, o⟩ := p
            intro h
            simp only [rget, rset] at h ⊢
            cases hb : Nat.beq m n
            · rw [hb] at h; simp only [rget, hb, cond_false] at h ⊢; exact ih h
            · simp only [rget, hb, cond_true]
        exact this _ (by simp only [St.get] at hg; rw [hg]; simp)
      obtain ⟨hd, x, e1, e2, e3⟩ := q3.row hg' (by simp)
      rw [q2, h1] at e1; cases e1
      simp only [rowHP] at e2
      exact e2.2
    · rename_i sz els hg
      cases h
      obtain ⟨hd, x, e1, e2, e3⟩ := R.row hg (by simp)
      rw [h1] at e1; cases e1
      simp only [rowHP] at e2
      exact ⟨E, Ev.le.refl _, rfl, R, rfl, e2.2⟩

theorem frzL_ok : ∀ {vs : List V} {s : St} {E : Ev} (R : Rel k L E s w) {ds : List D} {s' : St} (h : frzL s vs = some (ds, s')) {ys : List Value} (hv : VRL E vs ys),
    ∃ E', E.le E' ∧ E'.tab = E.tab ∧ Rel k L E' s' w ∧ s'.nx = s.nx ∧ DRL E'.F ds ys
  | [], s, E, R, ds, s', h, ys, hv => by
    simp only [frzL, Option.some.injEq, Prod.mk.injEq] at h
    obtain ⟨rfl, rfl⟩ := h
    simp only [VRL] at hv
    exact ⟨E, Ev.le.refl _, rfl, R, rfl, by simpa only [DRL] using hv⟩
  | v :: vs, s, E, R, ds, s', h, ys, hv => by
    simp only [frzL] at h
    simp only [VRL] at hv
    obtain ⟨y, ys, rfl, h1, h2⟩ := hv
    split at h <;> first | (cases h; done) | skip
    rename_i d s1 hd
    split at h <;> first | (cases h; done) | skip
    rename_i ds s2 hds
    cases h
    obtain ⟨E1, q1, q2, q3, q4, q5⟩ := frzV_ok R hd h1
    obtain ⟨E2, r1, r2, r3, r4, r5⟩ := frzL_ok q3 hds (h2.mono q1)
    exact ⟨E2, q1.trans r1, r2.trans q2, r3, r4.trans q4, by simp only [DRL]; exact ⟨_, _, rfl, q5.mono r1.1, r5⟩⟩

/-! ### Slices that are none, among the cells of an element -/
def isNilS : D → Bool
  | .v (.slice none 0 0) => true
  | _ => false

def normD (P : Program) : List TypeId → List D → List D
  | t :: ts, d :: ds => (match slElem P t with
    | some sz => bif isNilS d then .ro sz [] else d
    | none => d) :: normD P ts ds
  | _, ds => ds

theorem normD_ok {F : PH} : ∀ {ts : List TypeId} {ds : List D} {ys : List Value}, DRL F ds ys → DRL F (normD P ts ds) ys
  | [], ds, ys, h => by unfold normD; exact h
  | t :: ts, [], ys, h => by unfold normD; exact h
  | t :: ts, d :: ds, ys, h => by
    unfold normD
    simp only [DRL] at h ⊢
    obtain ⟨x, xs, rfl, h1, h2⟩ := h
    refine ⟨x, xs, rfl, ?_, normD_ok h2⟩
    split
    · cases hb : isNilS d
      · exact h1
      · unfold isNilS at hb
        split at hb
        · simp only [DR] at h1
          obtain ⟨rfl, _⟩ := h1
          simp only [cond_true, DR]
          exact ⟨none, 0, rfl, Nat.le_refl _, by simp, .inl trivial⟩
        · cases hb
    · exact h1

theorem normD_len : ∀ (ts : List TypeId) (ds : List D), (normD P ts ds).length = ds.length
  | [], ds => by unfold normD; rfl
  | t :: ts, [] => by unfold normD; rfl
  | t :: ts, d :: ds => by unfold normD; simp [normD_len ts ds]

/-- The cells of a value that goes into an element of the type. -/
def elD (P : Program) (s : St) (t : TypeId) (v : V) : Option (List D × St) :=
  bif notTop v then (match frzL s v.cl with
    | some (ds, s') => some (normD P (cellTys P 6 t) ds, s')
    | none => none) else none

theorem cond_some' {α : Type _} {b : Bool} {x : Option α} {v : α} (h : (bif b then x else none) = some v) : b = true ∧ x = some v := by
  cases b
  · cases h
  · exact ⟨rfl, h⟩

theorem elD_ok (R : Rel k L E s w) {t : TypeId} {v : V} {ds : List D} {s' : St} (h : elD P s t v = some (ds, s')) {y : Value} (hv : VR E v y) :
    ∃ E' ys, E.le E' ∧ E'.tab = E.tab ∧ Rel k L E' s' w ∧ s'.nx = s.nx ∧ y.cells = ys.toArray ∧ DRL E'.F ds ys := by
  unfold elD at h
  obtain ⟨hb, h⟩ := cond_some' h
  split at h <;> first | (cases h; done) | skip
  rename_i ds0 s0 hf
  cases h
  obtain ⟨l, hl, hvl⟩ := VR.cells hb hv
  obtain ⟨E', q1, q2, q3, q4, q5⟩ := frzL_ok R hf hvl
  exact ⟨E', l, q1, q2, q3, q4, hl, normD_ok q5⟩

end Sx
