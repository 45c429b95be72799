/- A symbolic walk, twelfth part: code, loops. No condition. -/
import Derived.Test.YtlgpgmafmgmfdaaSxK
import Derived.LoopN
set_option linter.unusedSimpArgs false
set_option linter.unusedVariables false
namespace Sx
open Go Go.RowKit Cv

variable {P : Program} {k : Ko} {L : List HP}

/-- What is told of a loop: slots and rows, by an index, by names of the pattern's own. Other rows that are kept stay as they are. -/
structure SAnn where
  ι : Type
  slots : ι → List (Nat × V)
  rows : ι → List AObj
  keep : Nat → Bool := fun _ => true
  un : Nat := 0
  slots0 : ι → List (Nat × V) := fun _ => []
  rows0 : ι → List AObj := fun _ => []

/-- A join's entry: the slots that are looked at there. -/
def SAnn.ent (x : SAnn) : SAnn := { x with slots := x.slots0, rows := x.rows0 }

def lmC : Code → Nat
  | .region i _ _ => i
  | .seq a _ => lmC a
  | .block _ a => lmC a
  | .loop a => lmC a
  | .cond _ a _ => lmC a
  | _ => 0
/-- The name of a piece of code, where a join may stand behind it. -/
def keyC : Code → Nat
  | .region i _ _ => 4 * i
  | .cond c a b => 4 * lmC (.cond c a b) + 1
  | .seq a b => 4 * lmC a + 2
  | .block id _ => 4 * id + 3
  | _ => 0
def jlook (n : Nat) : List (Nat × SAnn) → Option SAnn
  | [] => none
  | (m, x) :: l => bif Nat.beq m n then some x else jlook n l

def slook (t : Nat) : List (Nat × V) → Option V
  | [] => none
  | (u, v) :: l => bif Nat.beq u t then some v else slook t l

def slotsV (ρ : SEnv) : List (Nat × V) → List V
  | [] => []
  | (t, _) :: l => ρ t :: slotsV ρ l
def patsV : List (Nat × V) → List V
  | [] => []
  | (_, v) :: l => v :: patsV l

def shNM (N : Nat) (m : Nat) : NM := (List.range m).map fun p => (p, N + p)

def isOwn : AObj → Bool
  | .own _ _ _ => true
  | .nilo => true
  | .fro _ _ => true
  | _ => false

/-- Rows that keep their place keep their names. -/
def stabNM (π : NM) : Nat → List AObj → NM
  | _, [] => []
  | p, o :: os => bif isOwn o then stabNM π (p + 1) os else match plook p π with
    | some n => (p, n) :: stabNM π (p + 1) os
    | none => stabNM π (p + 1) os

def renNM (N : Nat) (π : NM) : Nat → List AObj → NM
  | _, [] => []
  | p, o :: os => bif isOwn o then (p, N + p) :: renNM N π (p + 1) os else match plook p π with
    | some n => (p, n) :: renNM N π (p + 1) os
    | none => renNM N π (p + 1) os

/-- Rows by their own names, or by new ones. -/
def renS (N : Nat) (st : NM) : Nat → NM
  | 0 => []
  | p + 1 => (p, (plook p st).getD (N + p)) :: renS N st p

theorem renS_inv {N : Nat} {st : NM} {p q : Nat} : ∀ {m : Nat}, plook p (renS N st m) = some q → q = N + p ∨ plook p st = some q
  | 0, h => by cases h
  | m + 1, h => by
    simp only [renS, plook] at h
    cases hb : Nat.beq m p
    · rw [hb] at h; exact renS_inv h
    · rw [hb] at h
      have := Nat.eq_of_beq_eq_true hb
      subst this
      simp only [cond_true, Option.some.injEq] at h
      cases hs : plook m st with
      | none => rw [hs] at h; exact .inl h.symm
      | some n => rw [hs] at h; exact .inr (by rw [← h]; rfl)

theorem stab_inv {π : NM} {p q : Nat} : ∀ {os : List AObj} {p0 : Nat}, plook p (stabNM π p0 os) = some q → plook p π = some q
  | [], p0, h => by cases h
  | o :: os, p0, h => by
    simp only [stabNM] at h
    cases ho : isOwn o <;> rw [ho] at h
    · simp only [cond_false] at h
      split at h
      · rename_i n hn
        simp only [plook] at h
        cases hb : Nat.beq p0 p
        · rw [hb] at h; exact stab_inv h
        · rw [hb] at h
          cases h
          rw [← Nat.eq_of_beq_eq_true hb]; exact hn
      · exact stab_inv h
    · exact stab_inv h

theorem ren_inv {N : Nat} {π : NM} {p q : Nat} : ∀ {os : List AObj} {p0 : Nat}, plook p (renNM N π p0 os) = some q → q = N + p ∨ plook p (stabNM π p0 os) = some q
  | [], p0, h => by cases h
  | o :: os, p0, h => by
    simp only [renNM, stabNM] at h ⊢
    cases ho : isOwn o <;> rw [ho] at h
    · simp only [cond_false] at h ⊢
      split at h
      · rename_i n hn
        simp only [plook] at h ⊢
        cases hb : Nat.beq p0 p
        · rw [hb] at h; exact ren_inv h
        · rw [hb] at h; exact .inr h
      · exact ren_inv h
    · simp only [cond_true, plook] at h ⊢
      cases hb : Nat.beq p0 p
      · rw [hb] at h; exact ren_inv h
      · rw [hb] at h
        cases h
        left
        rw [Nat.eq_of_beq_eq_true hb]

def loopEnv (ren : NM) (slots : List (Nat × V)) (as : List Nat) (ρ : SEnv) : SEnv := fun t =>
  match slook t slots with
  | some v => renV ren v
  | none => bif memN t as then .top else ρ t

mutual
def lowV (N : Nat) : V → Bool
  | .nm n _ => Nat.blt n N
  | .el n _ _ _ => Nat.blt n N
  | .own n => Nat.blt n N
  | .mp n => Nat.blt n N
  | .sub n _ => Nat.blt n N
  | .agg l => lowL N l
  | .tup l => lowL N l
  | .fn _ a b => lowL N a && lowL N b
  | .ifc _ x => lowV N x
  | _ => true
def lowL (N : Nat) : List V → Bool
  | [] => true
  | v :: l => lowV N v && lowL N l
end

def lowO (N : Nat) : AObj → Bool
  | .cells vs _ => lowL N vs
  | _ => true

def lowRows (N : Nat) : List (Nat × AObj) → Bool
  | [] => true
  | (n, o) :: l => Nat.blt n N && lowO N o && lowRows N l

def keptRows (keep : Nat → Bool) : List (Nat × AObj) → List (Nat × AObj)
  | [] => []
  | (n, o) :: l => bif keep n then (n, o) :: keptRows keep l else keptRows keep l

/-- The kept rows are still there, as they were. -/
def keptK : List (Nat × AObj) → St → Prop
  | [], _ => True
  | [(n, o)], s => match s.getg n with
    | some o' => o' = o
    | none => False
  | (n, o) :: l, s => match s.getg n with
    | some o' => o' = o ∧ keptK l (s.del n)
    | none => False

def loopSt (N : Nat) (ren : NM) (rows : List AObj) (kept : List (Nat × AObj)) : St := ⟨postRows ren 0 rows ++ kept, N + rows.length⟩

def thenS (next : SEnv → St → Prop) (Q : Exit → SEnv → St → Prop) : Exit → SEnv → St → Prop
  | .normal, ρ, s => next ρ s
  | e, ρ, s => Q e ρ s

def blockS (id : Nat) (Q : Exit → SEnv → St → Prop) : Exit → SEnv → St → Prop
  | .exit id', ρ, s => bif Nat.beq id' id then Q .normal ρ s else Q (.exit id') ρ s
  | e, ρ, s => Q e ρ s

/-- The loop's pattern is met. -/
def meets (x : SAnn) (i : x.ι) (π0 : NM) (ρ : SEnv) (s : St) (K : NM → St → Prop) : Prop :=
  mtL (patsV (x.slots i)) (slotsV ρ (x.slots i)) π0 s fun π s => mtR 0 (x.rows i) π s fun π s => bif namesLt (x.rows i).length π then K π s else False

/-- Round by round, so often at most. -/
def sroll (f : (Exit → SEnv → St → Prop) → SEnv → St → Prop) (Q : Exit → SEnv → St → Prop) : Nat → SEnv → St → Prop
  | 0, _, _ => False
  | n + 1, ρ, s => f (thenS (sroll f Q n) Q) ρ s

def scode (P : Program) (H : Hnd) (J : List (Nat × SAnn)) : List SAnn → Code → (Exit → SEnv → St → Prop) → SEnv → St → Prop
  | _, .skip, Q, ρ, s => Q .normal ρ s
  | an, .seq a b, Q, ρ, s => match jlook (keyC a) J with
    | none => scode P H J (an.take (nL a)) a (thenS (fun ρ s => scode P H J (an.drop (nL a)) b Q ρ s) Q) ρ s
    | some x => ∃ i0, meets x.ent i0 [] ρ s fun π s1 => ∃ (I : x.ι → Prop), (bif lowRows s1.nx (keptRows x.keep s1.rows) then
        scode P H J (an.take (nL a)) a (thenS (fun ρ' s' => ∃ i', meets x i' (stabNM π 0 (x.rows0 i0)) ρ' s' fun _ s2 => I i' ∧ keptK (keptRows x.keep s1.rows) s2) Q)
          (loopEnv (renS s1.nx (stabNM π 0 (x.rows0 i0)) (x.rows0 i0).length) (x.slots0 i0) [] ρ) (loopSt s1.nx (renS s1.nx (stabNM π 0 (x.rows0 i0)) (x.rows0 i0).length) (x.rows0 i0) (keptRows x.keep s1.rows)) ∧
        ∀ i, I i → scode P H J (an.drop (nL a)) b Q (loopEnv (renS s1.nx (stabNM π 0 (x.rows0 i0)) (x.rows i).length) (x.slots i) (asg a) ρ) (loopSt s1.nx (renS s1.nx (stabNM π 0 (x.rows0 i0)) (x.rows i).length) (x.rows i) (keptRows x.keep s1.rows)) else False)
  | an, .cond c a b, Q, ρ, s =>
    match sev ρ c with
    | .d (.v (.bool t)) => cnd t (scode P H J (an.take (nL a)) a Q ρ s) (scode P H J (an.drop (nL a)) b Q ρ s)
    | _ => False
  | an, .block id a, Q, ρ, s => scode P H J an a (blockS id Q) ρ s
  | an, .loop a, Q, ρ, s =>
    match an with
    | [] => False
    | x :: rest => bif Nat.blt 0 x.un then sroll (fun Q ρ s => scode P H J rest a Q ρ s) Q x.un ρ s else ∃ i0, meets x i0 [] ρ s fun π s1 => ∃ (I : x.ι → Prop) (μ : x.ι → Nat), I i0 ∧ (bif lowRows s1.nx (keptRows x.keep s1.rows) then
        ∀ i, I i → scode P H J rest a (thenS (fun ρ' s' => ∃ i', meets x i' (stabNM π 0 (x.rows i0)) ρ' s' fun _ s2 => I i' ∧ μ i' < μ i ∧ keptK (keptRows x.keep s1.rows) s2) Q)
          (loopEnv (renNM s1.nx π 0 (x.rows i0)) (x.slots i) (asg a) ρ) (loopSt s1.nx (renNM s1.nx π 0 (x.rows i0)) (x.rows i) (keptRows x.keep s1.rows)) else False)
  | _, .exit id, Q, ρ, s => Q (.exit id) ρ s
  | _, .ret, Q, ρ, s => Q .ret ρ s
  | _, .region _ ops d, Q, ρ, s => bif d then drawS P H ops.toList (befL ops.toList []) ops.toList.length (Array.replicate ops.toList.length false) [] ρ s (Q .normal)
      else copsS P H ops.toList ops.toList ρ s (Q .normal)
  | _, _, _, _, _ => False

def liftS (k : Ko) (L : List HP) (n : Nat) (A : Nat → Bool) (e0 : Env) (E0 : Ev) (Q : Exit → SEnv → St → Prop) : Exit → Act → World → Prop := fun e a w =>
  Good n A e0 a ∧ ∃ E ρS s, E0.le E ∧ Rel k L E s w ∧ EnvR E ρS (envOf a) ∧ Q e ρS s

mutual
theorem VR.low {F : PH} {tab tab' : List Hd} {N : Nat} (h : ∀ n, n < N → ∀ hd, tab[n]? = some hd → tab'[n]? = some hd) : ∀ {v : V} {y : Value}, lowV N v = true → VR ⟨F, tab⟩ v y → VR ⟨F, tab'⟩ v y
  | .top, y, hl, e => by simp only [VR]
  | .d d, y, hl, e => by simpa only [VR] using e
  | .nm n o, y, hl, e => by
    simp only [lowV, Nat.blt_eq] at hl
    simp only [VR] at e ⊢
    obtain ⟨b, oo, l, h1, h2⟩ := e
    exact ⟨b, oo, l, h n hl _ h1, h2⟩
  | .el n sz i f, y, hl, e => by
    simp only [lowV, Nat.blt_eq] at hl
    simp only [VR] at e ⊢
    obtain ⟨b, oo, m, c, l, h1, h2⟩ := e
    exact ⟨b, oo, m, c, l, h n hl _ h1, h2⟩
  | .re sz els i f, y, hl, e => by simpa only [VR] using e
  | .own n, y, hl, e => by
    simp only [lowV, Nat.blt_eq] at hl
    simp only [VR] at e ⊢
    obtain ⟨l, h1, h2⟩ := e
    exact ⟨l, h n hl _ h1, h2⟩
  | .mp n, y, hl, e => by
    simp only [lowV, Nat.blt_eq] at hl
    simp only [VR] at e ⊢
    obtain ⟨b, l, h1, h2⟩ := e
    exact ⟨b, l, h n hl _ h1, h2⟩
  | .sub n i, y, hl, e => by
    simp only [lowV, Nat.blt_eq] at hl
    simp only [VR] at e ⊢
    obtain ⟨hd, l, b, oo, h1, h2⟩ := e
    exact ⟨hd, l, b, oo, h n hl _ h1, h2⟩
  | .agg l, y, hl, e => by
    simp only [lowV] at hl
    simp only [VR] at e ⊢
    obtain ⟨ys, h1, h2⟩ := e
    exact ⟨ys, h1, VRL.low h hl h2⟩
  | .tup l, y, hl, e => by
    simp only [lowV] at hl
    simp only [VR] at e ⊢
    obtain ⟨ys, h1, h2⟩ := e
    exact ⟨ys, h1, VRL.low h hl h2⟩
  | .fn f a b, y, hl, e => by
    simp only [lowV, Bool.and_eq_true] at hl
    simp only [VR] at e ⊢
    obtain ⟨as, bs, h1, h2, h3⟩ := e
    exact ⟨as, bs, h1, VRL.low h hl.1 h2, VRL.low h hl.2 h3⟩
  | .ifc t x, y, hl, e => by
    simp only [lowV] at hl
    simp only [VR] at e ⊢
    obtain ⟨z, h1, h2⟩ := e
    exact ⟨z, h1, VR.low h hl h2⟩
theorem VRL.low {F : PH} {tab tab' : List Hd} {N : Nat} (h : ∀ n, n < N → ∀ hd, tab[n]? = some hd → tab'[n]? = some hd) : ∀ {vs : List V} {l : List Value}, lowL N vs = true → VRL ⟨F, tab⟩ vs l → VRL ⟨F, tab'⟩ vs l
  | [], l, hl, e => by simpa only [VRL] using e
  | v :: vs, l, hl, e => by
    simp only [lowL, Bool.and_eq_true] at hl
    simp only [VRL] at e ⊢
    obtain ⟨x, xs, h1, h2, h3⟩ := e
    exact ⟨x, xs, h1, VR.low h hl.1 h2, VRL.low h hl.2 h3⟩
end

theorem rowHP.low {F : PH} {tab tab' : List Hd} {N : Nat} (h : ∀ n, n < N → ∀ hd, tab[n]? = some hd → tab'[n]? = some hd) {o : AObj} (hl : lowO N o = true) {hd : Hd} {x : PH} (e : rowHP F o tab hd x) : rowHP F o tab' hd x := by
  cases o <;> first | exact e.tab rfl | skip
  simp only [rowHP] at e ⊢
  obtain ⟨b, l, h1, h2, h3⟩ := e
  exact ⟨b, l, h1, h2.low h hl, h3⟩

theorem plook_sh {N m p : Nat} (h : p < m) : plook p (shNM N m) = some (N + p) := by
  unfold shNM
  have : ∀ (a c : Nat), a ≤ p → p < a + c → plook p ((List.range' a c).map fun p => (p, N + p)) = some (N + p) := by
    intro a c
    induction c generalizing a with
    | zero => intro h1 h2; omega
    | succ c ih =>
      intro h1 h2
      simp only [List.range'_succ, List.map_cons, plook]
      cases hb : Nat.beq a p
      · have hne : a ≠ p := fun e => by subst e; simp at hb
        exact ih (a + 1) (by omega) (by omega)
      · have := Nat.eq_of_beq_eq_true hb
        subst this; rfl
  rw [List.range_eq_range']
  exact this 0 m (by omega) (by omega)

theorem plook_sh_inv {N m p q : Nat} (h : plook p (shNM N m) = some q) : p < m ∧ q = N + p := by
  unfold shNM at h
  have : ∀ (a c : Nat), plook p ((List.range' a c).map fun p => (p, N + p)) = some q → p < a + c ∧ q = N + p := by
    intro a c
    induction c generalizing a with
    | zero => intro h; simp [plook] at h
    | succ c ih =>
      intro h
      simp only [List.range'_succ, List.map_cons, plook] at h
      cases hb : Nat.beq a p
      · rw [hb] at h
        obtain ⟨h1, h2⟩ := ih (a + 1) h
        exact ⟨by omega, h2⟩
      · rw [hb] at h
        have := Nat.eq_of_beq_eq_true hb
        subst this
        simp only [cond_true, Option.some.injEq] at h
        exact ⟨by omega, h.symm⟩
  rw [List.range_eq_range'] at h
  have := this 0 m h
  exact ⟨by omega, this.2⟩

theorem slotsV_ok {E : Ev} {ρS : SEnv} {ρ : Env} (he : EnvR E ρS ρ) : ∀ l : List (Nat × V), VRL E (slotsV ρS l) (l.map fun p => ρ p.1)
  | [] => by simp [slotsV, VRL]
  | (t, v) :: l => by simp only [slotsV, List.map_cons, VRL]; exact ⟨_, _, rfl, he t, slotsV_ok he l⟩

theorem slook_ok {F : PH} {tl : List Hd} {ρ : Env} : ∀ {l : List (Nat × V)}, VRL ⟨F, tl⟩ (patsV l) (l.map fun p => ρ p.1) → ∀ {t : Nat} {v : V}, slook t l = some v → VR ⟨F, tl⟩ v (ρ t)
  | [], _, t, v, h => by cases h
  | (u, x) :: l, hv, t, v, h => by
    simp only [patsV, List.map_cons, VRL] at hv
    obtain ⟨y, ys, e, h1, h2⟩ := hv
    cases e
    simp only [slook] at h
    cases hb : Nat.beq u t
    · rw [hb] at h; exact slook_ok h2 h
    · rw [hb] at h
      cases h
      rw [← Nat.eq_of_beq_eq_true hb]; exact h1

/-- Kept rows of a state, told by the elder names alone. -/
theorem kept_hp {w : World} {E3 E4 : Ev} (hF : E3.F = E4.F) {N : Nat} (hlow : ∀ n, n < N → ∀ hd, E3.tab[n]? = some hd → E4.tab[n]? = some hd) : ∀ {kept : List (Nat × AObj)} {s : St} {M : List HP}, keptK kept s → lowRows N kept = true →
    Hp k w (s.rows.map (rHP E3) ++ M) → Hp k w (kept.map (rHP E4) ++ M)
  | [], s, M, _, _, H => by
    have : ∀ (l : List (Nat × AObj)), Hp k w (l.map (rHP E3) ++ M) → Hp k w M := by
      intro l
      induction l with
      | nil => intro H; exact H
      | cons a l ih => intro H; exact ih H.drop
    exact this _ H
  | (n, o) :: kept, s, M, hk, hl, H => by
    simp only [lowRows, Bool.and_eq_true, Nat.blt_eq] at hl
    have hget : s.get n = some o ∧ keptK kept (s.del n) := by
      cases kept with
      | nil =>
        simp only [keptK] at hk
        split at hk <;> first | exact hk.elim | skip
        rename_i o' ho
        subst hk
        exact ⟨(getg_some ho).1, trivial⟩
      | cons a l =>
        simp only [keptK] at hk
        split at hk <;> first | exact hk.elim | skip
        rename_i o' ho
        obtain ⟨rfl, hk⟩ := hk
        exact ⟨(getg_some ho).1, hk⟩
    have H1 : Hp k w (rHP E3 (n, o) :: ((s.del n).rows.map (rHP E3) ++ M)) := by
      refine H.perm ?_
      have := ((rget_perm hget.1).1.map (rHP E3)).append_right M
      simpa [St.del] using this
    have H2 : Hp k w ((s.del n).rows.map (rHP E3) ++ (rHP E3 (n, o) :: M)) := H1.perm List.perm_middle.symm
    have H3 := kept_hp hF hlow hget.2 hl.2 H2
    refine (H3.perm List.perm_middle).imp fun x hx => ?_
    rcases hx with ⟨e, e2⟩ | ⟨hd, h1, h2⟩
    · exact .inl ⟨e, e2⟩
    · exact .inr ⟨hd, hlow n hl.1.1 _ h1, hF ▸ h2.low hlow hl.1.2⟩

/-- Once the loop's pattern is met, the loop's own state stands. -/
theorem meets_ok {w : World} {x : SAnn} {i : x.ι} {π0 : NM} {ρS : SEnv} {ρ : Env} {s : St} {K : NM → St → Prop} {E : Ev} (h : meets x i π0 ρS s K) (R : Rel k L E s w) (he : EnvR E ρS ρ) (hw0 : WfM π0 E.tab) :
    ∃ E3 s3 π3, E.le E3 ∧ K π3 s3 ∧ Ext π0 π3 ∧ WfM π3 E3.tab ∧ E3.tab.length = s3.nx ∧ ∀ (E1 : Ev) (kept : List (Nat × AObj)) (N : Nat) (ρ0 : SEnv) (as : List Nat) (ren : NM), (∀ p q, plook p ren = some q → q = N + p ∨ (plook p π3 = some q ∧ q < N)) → E1.tab.length = N → FLe E1.F E3.F → E1.tab <+: E3.tab → (∀ E4 : Ev, E3.F = E4.F → E1.le E4 → (∀ n, n < N → ∀ hd, E3.tab[n]? = some hd → E4.tab[n]? = some hd) → ∀ M, Hp k w (s3.rows.map (rHP E3) ++ M) → Hp k w (kept.map (rHP E4) ++ M)) → (∀ t, memN t as = false → VR E1 (ρ0 t) (ρ t)) →
      ∃ E4, E1.le E4 ∧ Rel k L E4 (loopSt N ren (x.rows i) kept) w ∧ EnvR E4 (loopEnv ren (x.slots i) as ρ0) ρ := by
  unfold meets at h
  obtain ⟨E2, π2, s2, q1, q2, q3⟩ := mtL_ok h R hw0 (slotsV_ok he _)
  obtain ⟨E3, π3, s3, r1, r2⟩ := mtR_ok q3 q1.rel q1.wf
  obtain ⟨hlt, hk⟩ := bif_out r2
  have hlt := namesLt_ok hlt
  refine ⟨E3, s3, π3, q1.le.trans r1.le, hk, q1.ext.trans r1.ext, r1.wf, r1.rel.nx, ?_⟩
  intro E1 kept N ρ0 as ren hre hN hF hpre hkept hfix
  let m := (x.rows i).length
  let tl : List Hd := (List.range m).map fun p => (E3.tab[(plook p π3).getD 0]?).getD (undef, [])
  have hloc : Loc π3 E3.tab tl := by
    intro p n hp
    obtain ⟨hd, h'⟩ := r1.wf p n hp
    refine ⟨hd, h', ?_⟩
    show ((List.range m).map _)[p]? = _
    rw [List.getElem?_map, List.getElem?_range (hlt p n hp)]
    simp only [Option.map_some, hp, Option.getD_some, h']
  have htl : tl.length = m := by simp [tl]
  let E4 : Ev := ⟨E3.F, E1.tab ++ tl⟩
  have hle4 : E1.le E4 := ⟨hF, List.prefix_append _ _⟩
  have hlow3 : ∀ n, n < N → ∀ hd, E3.tab[n]? = some hd → E4.tab[n]? = some hd := by
    intro n hn hd e
    have h1 : E1.tab[n]? = some hd := by
      rw [List.getElem?_eq_getElem (by omega)]
      have : E3.tab[n]? = some (E1.tab[n]'(by omega)) := pre_get hpre (List.getElem?_eq_getElem (by omega))
      rw [this] at e; exact e
    exact hle4.get h1
  have hren : ∀ p n hd, plook p ren = some n → tl[p]? = some hd → E4.tab[n]? = some hd := by
    intro p n hd hp ht
    rcases hre p n hp with rfl | ⟨h1, h2⟩
    · show (E1.tab ++ tl)[N + p]? = some hd
      rw [← hN, List.getElem?_append_right (by omega), show E1.tab.length + p - E1.tab.length = p by omega]
      exact ht
    · obtain ⟨hd', e1, e2⟩ := hloc p n h1
      rw [ht] at e2; cases e2
      exact hlow3 n h2 _ e1
  refine ⟨E4, hle4, ⟨by show (E1.tab ++ tl).length = N + m; rw [List.length_append, htl, hN], ?_⟩, ?_⟩
  · have H := r1.rel.frontL
    have H1 := hp_map (g := rHP ⟨E3.F, tl⟩) (fun r y hy => by
      rcases hy with ⟨e1, e2⟩ | ⟨n, h1, h2⟩
      · exact .inl ⟨e1, e2⟩
      · right
        obtain ⟨hd, h3, h4⟩ := h2 E3 π3 (Ev.le.refl _) (Ext.refl _) tl hloc
        obtain ⟨hd', h5, h6⟩ := hloc _ _ h1
        rw [h3] at h5; cases h5
        exact ⟨hd, h6, h4⟩) H
    have H2 := postRows_ok (E := ⟨E3.F, tl⟩) (E2 := E4) rfl hren H1
    have H3 : Hp k w (s3.rows.map (rHP E3) ++ ((postRows ren 0 (x.rows i)).map (rHP E4) ++ fz E3.F :: L)) := by
      refine H2.perm ?_
      rw [← List.append_assoc, ← List.append_assoc]
      exact List.perm_append_comm.append_right _
    have H4 := hkept E4 rfl hle4 hlow3 _ H3
    refine H4.perm ?_
    show (kept.map (rHP E4) ++ ((postRows ren 0 (x.rows i)).map (rHP E4) ++ fz E3.F :: L)).Perm ((postRows ren 0 (x.rows i) ++ kept).map (rHP E4) ++ fz E4.F :: L)
    rw [← List.append_assoc, List.map_append]
    exact List.perm_append_comm.append_right _
  · intro t
    have hsl : VRL ⟨E3.F, tl⟩ (patsV (x.slots i)) ((x.slots i).map fun p => ρ p.1) := q2 E3 π3 r1.le r1.ext tl hloc
    unfold loopEnv
    split
    · rename_i v hv
      exact (slook_ok hsl hv).ren hren
    · cases hb : memN t as
      · exact (hfix t hb).mono hle4
      · simp only [cond_true, VR]

theorem kept_drop {w : World} {E : Ev} {keep : Nat → Bool} : ∀ {l : List (Nat × AObj)} {M : List HP}, Hp k w (l.map (rHP E) ++ M) → Hp k w ((keptRows keep l).map (rHP E) ++ M)
  | [], M, H => H
  | (n, o) :: l, M, H => by
    simp only [keptRows]
    cases keep n
    · exact kept_drop H.drop
    · have H1 : Hp k w (l.map (rHP E) ++ (rHP E (n, o) :: M)) := H.perm List.perm_middle.symm
      exact (kept_drop H1).perm List.perm_middle

theorem scode_sound {H : Hnd} (hH : HOk P H) (hm : P.follows .mixedOrders = true) {J : List (Nat × SAnn)} {n : Nat} : ∀ (c : Code) (an : List SAnn) (Q : Exit → SEnv → St → Prop) (A : Nat → Bool) (e0 : Env) (E0 E : Ev) (a : Act) (w : World) (ρS : SEnv) (s : St),
    okC n c = true → (∀ t ∈ asg c, A t = true) → Good n A e0 a → E0.le E → Rel k L E s w → EnvR E ρS (envOf a) → scode P H J an c Q ρS s → c.wp P (liftS k L n A e0 E0 Q) a w := by
  intro c
  induction c with
  | skip => intro an Q A e0 E0 E a w ρS s _ _ hg hle R he h; exact wp_skip ⟨hg, E, ρS, s, hle, R, he, h⟩
  | region id ops d =>
    intro an Q A e0 E0 E a w ρS s hc hA hg hle R he h
    simp only [okC, Bool.and_eq_true] at hc
    have hdst := dstOk_of (A := A) hc.1 hA
    cases d
    · refine wp_region_list ?_
      exact copsS_sound (Q := liftS k L n A e0 E0 Q) (E0 := E0) (K := Q .normal) hH (fun a w E ρS s hg hle R he h => ⟨hg, E, ρS, s, hle, R, he, h⟩) ops.toList a w E ρS s hdst hg hle R he h
    · refine wp_region_any hm ?_
      have hok : drawOk ops.toList (befL ops.toList []) = true := hc.2
      have he' : EnvR E ρS (envOf a) := he
      have R' : Rel k L E s w.drew := ⟨R.nx, R.hp.drew⟩
      refine wpAny_of_anyM (Q := fun a w => liftS k L n A e0 E0 Q .normal a w) (fun _ _ h => h) ops.size _ _ _ (M := []) (bf := befL ops.toList []) ?_
      have hclosed : Closed ops.toList (IsListed (Array.replicate ops.toList.length false)) := by
        intro i o ho hi
        exfalso
        unfold IsListed at hi
        simp [Array.getD_eq_getD_getElem?] at hi
        rw [Array.getElem?_replicate] at hi
        split at hi <;> simp at hi
      have := drawS_sound (P := P) (K := Q .normal) (E0 := E0) (Q := fun a w => liftS k L n A e0 E0 Q .normal a w) hH hok hdst (fun a w E ρS s hg hle R he h => ⟨hg, E, ρS, s, hle, R, he, h⟩) ops.toList.length _ [] [] a _ E ρS s hclosed (fun m hm => by cases hm) .nil hg hle R' he' h
      simpa using this
  | seq x y ihx ihy =>
    intro an Q A e0 E0 E a w ρS s hc hA hg hle R he h
    simp only [okC, Bool.and_eq_true, asg, List.mem_append] at hc hA
    simp only [scode] at h
    split at h
    · refine wp_seq (wp_mono (ihx _ _ A e0 E0 E a w ρS s hc.1 (fun t ht => hA t (.inl ht)) hg hle R he h) ?_)
      rintro e a' w' ⟨hg', E', ρ', s', hle', R', he', h'⟩
      cases e <;> first | exact ihy _ _ A e0 E0 E' a' w' ρ' s' hc.2 (fun t ht => hA t (.inr ht)) hg' hle' R' he' h' | exact ⟨hg', E', ρ', s', hle', R', he', h'⟩
    · rename_i jn hjn
      obtain ⟨i0, h⟩ := h
      obtain ⟨E1, s1, π1, hle1, ⟨I, hround⟩, _, hwf1, hn1, hmk⟩ := meets_ok (x := jn.ent) h R he (fun p n e => by cases e)
      obtain ⟨hlow, hbody, hrest⟩ := bif_out hround
      have hnlt : ∀ p q, plook p (stabNM π1 0 (jn.rows0 i0)) = some q → plook p π1 = some q ∧ q < s1.nx := fun p q e => by
        have h1 := stab_inv e
        obtain ⟨hd, h2⟩ := hwf1 p q h1
        exact ⟨h1, by rw [← hn1]; exact (List.getElem?_eq_some_iff.1 h2).1⟩
      have hfix0 : ∀ t, memN t [] = false → VR E1 (ρS t) (envOf a t) := fun t _ => (he t).mono hle1
      obtain ⟨E2, hle2, R2, he2⟩ := hmk E1 (keptRows jn.keep s1.rows) s1.nx ρS [] (renS s1.nx (stabNM π1 0 (jn.rows0 i0)) (jn.rows0 i0).length) (fun p q e => (renS_inv e).imp_right (hnlt p q)) hn1 (FLe.refl _) (List.prefix_refl _) (fun E4 _ hle4 _ M H => hp_map (fun r y => rHP.mono hle4 r) (kept_drop H)) hfix0
      have hgB : Good n (fun t => A t && memN t (asg x)) (envOf a) a := ⟨hg.size, hg.defers, fun _ _ => rfl⟩
      refine wp_seq (wp_mono (ihx _ _ (fun t => A t && memN t (asg x)) (envOf a) E2 E2 a w _ _ hc.1 (fun t ht => by rw [hA t (.inl ht), memN_iff.2 ht]; rfl) hgB (Ev.le.refl _) R2 he2 hbody) ?_)
      rintro e a2 w2 ⟨hg2, E3, ρ3, s3, hle3, R3, he3, h2⟩
      have hg3 : Good n A e0 a2 := ⟨hg2.size, hg2.defers, fun t ht => by rw [hg2.same t (by simp [ht]), hg.same t ht]⟩
      have hle03 : E0.le E3 := hle.trans (hle1.trans (hle2.trans hle3))
      cases e <;> first | exact ⟨hg3, E3, ρ3, s3, hle03, R3, he3, h2⟩ | skip
      obtain ⟨i', h2⟩ := h2
      have hw3 : WfM (stabNM π1 0 (jn.rows0 i0)) E3.tab := fun p q e => by
        obtain ⟨hd, h2⟩ := hwf1 p q (hnlt p q e).1
        exact ⟨hd, (hle2.trans hle3).get h2⟩
      obtain ⟨E4, s4, π4, hle4, ⟨hinv', hkept⟩, hext4, _, hn4, hmk'⟩ := meets_ok h2 R3 he3 hw3
      have hfix2 : ∀ t, memN t (asg x) = false → VR E1 (ρS t) (envOf a2 t) := fun t ht => by rw [hg2.same t (by simp [ht])]; exact (he t).mono hle1
      obtain ⟨E5, hle5, R5, he5⟩ := hmk' E1 (keptRows jn.keep s1.rows) s1.nx ρS (asg x) (renS s1.nx (stabNM π1 0 (jn.rows0 i0)) (jn.rows i').length) (fun p q e => (renS_inv e).imp_right fun h => ⟨hext4 p q h, (hnlt p q h).2⟩) hn1 (hle2.trans (hle3.trans hle4)).1 (hle2.trans (hle3.trans hle4)).2
        (fun E6 hF _ hl M H => kept_hp (E3 := E4) (E4 := E6) hF hl hkept hlow H) hfix2
      exact ihy _ _ A e0 E0 E5 a2 w2 _ _ hc.2 (fun t ht => hA t (.inr ht)) hg3 (hle.trans (hle1.trans hle5)) R5 he5 (hrest i' hinv')
  | cond c x y ihx ihy =>
    intro an Q A e0 E0 E a w ρS s hc hA hg hle R he h
    simp only [okC, Bool.and_eq_true, asg, List.mem_append] at hc hA
    simp only [scode] at h
    split at h <;> first | exact h.elim | skip
    rename_i t ht
    have hv := he.ev c
    rw [ht] at hv
    simp only [VR, DR] at hv
    have hv1 := hv.1
    rw [ev_envOf] at hv1
    refine wp_cond_split hv1 (fun e => ?_) (fun e => ?_)
    · subst e; exact ihx _ _ A e0 E0 E a w ρS s hc.1 (fun t ht => hA t (.inl ht)) hg hle R he h
    · subst e; exact ihy _ _ A e0 E0 E a w ρS s hc.2 (fun t ht => hA t (.inr ht)) hg hle R he h
  | block id x ih =>
    intro an Q A e0 E0 E a w ρS s hc hA hg hle R he h
    refine wp_block (wp_mono (ih an _ A e0 E0 E a w ρS s hc hA hg hle R he h) ?_)
    rintro e a' w' ⟨hg', E', ρ', s', hle', R', he', h'⟩
    cases e <;> first | exact ⟨hg', E', ρ', s', hle', R', he', h'⟩ | skip
    rename_i id'
    simp only [Exit.inBlock]
    simp only [blockS] at h'
    split
    · rename_i heq; subst heq; rw [Nat.beq_refl] at h'; exact ⟨hg', E', ρ', s', hle', R', he', h'⟩
    · rename_i hne
      have hb : Nat.beq id' id = false := by
        cases hb : Nat.beq id' id with
        | false => rfl
        | true => exact absurd (Nat.eq_of_beq_eq_true hb) hne
      rw [hb] at h'
      exact ⟨hg', E', ρ', s', hle', R', he', h'⟩
  | loop x ih =>
    intro an Q A e0 E0 E a w ρS s hc hA hg hle R he h
    cases an with
    | nil => exact h.elim
    | cons an rest =>
      have hh := bif_out2 h
      clear h
      rcases hh with ⟨_, h⟩ | ⟨_, h⟩
      · refine wp_loop_rounds an.un ?_
        revert h
        generalize an.un = m
        intro h
        induction m generalizing a w E ρS s with
        | zero => exact h.elim
        | succ m ihm =>
          rw [rounds_succ]
          simp only [sroll] at h
          refine wp_mono (ih rest _ A e0 E0 E a w ρS s hc hA hg hle R he h) ?_
          rintro e a' w' ⟨hg', E', ρ', s', hle', R', he', h'⟩
          cases e <;> first | exact ihm E' a' w' ρ' s' hg' hle' R' he' h' | exact ⟨hg', E', ρ', s', hle', R', he', h'⟩
      obtain ⟨i0, h⟩ := h
      obtain ⟨E1, s1, π1, hle1, ⟨I, μ, hinv0, hround⟩, _, hwf1, hn1, hmk⟩ := meets_ok h R he (fun p n e => by cases e)
      obtain ⟨hlow, hround⟩ := bif_out hround
      have hnlt : ∀ p q, plook p (stabNM π1 0 (an.rows i0)) = some q → plook p π1 = some q ∧ q < s1.nx := fun p q e => by
        have h1 := stab_inv e
        obtain ⟨hd, h2⟩ := hwf1 p q h1
        exact ⟨h1, by rw [← hn1]; exact (List.getElem?_eq_some_iff.1 h2).1⟩
      have hfix0 : ∀ t, memN t (asg x) = false → VR E1 (ρS t) (envOf a t) := fun t _ => (he t).mono hle1
      obtain ⟨E2, hle2, R2, he2⟩ := hmk E1 (keptRows an.keep s1.rows) s1.nx ρS (asg x) (renNM s1.nx π1 0 (an.rows i0)) (fun p q e => (ren_inv e).imp_right (hnlt p q)) hn1 (FLe.refl _) (List.prefix_refl _) (fun E4 _ hle4 _ M H => hp_map (fun r y => rHP.mono hle4 r) (kept_drop H)) hfix0
      refine wp_loop_ghost (fun m a' w' => Good n A e0 a' ∧ (∀ t, memN t (asg x) = false → envOf a' t = envOf a t) ∧ ∃ i E', E1.le E' ∧ I i ∧ Rel k L E' (loopSt s1.nx (renNM s1.nx π1 0 (an.rows i0)) (an.rows i) (keptRows an.keep s1.rows)) w' ∧
        EnvR E' (loopEnv (renNM s1.nx π1 0 (an.rows i0)) (an.slots i) (asg x) ρS) (envOf a') ∧ μ i = m) (μ i0) ⟨hg, fun _ _ => rfl, i0, E2, hle2, hinv0, R2, he2, rfl⟩ ?_
      rintro m a' w' ⟨hg', hfix, i, E', hle', hinv, R', he', rfl⟩
      have h1 := hround i hinv
      have hgB : Good n (fun t => A t && memN t (asg x)) (envOf a') a' := ⟨hg'.size, hg'.defers, fun _ _ => rfl⟩
      refine wp_mono (ih rest _ (fun t => A t && memN t (asg x)) (envOf a') E' E' a' w' _ _ hc (fun t ht => by rw [hA t ht, memN_iff.2 ht]; rfl) hgB (Ev.le.refl _) R' he' h1) ?_
      rintro e a2 w2 ⟨hg2, E3, ρ3, s3, hle3, R3, he3, h2⟩
      have hg3 : Good n A e0 a2 := ⟨hg2.size, hg2.defers, fun t ht => by rw [hg2.same t (by simp [ht]), hg'.same t ht]⟩
      have hle03 : E0.le E3 := hle.trans (hle1.trans (hle'.trans hle3))
      cases e <;> first | exact ⟨hg3, E3, ρ3, s3, hle03, R3, he3, h2⟩ | skip
      obtain ⟨i', h2⟩ := h2
      have hw3 : WfM (stabNM π1 0 (an.rows i0)) E3.tab := fun p q e => by
        obtain ⟨hd, h2⟩ := hwf1 p q (hnlt p q e).1
        exact ⟨hd, (hle'.trans hle3).get h2⟩
      obtain ⟨E4, s4, π4, hle4, ⟨hinv', hμ, hkept⟩, hext4, _, hn4, hmk'⟩ := meets_ok h2 R3 he3 hw3
      have hfix2 : ∀ t, memN t (asg x) = false → envOf a2 t = envOf a t := fun t ht => by rw [hg2.same t (by simp [ht]), hfix t ht]
      obtain ⟨E5, hle5, R5, he5⟩ := hmk' E1 (keptRows an.keep s1.rows) s1.nx ρS (asg x) (renNM s1.nx π1 0 (an.rows i0)) (fun p q e => (ren_inv e).imp_right fun h => ⟨hext4 p q h, (hnlt p q h).2⟩) hn1 (hle'.trans (hle3.trans hle4)).1 (hle'.trans (hle3.trans hle4)).2
        (fun E6 hF _ hl M H => kept_hp (E3 := E4) (E4 := E6) hF hl hkept hlow H) (fun t ht => by rw [hfix2 t ht]; exact hfix0 t ht)
      exact ⟨_, hμ, hg3, hfix2, i', E5, hle5, hinv', R5, he5, rfl⟩
  | exit id => intro an Q A e0 E0 E a w ρS s _ _ hg hle R he h; exact wp_exit ⟨hg, E, ρS, s, hle, R, he, h⟩
  | ret => intro an Q A e0 E0 E a w ρS s _ _ hg hle R he h; exact wp_ret ⟨hg, E, ρS, s, hle, R, he, h⟩
  | rangeFunc f ps x y ihx ihy => intro an Q A e0 E0 E a w ρS s _ _ hg hle R he h; exact h.elim
  | scope x ih => intro an Q A e0 E0 E a w ρS s _ _ hg hle R he h; exact h.elim
  | label l => intro an Q A e0 E0 E a w ρS s _ _ hg hle R he h; exact h.elim
  | goto l => intro an Q A e0 E0 E a w ρS s _ _ hg hle R he h; exact h.elim
  | refuse t => intro an Q A e0 E0 E a w ρS s _ _ hg hle R he h; exact h.elim

end Sx
