/- A symbolic walk, eighth part: rows that are held against a pattern. No condition. -/
import Derived.Test.YtlgpgmafmgmfdaaSxG
set_option linter.unusedSimpArgs false
set_option linter.unusedVariables false
namespace Sx
open Go Go.RowKit Cv

@[reducible] def NM := List (Nat × Nat)

def plook (p : Nat) : NM → Option Nat
  | [] => none
  | (q, n) :: l => bif Nat.beq q p then some n else plook p l

def lEq : Value → Value → Prop
  | .int k a, .int k' b => bif keq k k' then a = b else False
  | .bool a, .bool b => a = b
  | .string a, .string b => a = b
  | .pointer none, .pointer none => True
  | .slice none 0 0, .slice none 0 0 => True
  | .map none, .map none => True
  | .nilFunc, .nilFunc => True
  | .nilIface, .nilIface => True
  | _, _ => False

theorem lEq_eq {x y : Value} (h : lEq x y) : x = y := by
  unfold lEq at h
  split at h <;> first | exact h.elim | rfl | (subst h; rfl) | skip
  obtain ⟨hk, rfl⟩ := bif_out h
  rw [keq_sound hk]

def dEq : D → D → Prop
  | .v x, .v y => lEq x y
  | .ro sz els, .ro sz' els' => bif Nat.beq sz sz' then els = els' else False
  | .ro _ els, .v (.slice none 0 0) => els = []
  | _, _ => False

theorem dEq_ok {F : PH} {p q : D} {y : Value} (h : dEq p q) (hq : DR F q y) : DR F p y := by
  unfold dEq at h
  split at h <;> first | exact h.elim | skip
  · rw [lEq_eq h]; exact hq
  · obtain ⟨hb, rfl⟩ := bif_out h
    rw [Nat.eq_of_beq_eq_true hb]; exact hq
  · subst h
    simp only [DR] at hq ⊢
    exact ⟨none, 0, hq.1, Nat.le_refl _, by simp, .inl trivial⟩

def bindN (p n : Nat) (π : NM) (K : NM → Prop) : Prop :=
  match plook p π with
  | some m => bif Nat.beq m n then K π else False
  | none => K ((p, n) :: π)

mutual
def mtV : V → V → NM → St → (NM → St → Prop) → Prop
  | .top, _, π, s, K => K π s
  | .d p, a, π, s, K => match a with
    | .d q => dEq p q ∧ K π s
    | .own n => match p with
      | .ro sz els => match s.get n with
        | some (.own _ sz' els') => bif Nat.beq sz sz' then els = els' ∧ K π (s.set n (.fro sz' els')) else False
        | some (.fro sz' els') => bif Nat.beq sz sz' then els = els' ∧ K π s else False
        | _ => False
      | _ => False
    | _ => False
  | .nm p o, a, π, s, K => match a with
    | .nm n o' => bif Nat.beq o o' then bindN p n π fun π => K π s else False
    | _ => False
  | .el p sz i f, a, π, s, K => match a with
    | .el n sz' i' f' => bif Nat.beq sz sz' && Nat.beq f f' then i = i' ∧ bindN p n π fun π => K π s else False
    | _ => False
  | .own p, a, π, s, K => match a with
    | .own n => bindN p n π fun π => K π s
    | .d (.v (.slice none 0 0)) => match plook p π with
      | none => K ((p, s.nx) :: π) (s.new .nilo)
      | some _ => False
    | _ => False
  | .mp p, a, π, s, K => match a with
    | .mp n => bindN p n π fun π => K π s
    | _ => False
  | .agg l, a, π, s, K => match a with
    | .agg l' => mtL l l' π s K
    | _ => False
  | .tup l, a, π, s, K => match a with
    | .tup l' => mtL l l' π s K
    | _ => False
  | .fn f x y, a, π, s, K => match a with
    | .fn f' x' y' => bif Nat.beq f f' then mtL x x' π s fun π s => mtL y y' π s K else False
    | _ => False
  | .ifc t x, a, π, s, K => match a with
    | .ifc t' x' => bif Nat.beq t t' then mtV x x' π s K else False
    | _ => False
  | _, _, _, _, _ => False
def mtL : List V → List V → NM → St → (NM → St → Prop) → Prop
  | [], l, π, s, K => match l with
    | [] => K π s
    | _ => False
  | v :: vs, l, π, s, K => match l with
    | u :: us => mtV v u π s fun π s => mtL vs us π s K
    | [] => False
end

def Loc (π : NM) (tab tl : List Hd) : Prop := ∀ p n, plook p π = some n → ∃ hd, tab[n]? = some hd ∧ tl[p]? = some hd
def Ext (π π' : NM) : Prop := ∀ p n, plook p π = some n → plook p π' = some n
def WfM (π : NM) (tab : List Hd) : Prop := ∀ p n, plook p π = some n → ∃ hd, tab[n]? = some hd

theorem Ext.refl (π : NM) : Ext π π := fun _ _ h => h
theorem Ext.trans {a b c : NM} (h : Ext a b) (h' : Ext b c) : Ext a c := fun p n e => h' p n (h p n e)
theorem WfM.mono {π : NM} {E E' : Ev} (h : WfM π E.tab) (hle : E.le E') : WfM π E'.tab := fun p n e => let ⟨hd, q⟩ := h p n e; ⟨hd, hle.get q⟩

/-- A value is so by the pattern's own names, now and later. -/
def PV (E : Ev) (π : NM) (v : V) (y : Value) : Prop := ∀ E2 π2, E.le E2 → Ext π π2 → ∀ tl, Loc π2 E2.tab tl → VR ⟨E2.F, tl⟩ v y
def PVL (E : Ev) (π : NM) (v : List V) (y : List Value) : Prop := ∀ E2 π2, E.le E2 → Ext π π2 → ∀ tl, Loc π2 E2.tab tl → VRL ⟨E2.F, tl⟩ v y

theorem PV.mono {E E' : Ev} {π π' : NM} {v : V} {y : Value} (h : PV E π v y) (hle : E.le E') (hx : Ext π π') : PV E' π' v y := fun E2 π2 a b tl c => h E2 π2 (hle.trans a) (hx.trans b) tl c
theorem PVL.mono {E E' : Ev} {π π' : NM} {v : List V} {y : List Value} (h : PVL E π v y) (hle : E.le E') (hx : Ext π π') : PVL E' π' v y := fun E2 π2 a b tl c => h E2 π2 (hle.trans a) (hx.trans b) tl c

theorem bindN_out {p n : Nat} {π : NM} {tab : List Hd} {K : NM → Prop} (h : bindN p n π K) (hw : WfM π tab) {hd : Hd} (hn : tab[n]? = some hd) : ∃ π', Ext π π' ∧ WfM π' tab ∧ plook p π' = some n ∧ K π' := by
  unfold bindN at h
  split at h
  · rename_i m hm
    obtain ⟨hb, hk⟩ := bif_out h
    have := Nat.eq_of_beq_eq_true hb
    subst this
    exact ⟨π, Ext.refl _, hw, hm, hk⟩
  · rename_i hm
    refine ⟨_, fun q m e => ?_, fun q m e => ?_, by simp [plook], h⟩
    · simp only [plook]
      cases hb : Nat.beq p q
      · exact e
      · have := Nat.eq_of_beq_eq_true hb
        subst this
        rw [hm] at e; cases e
    · simp only [plook] at e
      cases hb : Nat.beq p q
      · rw [hb] at e; exact hw q m e
      · rw [hb] at e; cases e; exact ⟨hd, hn⟩

variable {k : Ko} {L : List HP} {w : World}

/-- What a step of the holding against leaves. -/
structure MtOk (k : Ko) (L : List HP) (w : World) (E : Ev) (π : NM) (E' : Ev) (π' : NM) (s' : St) : Prop where
  le : E.le E'
  ext : Ext π π'
  wf : WfM π' E'.tab
  rel : Rel k L E' s' w

theorem MtOk.trans {E E1 E2 : Ev} {π π1 π2 : NM} {s1 s2 : St} {L1 L2 : List HP} (a : MtOk k L1 w E π E1 π1 s1) (b : MtOk k L2 w E1 π1 E2 π2 s2) : MtOk k L2 w E π E2 π2 s2 := ⟨a.le.trans b.le, a.ext.trans b.ext, b.wf, b.rel⟩

theorem Rel.newNil {E : Ev} {s : St} (R : Rel k L E s w) : ∃ E', E.le E' ∧ Rel k L E' (s.new .nilo) w ∧ E'.tab[s.nx]? = some (.slice none 0 0, []) := by
  have hle : E.le ⟨E.F, E.tab ++ [(.slice none 0 0, [])]⟩ := Ev.le.app _
  have hget : (E.tab ++ [((.slice none 0 0, []) : Hd)])[s.nx]? = some (.slice none 0 0, []) := by rw [← R.nx]; simp
  refine ⟨_, hle, ⟨by simp [St.new, R.nx], ?_⟩, hget⟩
  have H2 := hp_map (fun r x => rHP.mono hle r) R.hp
  have := (@hp_pure k w True _).2 ⟨trivial, H2⟩
  exact this.imp fun x hx => .inr ⟨_, hget, by simp only [rowHP]; exact ⟨hx.2, trivial⟩⟩

mutual
theorem mtV_ok : ∀ {v a : V} {π : NM} {s : St} {K : NM → St → Prop} {E : Ev} {y : Value}, mtV v a π s K → Rel k L E s w → WfM π E.tab → VR E a y → ∃ E' π' s', MtOk k L w E π E' π' s' ∧ PV E' π' v y ∧ K π' s'
  | .top, a, π, s, K, E, y, h, R, hw, hv => by
    simp only [mtV] at h
    exact ⟨E, π, s, ⟨Ev.le.refl _, Ext.refl _, hw, R⟩, fun _ _ _ _ _ _ => by simp only [VR], h⟩
  | .d p, a, π, s, K, E, y, h, R, hw, hv => by
    simp only [mtV] at h
    split at h <;> first | exact h.elim | skip
    · rename_i q
      obtain ⟨h1, h⟩ := h
      simp only [VR] at hv
      exact ⟨E, π, s, ⟨Ev.le.refl _, Ext.refl _, hw, R⟩, fun E2 _ a _ _ _ => by simp only [VR]; exact (dEq_ok h1 hv).mono a.1, h⟩
    · rename_i n
      split at h <;> first | exact h.elim | skip
      rename_i sz els
      split at h <;> first | exact h.elim | skip
      · rename_i t sz' els' hg
        obtain ⟨hb, rfl, hk⟩ := bif_out h
        have e := Nat.eq_of_beq_eq_true hb
        subst e
        obtain ⟨E', q1, q2, q3, q4, q5⟩ := frzV_ok R (v := .own n) (d := .ro sz els) (s' := s.set n (.fro sz els)) (by simp only [frzV, hg]) hv
        exact ⟨E', π, _, ⟨q1, Ext.refl _, by rw [q2]; exact hw, q3⟩, fun E2 _ a _ _ _ => by simp only [VR]; exact q5.mono a.1, hk⟩
      · rename_i sz' els' hg
        obtain ⟨hb, rfl, hk⟩ := bif_out h
        have e := Nat.eq_of_beq_eq_true hb
        subst e
        obtain ⟨E', q1, q2, q3, q4, q5⟩ := frzV_ok R (v := .own n) (d := .ro sz els) (s' := s) (by simp only [frzV, hg]) hv
        exact ⟨E', π, _, ⟨q1, Ext.refl _, by rw [q2]; exact hw, q3⟩, fun E2 _ a _ _ _ => by simp only [VR]; exact q5.mono a.1, hk⟩
  | .nm p o, a, π, s, K, E, y, h, R, hw, hv => by
    simp only [mtV] at h
    split at h <;> first | exact h.elim | skip
    rename_i n o'
    obtain ⟨hb, hk⟩ := bif_out h
    have e := Nat.eq_of_beq_eq_true hb
    subst e
    simp only [VR] at hv
    obtain ⟨b, oo, l, h1, rfl⟩ := hv
    obtain ⟨π', q1, q2, q3, q4⟩ := bindN_out hk hw h1
    refine ⟨E, π', s, ⟨Ev.le.refl _, q1, q2, R⟩, fun E2 π2 a b' tl hl => ?_, q4⟩
    simp only [VR]
    obtain ⟨hd, e1, e2⟩ := hl p n (b' p n q3)
    rw [a.get h1] at e1; cases e1
    exact ⟨b, oo, l, e2, rfl⟩
  | .el p sz i f, a, π, s, K, E, y, h, R, hw, hv => by
    simp only [mtV] at h
    split at h <;> first | exact h.elim | skip
    rename_i n sz' i' f'
    obtain ⟨hb, rfl, hk⟩ := bif_out h
    simp only [Bool.and_eq_true] at hb
    have e := Nat.eq_of_beq_eq_true hb.1
    subst e
    have e := Nat.eq_of_beq_eq_true hb.2
    subst e
    simp only [VR] at hv
    obtain ⟨b, oo, m, c, l, h1, rfl⟩ := hv
    obtain ⟨π', q1, q2, q3, q4⟩ := bindN_out hk hw h1
    refine ⟨E, π', s, ⟨Ev.le.refl _, q1, q2, R⟩, fun E2 π2 a b' tl hl => ?_, q4⟩
    simp only [VR]
    obtain ⟨hd, e1, e2⟩ := hl p n (b' p n q3)
    rw [a.get h1] at e1; cases e1
    exact ⟨b, oo, m, c, l, e2, rfl⟩
  | .own p, a, π, s, K, E, y, h, R, hw, hv => by
    simp only [mtV] at h
    split at h <;> first | exact h.elim | skip
    · rename_i n
      simp only [VR] at hv
      obtain ⟨l, h1, h2⟩ := hv
      obtain ⟨π', q1, q2, q3, q4⟩ := bindN_out h hw h1
      refine ⟨E, π', s, ⟨Ev.le.refl _, q1, q2, R⟩, fun E2 π2 a b' tl hl => ?_, q4⟩
      simp only [VR]
      obtain ⟨hd, e1, e2⟩ := hl p n (b' p n q3)
      rw [a.get h1] at e1; cases e1
      exact ⟨l, e2, h2⟩
    · split at h <;> first | exact h.elim | skip
      rename_i hm
      obtain ⟨E', q1, q2, q3⟩ := R.newNil
      simp only [VR, DR] at hv
      obtain ⟨rfl, _⟩ := hv
      have hpl : plook p ((p, s.nx) :: π) = some s.nx := by simp [plook]
      refine ⟨E', _, _, ⟨q1, fun q m e => ?_, fun q m e => ?_, q2⟩, fun E2 π2 a b' tl hl => ?_, h⟩
      · simp only [plook]
        cases hb : Nat.beq p q
        · exact e
        · have := Nat.eq_of_beq_eq_true hb
          subst this
          rw [hm] at e; cases e
      · simp only [plook] at e
        cases hb : Nat.beq p q
        · rw [hb] at e; obtain ⟨hd, h'⟩ := hw q m e; exact ⟨hd, q1.get h'⟩
        · rw [hb] at e; cases e; exact ⟨_, q3⟩
      · simp only [VR]
        obtain ⟨hd, e1, e2⟩ := hl p _ (b' p _ hpl)
        rw [a.get q3] at e1; cases e1
        exact ⟨[], e2, _, _, _, rfl⟩
  | .mp p, a, π, s, K, E, y, h, R, hw, hv => by
    simp only [mtV] at h
    split at h <;> first | exact h.elim | skip
    rename_i n
    simp only [VR] at hv
    obtain ⟨b, l, h1, h2⟩ := hv
    obtain ⟨π', q1, q2, q3, q4⟩ := bindN_out h hw h1
    refine ⟨E, π', s, ⟨Ev.le.refl _, q1, q2, R⟩, fun E2 π2 a b' tl hl => ?_, q4⟩
    simp only [VR]
    obtain ⟨hd, e1, e2⟩ := hl p n (b' p n q3)
    rw [a.get h1] at e1; cases e1
    exact ⟨b, l, e2, h2⟩
  | .agg l, a, π, s, K, E, y, h, R, hw, hv => by
    simp only [mtV] at h
    split at h <;> first | exact h.elim | skip
    simp only [VR] at hv
    obtain ⟨ys, rfl, hv⟩ := hv
    obtain ⟨E', π', s', q1, q2, q3⟩ := mtL_ok h R hw hv
    exact ⟨E', π', s', q1, fun E2 π2 a b tl c => by simp only [VR]; exact ⟨ys, rfl, q2 E2 π2 a b tl c⟩, q3⟩
  | .tup l, a, π, s, K, E, y, h, R, hw, hv => by
    simp only [mtV] at h
    split at h <;> first | exact h.elim | skip
    simp only [VR] at hv
    obtain ⟨ys, rfl, hv⟩ := hv
    obtain ⟨E', π', s', q1, q2, q3⟩ := mtL_ok h R hw hv
    exact ⟨E', π', s', q1, fun E2 π2 a b tl c => by simp only [VR]; exact ⟨ys, rfl, q2 E2 π2 a b tl c⟩, q3⟩
  | .fn f x z, a, π, s, K, E, y, h, R, hw, hv => by
    simp only [mtV] at h
    split at h <;> first | exact h.elim | skip
    rename_i f' x' z'
    obtain ⟨hb, hk⟩ := bif_out h
    have e := Nat.eq_of_beq_eq_true hb
    subst e
    simp only [VR] at hv
    obtain ⟨as, bs, rfl, h1, h2⟩ := hv
    obtain ⟨E', π', s', q1, q2, q3⟩ := mtL_ok hk R hw h1
    obtain ⟨E2, π2, s2, r1, r2, r3⟩ := mtL_ok q3 q1.rel q1.wf (h2.mono q1.le)
    exact ⟨E2, π2, s2, q1.trans r1, fun E3 π3 a b tl c => by simp only [VR]; exact ⟨as, bs, rfl, q2.mono r1.le r1.ext E3 π3 a b tl c, r2 E3 π3 a b tl c⟩, r3⟩
  | .ifc t x, a, π, s, K, E, y, h, R, hw, hv => by
    simp only [mtV] at h
    split at h <;> first | exact h.elim | skip
    rename_i t' x'
    obtain ⟨hb, hk⟩ := bif_out h
    have e := Nat.eq_of_beq_eq_true hb
    subst e
    simp only [VR] at hv
    obtain ⟨z, rfl, h1⟩ := hv
    obtain ⟨E', π', s', q1, q2, q3⟩ := mtV_ok hk R hw h1
    exact ⟨E', π', s', q1, fun E3 π3 a b tl c => by simp only [VR]; exact ⟨z, rfl, q2 E3 π3 a b tl c⟩, q3⟩
  | .re sz els i f, a, π, s, K, E, y, h, R, hw, hv => by simp only [mtV] at h
  | .sub n i, a, π, s, K, E, y, h, R, hw, hv => by simp only [mtV] at h
theorem mtL_ok : ∀ {v a : List V} {π : NM} {s : St} {K : NM → St → Prop} {E : Ev} {y : List Value}, mtL v a π s K → Rel k L E s w → WfM π E.tab → VRL E a y → ∃ E' π' s', MtOk k L w E π E' π' s' ∧ PVL E' π' v y ∧ K π' s'
  | [], a, π, s, K, E, y, h, R, hw, hv => by
    simp only [mtL] at h
    split at h <;> first | exact h.elim | skip
    simp only [VRL] at hv
    exact ⟨E, π, s, ⟨Ev.le.refl _, Ext.refl _, hw, R⟩, fun _ _ _ _ _ _ => by simpa only [VRL] using hv, h⟩
  | v :: vs, a, π, s, K, E, y, h, R, hw, hv => by
    simp only [mtL] at h
    split at h <;> first | exact h.elim | skip
    simp only [VRL] at hv
    obtain ⟨x, xs, rfl, h1, h2⟩ := hv
    obtain ⟨E', π', s', q1, q2, q3⟩ := mtV_ok h R hw h1
    obtain ⟨E2, π2, s2, r1, r2, r3⟩ := mtL_ok q3 q1.rel q1.wf (h2.mono q1.le)
    exact ⟨E2, π2, s2, q1.trans r1, fun E3 π3 a b tl c => by simp only [VRL]; exact ⟨_, _, rfl, q2.mono r1.le r1.ext E3 π3 a b tl c, r2 E3 π3 a b tl c⟩, r3⟩
end

/-! ### Rows -/
mutual
def renV (π : NM) : V → V
  | .top => .top
  | .d d => .d d
  | .nm n o => match plook n π with
    | some m => .nm m o
    | none => .top
  | .el n sz i f => match plook n π with
    | some m => .el m sz i f
    | none => .top
  | .re sz els i f => .re sz els i f
  | .own n => match plook n π with
    | some m => .own m
    | none => .top
  | .mp n => match plook n π with
    | some m => .mp m
    | none => .top
  | .sub n i => match plook n π with
    | some m => .sub m i
    | none => .top
  | .agg l => .agg (renL π l)
  | .tup l => .tup (renL π l)
  | .fn f a b => .fn f (renL π a) (renL π b)
  | .ifc t x => .ifc t (renV π x)
def renL (π : NM) : List V → List V
  | [] => []
  | v :: l => renV π v :: renL π l
end

def renO (π : NM) : AObj → AObj
  | .cells vs t => .cells (renL π vs) t
  | o => o

/-- Rows that are made of a folded one. -/
def unfRows (unf : Nat → AObj) (π : NM) (nx : Nat) : List Nat → List (Nat × AObj)
  | [] => []
  | j :: js => (nx + j, renO π (unf (j + 1))) :: unfRows unf π nx js

def unfNM (n nx m : Nat) : NM := (0, n) :: (List.range (m - 1)).map fun j => (j + 1, nx + j)

/-- The folded row is taken apart: its head, and the state with the rest. -/
def unfAt (s : St) (n m : Nat) (unf : Nat → AObj) : AObj × St :=
  (renO (unfNM n s.nx m) (unf 0), ⟨unfRows unf (unfNM n s.nx m) s.nx (List.range (m - 1)) ++ s.rows, s.nx + (m - 1)⟩)

/-- A row that is there. -/
def St.getg (s : St) (n : Nat) : Option AObj :=
  match s.get n with
  | some .gone => none
  | o => o

theorem getg_some {s : St} {n : Nat} {o : AObj} (h : s.getg n = some o) : s.get n = some o ∧ o ≠ .gone := by
  unfold St.getg at h
  split at h
  · cases h
  · rename_i hne
    exact ⟨h, fun e => hne (e ▸ h)⟩

def namesLt (m : Nat) : NM → Bool
  | [] => true
  | (p, _) :: l => bif Nat.blt p m then namesLt m l else false

theorem namesLt_ok {m : Nat} : ∀ {π : NM}, namesLt m π = true → ∀ p n, plook p π = some n → p < m
  | [], h, p, n, e => by cases e
  | (q, r) :: l, h, p, n, e => by
    simp only [namesLt] at h
    cases hb : Nat.blt q m
    · rw [hb] at h; cases h
    · rw [hb] at h
      simp only [plook] at e
      cases hq : Nat.beq q p
      · rw [hq] at e; exact namesLt_ok h p n e
      · have := Nat.eq_of_beq_eq_true hq
        subst this
        simpa [Nat.blt_eq] using hb

def mtAll (f : Nat → NM → St → (NM → St → Prop) → Prop) : List Nat → NM → St → (NM → St → Prop) → Prop
  | [], π, s, K => K π s
  | j :: js, π, s, K => f j π s fun π s => mtAll f js π s K

/-- A row is held against a pattern: pattern, name, row. -/
def mtO : AObj → Nat → AObj → NM → St → (NM → St → Prop) → Prop
  | .gone, _, _, π, s, K => K π s
  | .cells vs t, n, o, π, s, K => match o with
    | .cells vs' t' => bif Nat.beq t t' then mtL vs vs' π s K else False
    | .adt T m unf x => bif Nat.ble 1 m then (match unfAt s n m (unf x) with
      | (.cells vs' t', s') => bif Nat.beq t t' then mtL vs vs' π s' K else False
      | _ => False) else False
    | _ => False
  | .own t sz els, n, o, π, s, K => match o with
    | .own t' sz' els' => bif Nat.beq t t' && Nat.beq sz sz' then els = els' ∧ K π s else False
    | .nilo => els = [] ∧ K π s
    | _ => False
  | .map es, n, o, π, s, K => match o with
    | .map es' => es = es' ∧ K π s
    | _ => False
  | .iter b p, n, o, π, s, K => match o with
    | .iter b' p' => b = b' ∧ p = p' ∧ K π s
    | _ => False
  | .adt T m unf x, n, o, π, s, K => match o with
    | .cells vs t => bif Nat.ble 1 m then mtAll (fun j π s K => match plook j π with
        | some n' => match (match j with | 0 => some (AObj.cells vs t) | _ => s.getg n') with
          | some o' => mtO (unf x j) n' o' π (match j with | 0 => s | _ => s.del n') K
          | none => False
        | none => False) (List.range m) [(0, n)] s (fun π' s => bif namesLt m π' then K π s else False) else False
    | o => AObj.adt T m unf x = o ∧ K π s
  | o', n, o, π, s, K => o' = o ∧ K π s

/-- Rows are held against patterns, whose names are p and on. -/
def mtR : Nat → List AObj → NM → St → (NM → St → Prop) → Prop
  | _, [], π, s, K => K π s
  | p, .gone :: os, π, s, K => mtR (p + 1) os π s K
  | p, o :: os, π, s, K => match plook p π with
    | some n => match s.getg n with
      | some o' => mtO o n o' π (s.del n) fun π s => mtR (p + 1) os π s K
      | none => False
    | none => False

end Sx
