/- Heaps as lists of separate parts: what each step of a walk makes of them. No condition. -/
import Derived.Test.YtlgpgmafmgmfdaaCvF
set_option linter.unusedSimpArgs false
set_option linter.unusedVariables false
namespace Cv
open Go Go.RowKit

@[reducible] def PH := Nat → Option Obj
@[reducible] def HP := PH → Prop

def pe : PH := fun _ => none
def one (b : Nat) (o : Obj) : PH := fun x => if x = b then some o else none
def Dj (g h : PH) : Prop := ∀ b, g b = none ∨ h b = none
def Sub (h : PH) (w : World) : Prop := ∀ b o, h b = some o → w.heap[b]? = some o
def un (g h : PH) : PH := fun b => match g b with | some o => some o | none => h b

theorem Dj.symm {g h : PH} (d : Dj g h) : Dj h g := fun b => (d b).symm
theorem Dj.pe (h : PH) : Dj pe h := fun _ => .inl rfl
theorem dj_un_l {g g' h : PH} (d : Dj g h) (d' : Dj g' h) : Dj (un g g') h := fun b => by
  rcases d b with e | e
  · rcases d' b with e' | e'
    · left; simp [un, e, e']
    · exact .inr e'
  · exact .inr e
theorem dj_of_un_l {g g' h : PH} (d : Dj (un g g') h) (dg : Dj g g') : Dj g h ∧ Dj g' h := by
  refine ⟨fun b => ?_, fun b => ?_⟩
  · rcases d b with e | e
    · left; simp only [un] at e; cases hg : g b with
      | none => rfl
      | some o => rw [hg] at e; cases e
    · exact .inr e
  · rcases d b with e | e
    · left; simp only [un] at e; cases hg : g b with
      | none => rw [hg] at e; exact e
      | some o => rw [hg] at e; cases e
    · exact .inr e
theorem sub_un {g h : PH} {w : World} (a : Sub g w) (b : Sub h w) : Sub (un g h) w := fun x o e => by
  simp only [un] at e
  cases hg : g x with
  | some o' => rw [hg] at e; cases e; exact a x _ hg
  | none => rw [hg] at e; exact b x o e
theorem sub_of_un {g h : PH} {w : World} (s : Sub (un g h) w) (d : Dj g h) : Sub g w ∧ Sub h w := by
  refine ⟨fun x o e => s x o (by simp [un, e]), fun x o e => s x o ?_⟩
  rcases d x with e' | e'
  · simp [un, e', e]
  · rw [e] at e'; cases e'
theorem Sub.pe (w : World) : Sub Cv.pe w := fun _ _ e => by cases e
theorem Sub.lt {h : PH} {w : World} (s : Sub h w) {b : Nat} (hb : h b ≠ none) : b < w.heap.size := by
  cases e : h b with
  | none => exact absurd e hb
  | some o =>
    have := s b o e
    rcases Nat.lt_or_ge b w.heap.size with h' | h'
    · exact h'
    · rw [Array.getElem?_eq_none h'] at this; cases this

/-- What stays the same through a call, besides memory. -/
structure Ko where
  os : Os
  tape : Nat → Question → Nat
  output : Array (Nat × ByteArray)

def ko (w : World) : Ko := ⟨w.os, w.tape, w.output⟩
def Kon (k : Ko) (w : World) : Prop := w.os = k.os ∧ w.tape = k.tape ∧ w.output = k.output

inductive Hs (w : World) : List HP → List PH → Prop
  | nil : Hs w [] []
  | cons {A : HP} {h : PH} {L : List HP} {hs : List PH} : A h → Sub h w → (∀ g ∈ hs, Dj h g) → Hs w L hs → Hs w (A :: L) (h :: hs)

/-- In the world w there are, apart from each other, these. -/
def Hp (k : Ko) (w : World) (L : List HP) : Prop := Kon k w ∧ ∃ hs, Hs w L hs

/-- In the world w there is this (perhaps with others in the same place). -/
def Sat (w : World) (A : HP) : Prop := ∃ h, A h ∧ Sub h w

theorem Hs.perm {w : World} {L L' : List HP} (p : L.Perm L') : ∀ {hs : List PH}, Hs w L hs → ∃ hs', Hs w L' hs' ∧ hs.Perm hs' := by
  induction p with
  | nil => intro hs h; cases h; exact ⟨[], .nil, .nil⟩
  | cons A _ ih =>
    intro hs h
    cases h with
    | cons ha hsub hd hr =>
      obtain ⟨hs', h1, h2⟩ := ih hr
      exact ⟨_, .cons ha hsub (fun g hg => hd g (h2.mem_iff.2 hg)) h1, .cons _ h2⟩
  | swap A B L =>
    intro hs h
    cases h with
    | cons hb hbs hbd hr =>
      cases hr with
      | cons ha has had hr =>
        refine ⟨_, .cons ha has ?_ (.cons hb hbs (fun g hg => hbd g (List.mem_cons_of_mem _ hg)) hr), .swap _ _ _⟩
        intro g hg
        rcases List.mem_cons.1 hg with rfl | hg
        · exact (hbd _ List.mem_cons_self).symm
        · exact had g hg
  | trans _ _ ih1 ih2 =>
    intro hs h
    obtain ⟨hs1, h1, p1⟩ := ih1 h
    obtain ⟨hs2, h2, p2⟩ := ih2 h1
    exact ⟨hs2, h2, p1.trans p2⟩

theorem Hp.perm {k : Ko} {w : World} {L L' : List HP} (H : Hp k w L) (p : L.Perm L') : Hp k w L' :=
  ⟨H.1, let ⟨_, h⟩ := H.2; let ⟨hs', h', _⟩ := h.perm p; ⟨hs', h'⟩⟩

/-- Which part, and what is left without it. -/
def pkA : Nat → List HP → HP
  | _, [] => fun h => h = pe
  | 0, A :: _ => A
  | n + 1, _ :: L => pkA n L
def pkR : Nat → List HP → List HP
  | _, [] => []
  | 0, _ :: L => L
  | n + 1, A :: L => A :: pkR n L

theorem Hp.pk {k : Ko} {w : World} {L : List HP} (H : Hp k w L) (i : Nat) : Hp k w (pkA i L :: pkR i L) := by
  have key : ∀ (i : Nat) (L : List HP), i < L.length → L.Perm (pkA i L :: pkR i L) := by
    intro i
    induction i with
    | zero => intro L hl; cases L with
      | nil => simp at hl
      | cons A L => exact .refl _
    | succ i ih => intro L hl; cases L with
      | nil => simp at hl
      | cons A L => exact (List.Perm.cons A (ih L (by simpa using hl))).trans (.swap _ _ _)
  rcases Nat.lt_or_ge i L.length with h | h
  · exact H.perm (key i L h)
  · have e : ∀ (i : Nat) (L : List HP), L.length ≤ i → pkA i L = (fun h => h = pe) ∧ pkR i L = L := by
      intro i
      induction i with
      | zero => intro L hl; cases L with
        | nil => exact ⟨rfl, rfl⟩
        | cons A L => simp at hl
      | succ i ih => intro L hl; cases L with
        | nil => exact ⟨rfl, rfl⟩
        | cons A L => have := ih L (by simpa using hl); exact ⟨this.1, by simp [pkR, this.2]⟩
    rw [(e i L h).1, (e i L h).2]
    obtain ⟨hk, hs, hh⟩ := H
    exact ⟨hk, _, .cons rfl (Sub.pe w) (fun g _ => Dj.pe g) hh⟩

theorem Hp.drop {k : Ko} {w : World} {A : HP} {L : List HP} (H : Hp k w (A :: L)) : Hp k w L := by
  obtain ⟨hk, hs, hh⟩ := H
  cases hh with
  | cons _ _ _ hr => exact ⟨hk, _, hr⟩

theorem Hp.sat {k : Ko} {w : World} {A : HP} {L : List HP} (H : Hp k w (A :: L)) : Sat w A := by
  obtain ⟨hk, hs, hh⟩ := H
  cases hh with
  | cons ha hsub _ _ => exact ⟨_, ha, hsub⟩

theorem Hp.imp {k : Ko} {w : World} {A B : HP} {L : List HP} (H : Hp k w (A :: L)) (h : ∀ x, A x → B x) : Hp k w (B :: L) := by
  obtain ⟨hk, hs, hh⟩ := H
  cases hh with
  | cons ha hsub hd hr => exact ⟨hk, _, .cons (h _ ha) hsub hd hr⟩

/-! ### Assertions -/
def pt (b : Nat) (o : Obj) : HP := fun h => h = one b o
def hEx {α : Type} (F : α → HP) : HP := fun h => ∃ x, F x h
def hPu (p : Prop) : HP := fun h => p ∧ h = pe
def hS2 (A B : HP) : HP := fun h => ∃ g g', A g ∧ B g' ∧ Dj g g' ∧ h = un g g'
def hS : List HP → HP
  | [] => fun h => h = pe
  | [A] => A
  | A :: L => hS2 A (hS L)

theorem hp_ex {α : Type} {k : Ko} {w : World} {F : α → HP} {L : List HP} : Hp k w (hEx F :: L) ↔ ∃ x, Hp k w (F x :: L) := by
  constructor
  · rintro ⟨hk, hs, hh⟩
    cases hh with
    | cons ha hsub hd hr => obtain ⟨x, ha⟩ := ha; exact ⟨x, hk, _, .cons ha hsub hd hr⟩
  · rintro ⟨x, hk, hs, hh⟩
    cases hh with
    | cons ha hsub hd hr => exact ⟨hk, _, .cons ⟨x, ha⟩ hsub hd hr⟩

theorem hp_pure {k : Ko} {w : World} {p : Prop} {L : List HP} : Hp k w (hPu p :: L) ↔ p ∧ Hp k w L := by
  constructor
  · rintro ⟨hk, hs, hh⟩
    cases hh with
    | cons ha hsub hd hr => exact ⟨ha.1, hk, _, hr⟩
  · rintro ⟨hp, hk, hs, hh⟩
    exact ⟨hk, _, .cons ⟨hp, rfl⟩ (Sub.pe w) (fun g _ => Dj.pe g) hh⟩

theorem hp_star2 {k : Ko} {w : World} {A B : HP} {L : List HP} : Hp k w (hS2 A B :: L) ↔ Hp k w (A :: B :: L) := by
  constructor
  · rintro ⟨hk, hs, hh⟩
    cases hh with
    | cons ha hsub hd hr =>
      obtain ⟨g, g', h1, h2, h3, rfl⟩ := ha
      obtain ⟨s1, s2⟩ := sub_of_un hsub h3
      refine ⟨hk, _, .cons h1 s1 ?_ (.cons h2 s2 (fun x hx => (dj_of_un_l (hd x hx) h3).2) hr)⟩
      intro x hx
      rcases List.mem_cons.1 hx with rfl | hx
      · exact h3
      · exact (dj_of_un_l (hd x hx) h3).1
  · rintro ⟨hk, hs, hh⟩
    cases hh with
    | cons h1 s1 d1 hr =>
      cases hr with
      | cons h2 s2 d2 hr =>
        exact ⟨hk, _, .cons ⟨_, _, h1, h2, d1 _ List.mem_cons_self, rfl⟩ (sub_un s1 s2) (fun x hx => dj_un_l (d1 x (List.mem_cons_of_mem _ hx)) (d2 x hx)) hr⟩

theorem hp_star0 {k : Ko} {w : World} {L : List HP} : Hp k w (hS [] :: L) ↔ Hp k w L := by
  have e : hS [] = hPu True := by funext h; simp [hS, hPu]
  rw [e, hp_pure]
  exact ⟨fun h => h.2, fun h => ⟨trivial, h⟩⟩
theorem hp_star1 {k : Ko} {w : World} {A : HP} {L : List HP} : Hp k w (hS [A] :: L) ↔ Hp k w (A :: L) := Iff.rfl
theorem hp_starC {k : Ko} {w : World} {A B : HP} {l L : List HP} : Hp k w (hS (A :: B :: l) :: L) ↔ Hp k w (A :: hS (B :: l) :: L) := hp_star2

theorem Hp.swap {k : Ko} {w : World} {A B : HP} {L : List HP} (H : Hp k w (A :: B :: L)) : Hp k w (B :: A :: L) := H.perm (.swap _ _ _)
theorem Hp.cons {k : Ko} {w : World} {A : HP} {L L' : List HP} (H : Hp k w (A :: L)) (p : L.Perm L') : Hp k w (A :: L') := H.perm (.cons _ p)

theorem hp_star {k : Ko} {w : World} : ∀ {l L : List HP}, Hp k w (hS l :: L) ↔ Hp k w (l ++ L)
  | [], L => hp_star0
  | [A], L => Iff.rfl
  | A :: B :: l, L => by
    rw [hp_starC]
    constructor
    · intro h
      have h1 := (hp_star (l := B :: l) (L := A :: L)).1 h.swap
      refine h1.perm ?_
      exact List.perm_middle
    · intro h
      have h1 : Hp k w ((B :: l) ++ (A :: L)) := h.perm (List.perm_middle (l₁ := B :: l)).symm
      exact ((hp_star (l := B :: l) (L := A :: L)).2 h1).swap

/-! ### Steps -/
theorem Hp.ko {k : Ko} {w : World} {L : List HP} (H : Hp k w L) : Kon k w := H.1

theorem Hs.move {w w' : World} (h : ∀ (x : PH), Sub x w → Sub x w') : ∀ {L : List HP} {hs : List PH}, Hs w L hs → Hs w' L hs
  | _, _, .nil => .nil
  | _, _, .cons ha hsub hd hr => .cons ha (h _ hsub) hd (hr.move h)

theorem sub_below {w w' : World} (h : Below w.heap.size w w') {x : PH} (s : Sub x w) : Sub x w' := fun b o e => by
  rw [h.block b (s.lt (by rw [e]; simp))]
  exact s b o e

theorem kon_below {k : Ko} {B : Nat} {w w' : World} (h : Below B w w') (hk : Kon k w) : Kon k w' := ⟨h.os.trans hk.1, h.tape.trans hk.2.1, h.output.trans hk.2.2⟩

theorem Hp.below {k : Ko} {w w' : World} {L : List HP} (H : Hp k w L) (h : Below w.heap.size w w') : Hp k w' L :=
  ⟨kon_below h H.1, let ⟨hs, hh⟩ := H.2; ⟨hs, hh.move fun _ s => sub_below h s⟩⟩

theorem Sat.below {w w' : World} {A : HP} (H : Sat w A) (h : Below w.heap.size w w') : Sat w' A := let ⟨x, a, s⟩ := H; ⟨x, a, sub_below h s⟩

theorem Hp.drew {k : Ko} {w : World} {L : List HP} (H : Hp k w L) : Hp k w.drew L := H.below ((Below.refl _ _).drew)

theorem Hp.new {k : Ko} {w : World} {L : List HP} (H : Hp k w L) (o : Obj) : Hp k (w.alloc o) (pt w.heap.size o :: L) := by
  have hb : Below w.heap.size w (w.alloc o) := (Below.refl _ _).alloc (Nat.le_refl _) o
  obtain ⟨hk, hs, hh⟩ := H
  refine ⟨kon_below hb hk, _, .cons rfl ?_ ?_ (hh.move fun _ s => sub_below hb s)⟩
  · intro b o' e
    simp only [one] at e
    split at e
    · rename_i hb'; subst hb'; cases e; exact heap_alloc_new w o
    · cases e
  · intro g hg
    have hsub : ∀ {L : List HP} {hs : List PH}, Hs w L hs → ∀ g ∈ hs, Sub g w := by
      intro L hs hh
      induction hh with
      | nil => intro g hg; cases hg
      | cons _ hs _ _ ih =>
        intro g hg
        rcases List.mem_cons.1 hg with rfl | hg
        · exact hs
        · exact ih g hg
    intro b
    by_cases hb' : b = w.heap.size
    · right
      cases hgb : g b with
      | none => rfl
      | some o' =>
        have := (hsub hh g hg).lt (b := b) (by rw [hgb]; simp)
        omega
    · left; simp [one, hb']

def World.setB (w : World) (b : Nat) (o : Obj) : World := { w with heap := w.heap.setIfInBounds b o }

theorem Hp.get {k : Ko} {w : World} {b : Nat} {o : Obj} {L : List HP} (H : Hp k w (pt b o :: L)) : w.heap[b]? = some o := by
  obtain ⟨h, rfl, s⟩ := H.sat
  exact s b o (by simp [one])

theorem Hp.upd {k : Ko} {w : World} {b : Nat} {o : Obj} {L : List HP} (H : Hp k w (pt b o :: L)) (o' : Obj) : Hp k (World.setB w b o') (pt b o' :: L) := by
  have hget := H.get
  obtain ⟨hk, hs, hh⟩ := H
  cases hh with
  | cons ha hsub hd hr =>
    cases ha
    have hlt : b < w.heap.size := hsub.lt (b := b) (by simp [one])
    rename_i hs
    have s0 : Sub (one b o') (World.setB w b o') := by
      intro x o2 e
      simp only [one] at e
      split at e
      · rename_i hx; subst hx; cases e; simp [World.setB, Array.getElem?_setIfInBounds_self_of_lt hlt]
      · cases e
    have d0 : ∀ g ∈ hs, Dj (one b o') g := by
      intro g hg x
      rcases hd g hg x with e | e
      · left; simp only [one] at e ⊢; split at e <;> simp_all
      · exact .inr e
    have key : ∀ {L : List HP} {hs : List PH}, Hs w L hs → (∀ g ∈ hs, Dj (one b o) g) → Hs (World.setB w b o') L hs := by
      intro L hs hh
      induction hh with
      | nil => intro _; exact .nil
      | cons ha hs' hd' _ ih =>
        intro hdj
        refine .cons ha ?_ hd' (ih fun g hg => hdj g (List.mem_cons_of_mem _ hg))
        intro x o2 e
        have hne : x ≠ b := by
          intro hx
          subst hx
          rcases hdj _ List.mem_cons_self x with e' | e'
          · simp [one] at e'
          · rw [e] at e'; cases e'
        simp only [World.setB]
        rw [Array.getElem?_setIfInBounds_ne (Ne.symm hne)]
        exact hs' x o2 e
    exact ⟨hk, _, .cons rfl s0 d0 (key hr hd)⟩

/-! ### The whole of an older heap, as one part -/
def base (w0 : World) : HP := fun h => h = fun b => w0.heap[b]?

theorem Hp.start (w : World) : Hp (Cv.ko w) w [base w] := ⟨⟨rfl, rfl, rfl⟩, _, .cons rfl (fun _ _ e => e) (fun g hg => by cases hg) .nil⟩

theorem Hp.out0 {w0 w : World} {L : List HP} (H : Hp (Cv.ko w0) w (base w0 :: L)) : Below w0.heap.size w0 w := by
  obtain ⟨h, rfl, s⟩ := H.sat
  obtain ⟨h1, h2, h3⟩ := H.1
  have hb : ∀ b, b < w0.heap.size → w.heap[b]? = w0.heap[b]? := fun b hb => by
    have : w0.heap[b]? = some w0.heap[b] := Array.getElem?_eq_getElem hb
    rw [this]; exact s b _ this
  refine ⟨h1, h2, h3, ?_, hb⟩
  rcases Nat.lt_or_ge w.heap.size w0.heap.size with hlt | hge
  · have := hb w.heap.size hlt
    rw [Array.getElem?_eq_none (Nat.le_refl _), Array.getElem?_eq_getElem hlt] at this
    cases this
  · exact hge

theorem Hp.old {w0 w : World} {k : Ko} {A : HP} {L : List HP} (H : Hp k w (base w0 :: L)) (h : Sat w0 A) : Sat w A := by
  obtain ⟨g, rfl, s⟩ := H.sat
  obtain ⟨x, ha, hs⟩ := h
  exact ⟨x, ha, fun b o e => s b o (hs b o e)⟩

/-- Behind a call that leaves old memory as it was, new memory holds this. -/
def Out (w w' : World) (A : HP) : Prop := Below w.heap.size w w' ∧ ∃ h, A h ∧ Sub h w' ∧ ∀ b, h b ≠ none → w.heap.size ≤ b

theorem Hp.out {w0 w : World} {A : HP} {L : List HP} (H : Hp (Cv.ko w0) w (A :: base w0 :: L)) : Out w0 w A := by
  have hB := H.drop.out0
  obtain ⟨hk, hs, hh⟩ := H
  cases hh with
  | cons ha hsub hd hr =>
    cases hr with
    | cons hb _ _ _ =>
      refine ⟨hB, _, ha, hsub, fun b hb' => ?_⟩
      rcases hd _ List.mem_cons_self b with e | e
      · exact absurd e hb'
      · cases hb
        rcases Nat.lt_or_ge b w0.heap.size with h | h
        · simp [Array.getElem?_eq_getElem h] at e
        · exact h

theorem Hp.add {k : Ko} {w w' : World} {A : HP} {L : List HP} (H : Hp k w L) (h : Out w w' A) : Hp k w' (A :: L) := by
  obtain ⟨hb, x, ha, hs, hn⟩ := h
  have H' := H.below hb
  obtain ⟨hk, hs0, hh⟩ := H
  refine ⟨H'.1, _, .cons ha hs ?_ (hh.move fun _ s => sub_below hb s)⟩
  have hsub : ∀ {L : List HP} {hs : List PH}, Hs w L hs → ∀ g ∈ hs, Sub g w := by
    intro L hs hh
    induction hh with
    | nil => intro g hg; cases hg
    | cons _ hs _ _ ih =>
        intro g hg
        rcases List.mem_cons.1 hg with rfl | hg
        · exact hs
        · exact ih g hg
  intro g hg b
  cases hx : x b with
  | none => exact .inl rfl
  | some o =>
    right
    cases hgb : g b with
    | none => rfl
    | some o' =>
      have h1 := hn b (by rw [hx]; simp)
      have h2 := (hsub hh g hg).lt (b := b) (by rw [hgb]; simp)
      omega

theorem Out.below {w w' : World} {A : HP} (h : Out w w' A) : Below w.heap.size w w' := h.1
theorem Out.imp {w w' : World} {A B : HP} (h : Out w w' A) (f : ∀ x, A x → B x) : Out w w' B := let ⟨a, x, b, c, d⟩ := h; ⟨a, x, f x b, c, d⟩

/-! ### Nodes -/
theorem NewN.mk {k : Ko} {w : World} {L : List HP} {o : Obj} {K : Nat → World → Prop} (H : Hp k w L) (h : ∀ b w', Hp k w' (pt b o :: L) → K b w') : NewN w o K := by
  rintro b w' rfl rfl
  exact h _ _ (H.new o)

theorem DrewN.mk {k : Ko} {w : World} {L : List HP} {K : World → Prop} (H : Hp k w L) (h : ∀ w', Hp k w' L → K w') : DrewN w K := by
  rintro w' rfl
  exact h _ H.drew

end Cv
