/- The calculus, fifth part: code, loops, calls. No condition. -/
import Derived.Test.YtlgpgmafmgmfdaaCvD
import Derived.Deep.LoopGhost
set_option linter.unusedSimpArgs false
set_option linter.unusedVariables false
namespace Cv
open Go

/-- What is told of a loop: what its changing slots hold, by an index; and which slots it leaves alone. -/
structure LAnn where
  ι : Type
  chg : ι → List (Nat × Value)
  fix : List Nat

def satV : List (Nat × Value) → Env → Prop
  | [], _ => True
  | [p], ρ => ρ p.1 = p.2
  | p :: l, ρ => ρ p.1 = p.2 ∧ satV l ρ

theorem satV_cons {p : Nat × Value} {l : List (Nat × Value)} {ρ : Env} : satV (p :: l) ρ ↔ ρ p.1 = p.2 ∧ satV l ρ := by
  cases l <;> simp [satV]

def overV : List (Nat × Value) → Env → Env
  | [], ρ => ρ
  | p :: l, ρ => put (overV l ρ) (some p.1) p.2

theorem overV_sat : ∀ {l : List (Nat × Value)} {ρ : Env}, satV l ρ → overV l ρ = ρ
  | [], _, _ => rfl
  | p :: l, ρ, h => by
    have h := satV_cons.1 h
    simp only [overV]
    rw [overV_sat h.2]
    exact put_same h.1

def memN (s : Nat) : List Nat → Bool
  | [] => false
  | x :: l => bif Nat.beq s x then true else memN s l

theorem memN_iff {s : Nat} : ∀ {l : List Nat}, memN s l = true ↔ s ∈ l
  | [] => by simp [memN]
  | x :: l => by
    simp only [memN]
    cases hb : Nat.beq s x
    · have hne : s ≠ x := fun e => by subst e; simp at hb
      simp [memN_iff, hne]
    · have := Nat.eq_of_beq_eq_true hb
      simp [this]

def keepV (fix : List Nat) (ρ j : Env) : Env := fun s => bif memN s fix then ρ s else j s

theorem keepV_same {fix : List Nat} {ρ j : Env} (h : ∀ s ∈ fix, j s = ρ s) : keepV fix ρ j = j := by
  funext s
  simp only [keepV]
  cases hb : memN s fix
  · rfl
  · exact (h s (memN_iff.1 hb)).symm

/-- The slots that code may write. -/
def asg : Code → List Nat
  | .region _ ops _ => ops.toList.filterMap (·.dst)
  | .seq a b => asg a ++ asg b
  | .cond _ a b => asg a ++ asg b
  | .block _ a => asg a
  | .loop a => asg a
  | _ => []

def nL : Code → Nat
  | .seq a b => nL a + nL b
  | .cond _ a b => nL a + nL b
  | .block _ a => nL a
  | .loop a => nL a + 1
  | _ => 0

def thenV (next : Env → World → Prop) (Q : Exit → Env → World → Prop) : Exit → Env → World → Prop
  | .normal, ρ, w => next ρ w
  | e, ρ, w => Q e ρ w

def blockV (id : Nat) (Q : Exit → Env → World → Prop) : Exit → Env → World → Prop
  | .exit id', ρ, w => bif Nat.beq id' id then Q .normal ρ w else Q (.exit id') ρ w
  | e, ρ, w => Q e ρ w

def cnd (t : Bool) (A B : Prop) : Prop :=
  match t with
  | true => A
  | false => B

theorem cnd.mk {t : Bool} {A B : Prop} (h1 : t = true → A) (h2 : t = false → B) : cnd t A B := by
  cases t
  · exact h2 rfl
  · exact h1 rfl

def DrewN (w : World) (K : World → Prop) : Prop := ∀ w', w' = w.drew → K w'

def cwp (P : Program) : List LAnn → Code → (Exit → Env → World → Prop) → Env → World → Prop
  | _, .skip, Q, ρ, w => Q .normal ρ w
  | an, .seq a b, Q, ρ, w => cwp P (an.take (nL a)) a (thenV (fun ρ w => cwp P (an.drop (nL a)) b Q ρ w) Q) ρ w
  | an, .cond c a b, Q, ρ, w =>
    match ev ρ c with
    | .bool t => cnd t (cwp P (an.take (nL a)) a Q ρ w) (cwp P (an.drop (nL a)) b Q ρ w)
    | _ => False
  | an, .block id a, Q, ρ, w => cwp P an a (blockV id Q) ρ w
  | an, .loop a, Q, ρ, w =>
    match an with
    | [] => False
    | x :: rest => ∃ (I : x.ι → World → Prop) (μ : x.ι → World → Nat), (∃ i0, satV (x.chg i0) ρ ∧ I i0 w) ∧
        ∀ (j : Env) (i : x.ι) (w1 : World), I i w1 → cwp P rest a (thenV (fun ρ' w' => ∃ i', satV (x.chg i') ρ' ∧ I i' w' ∧ μ i' w' < μ i w1) Q) (overV (x.chg i) (keepV x.fix ρ j)) w1
  | _, .exit id, Q, ρ, w => Q (.exit id) ρ w
  | _, .ret, Q, ρ, w => Q .ret ρ w
  | _, .region _ ops d, Q, ρ, w => bif d then DrewN w fun w => drawV P ops.toList (befL ops.toList []) ops.toList.length (Array.replicate ops.toList.length false) [] ρ w (Q .normal)
      else copsV P ops.toList ops.toList ρ w (Q .normal)
  | _, _, _, _, _ => False

/-- What a computation is asked of code and of what is told of its loops. -/
def okC (n : Nat) : Code → Bool
  | .region _ ops d => (ops.toList.all fun o => match o.dst with | none => true | some d => Nat.blt d n) && (bif d then drawOk ops.toList (befL ops.toList []) else true)
  | .seq a b => okC n a && okC n b
  | .cond _ a b => okC n a && okC n b
  | .block _ a => okC n a
  | .loop a => okC n a
  | _ => true

def okF : List LAnn → Code → Bool
  | an, .seq a b => okF (an.take (nL a)) a && okF (an.drop (nL a)) b
  | an, .cond _ a b => okF (an.take (nL a)) a && okF (an.drop (nL a)) b
  | an, .block _ a => okF an a
  | an, .loop a => match an with
    | [] => false
    | x :: rest => (x.fix.all fun s => !memN s (asg a)) && okF rest a
  | _, _ => true

theorem dstOk_of {n : Nat} {A : Nat → Bool} {ops : List Oper} (h : (ops.all fun o => match o.dst with | none => true | some d => Nat.blt d n) = true) (hA : ∀ s ∈ ops.filterMap (·.dst), A s = true) : DstOk n A ops := by
  intro o ho d hd
  have := List.all_eq_true.1 h o ho
  rw [hd] at this
  exact ⟨by simpa [Nat.blt_eq] using this, hA d (List.mem_filterMap.2 ⟨o, ho, hd⟩)⟩

def liftQ (n : Nat) (A : Nat → Bool) (e0 : Env) (Q : Exit → Env → World → Prop) : Exit → Act → World → Prop := fun e a w => Good n A e0 a ∧ Q e (envOf a) w

theorem cwp_sound {P : Program} (hm : P.follows .mixedOrders = true) {n : Nat} : ∀ (c : Code) (an : List LAnn) (Q : Exit → Env → World → Prop) (A : Nat → Bool) (e0 : Env) (a : Act) (w : World),
    okC n c = true → okF an c = true → (∀ s ∈ asg c, A s = true) → Good n A e0 a → cwp P an c Q (envOf a) w → c.wp P (liftQ n A e0 Q) a w := by
  intro c
  induction c with
  | skip => intro an Q A e0 a w _ _ _ hg h; exact wp_skip ⟨hg, h⟩
  | region id ops d =>
    intro an Q A e0 a w hc _ hA hg h
    simp only [okC, Bool.and_eq_true] at hc
    have hdst := dstOk_of (A := A) hc.1 hA
    cases d
    · refine wp_region_list ?_
      exact cops_sound (Q := liftQ n A e0 Q) (K := Q .normal) (fun a w hg h => ⟨hg, h⟩) ops.toList a w hdst hg h
    · refine wp_region_any hm ?_
      have h' := h _ rfl
      have hok : drawOk ops.toList (befL ops.toList []) = true := hc.2
      refine wpAny_of_anyM (Q := fun a w => liftQ n A e0 Q .normal a w) (fun _ _ h => h) ops.size _ _ _ (M := []) (bf := befL ops.toList []) ?_
      have hclosed : Closed ops.toList (IsListed (Array.replicate ops.toList.length false)) := by
        intro i o ho hi
        exfalso
        unfold IsListed at hi
        simp [Array.getD_eq_getD_getElem?] at hi
        rw [Array.getElem?_replicate] at hi
        split at hi <;> simp at hi
      have := draw_sound (P := P) (K := Q .normal) (Q := fun a w => liftQ n A e0 Q .normal a w) hok hdst (fun a w hg h => ⟨hg, h⟩) ops.toList.length _ [] a _ hclosed (fun m hm => by cases hm) hg h'
      simpa using this
  | seq x y ihx ihy =>
    intro an Q A e0 a w hc hf hA hg h
    simp only [okC, okF, Bool.and_eq_true, asg, List.mem_append] at hc hf hA
    refine wp_seq (wp_mono (ihx _ _ A e0 a w hc.1 hf.1 (fun s hs => hA s (.inl hs)) hg h) ?_)
    rintro e a' w' ⟨hg', h'⟩
    cases e <;> first | exact ihy _ _ A e0 a' w' hc.2 hf.2 (fun s hs => hA s (.inr hs)) hg' h' | exact ⟨hg', h'⟩
  | cond c x y ihx ihy =>
    intro an Q A e0 a w hc hf hA hg h
    simp only [okC, okF, Bool.and_eq_true, asg, List.mem_append] at hc hf hA
    simp only [cwp] at h
    rw [ev_envOf] at h
    split at h
    · rename_i t ht
      refine wp_cond_split ht (fun e => ?_) (fun e => ?_)
      · subst e; exact ihx _ _ A e0 a w hc.1 hf.1 (fun s hs => hA s (.inl hs)) hg h
      · subst e; exact ihy _ _ A e0 a w hc.2 hf.2 (fun s hs => hA s (.inr hs)) hg h
    · exact h.elim
  | block id x ih =>
    intro an Q A e0 a w hc hf hA hg h
    refine wp_block (wp_mono (ih an _ A e0 a w hc hf hA hg h) ?_)
    rintro e a' w' ⟨hg', h'⟩
    cases e <;> first | exact ⟨hg', h'⟩ | skip
    rename_i id'
    simp only [Exit.inBlock]
    simp only [blockV] at h'
    split
    · rename_i heq; subst heq; rw [Nat.beq_refl] at h'; exact ⟨hg', h'⟩
    · rename_i hne
      have hb : Nat.beq id' id = false := by
        cases hb : Nat.beq id' id with
        | false => rfl
        | true => exact absurd (Nat.eq_of_beq_eq_true hb) hne
      rw [hb] at h'
      exact ⟨hg', h'⟩
  | loop x ih =>
    intro an Q A e0 a w hc hf hA hg h
    cases an with
    | nil => exact h.elim
    | cons an rest =>
      simp only [okF, Bool.and_eq_true] at hf
      obtain ⟨I, μ, ⟨i0, hs0, hi0⟩, hround⟩ := h
      refine wp_loop_ghost (fun m a' w' => Good n A e0 a' ∧ (∀ s ∈ an.fix, envOf a' s = envOf a s) ∧ ∃ i, satV (an.chg i) (envOf a') ∧ I i w' ∧ μ i w' = m) (μ i0 w) ⟨hg, fun _ _ => rfl, i0, hs0, hi0, rfl⟩ ?_
      rintro m a' w' ⟨hg', hfix, i, hsat, hI, rfl⟩
      have h1 := hround (envOf a') i w' hI
      rw [keepV_same hfix, overV_sat hsat] at h1
      have hgB : Good n (fun s => A s && memN s (asg x)) (envOf a') a' := ⟨hg'.size, hg'.defers, fun _ _ => rfl⟩
      refine wp_mono (ih rest _ (fun s => A s && memN s (asg x)) (envOf a') a' w' hc hf.2 (fun s hs => by rw [hA s hs, memN_iff.2 hs]; rfl) hgB h1) ?_
      rintro e a2 w2 ⟨hg2, h2⟩
      have hg3 : Good n A e0 a2 := ⟨hg2.size, hg2.defers, fun s hs => by rw [hg2.same s (by simp [hs]), hg'.same s hs]⟩
      cases e <;> first | exact ⟨hg3, h2⟩ | skip
      obtain ⟨i', hs', hI', hlt⟩ := h2
      refine ⟨_, hlt, hg3, fun s hs => ?_, i', hs', hI', rfl⟩
      have := List.all_eq_true.1 hf.1 s hs
      rw [hg2.same s (by simp at this; simp [this]), hfix s hs]
  | exit id => intro an Q A e0 a w _ _ _ hg h; exact wp_exit ⟨hg, h⟩
  | ret => intro an Q A e0 a w _ _ _ hg h; exact wp_ret ⟨hg, h⟩
  | rangeFunc f ps x y ihx ihy => intro an Q A e0 a w _ _ _ hg h; exact h.elim
  | scope x ih => intro an Q A e0 a w _ _ _ hg h; exact h.elim
  | label l => intro an Q A e0 a w _ _ _ hg h; exact h.elim
  | goto l => intro an Q A e0 a w _ _ _ hg h; exact h.elim
  | refuse s => intro an Q A e0 a w _ _ _ hg h; exact h.elim

end Cv
