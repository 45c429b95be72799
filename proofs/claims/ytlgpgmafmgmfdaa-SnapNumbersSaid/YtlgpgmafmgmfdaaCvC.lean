/- The calculus, third part: a region whose order is drawn. One walk, each quiet operation as early as may be, serves every order, if what was looked at stays as it was. No condition. -/
import Derived.Test.YtlgpgmafmgmfdaaCvB
set_option linter.unusedSimpArgs false
set_option linter.unusedVariables false
namespace Cv
open Go

/-- For each operation, as bits: all operations that come ahead of it, directly or through others. -/
def maskOf (acc : List Nat) (o : Oper) : Nat :=
  o.after.toList.foldl (fun s e => bif Region.binds .any e then s ||| 2 ^ e.on ||| acc.getD e.on 0 else s) 0

def befL : List Oper → List Nat → List Nat
  | [], acc => acc
  | o :: rest, acc => befL rest (acc ++ [maskOf acc o])

def Bef (bf : List Nat) (i r : Nat) : Bool := (bf.getD i 0).testBit r

def Closed (ops : List Oper) (L : Nat → Prop) : Prop := ∀ i o, ops[i]? = some o → L i → ∀ e ∈ o.after, Region.binds .any e = true → L e.on

theorem mask_bits {ops : List Oper} {acc : List Nat} {L : Nat → Prop} (hacc : ∀ k, L k → ∀ r, (acc.getD k 0).testBit r = true → L r) :
    ∀ (l : List Edge) (s : Nat), (∀ r, s.testBit r = true → L r) → (∀ e ∈ l, Region.binds .any e = true → L e.on) →
      ∀ r, (l.foldl (fun s e => bif Region.binds .any e then s ||| 2 ^ e.on ||| acc.getD e.on 0 else s) s).testBit r = true → L r
  | [], s, hs, _, r, h => hs r h
  | e :: l, s, hs, hl, r, h => by
    refine mask_bits (ops := ops) hacc l _ ?_ (fun e' he' => hl e' (List.mem_cons_of_mem _ he')) r h
    intro r hr
    dsimp only at hr
    cases hb : Region.binds .any e
    · rw [hb] at hr; exact hs r hr
    · have hon := hl e (by simp) hb
      rw [hb] at hr
      simp only [cond_true, Nat.testBit_or, Nat.testBit_two_pow, Bool.or_eq_true, decide_eq_true_eq] at hr
      rcases hr with (hr | hr) | hr
      · exact hs r hr
      · exact hr ▸ hon
      · exact hacc _ hon r hr

theorem befL_bits {ops : List Oper} {L : Nat → Prop} (hc : Closed ops L) : ∀ (l : List Oper) (acc : List Nat), (∀ j, l[j]? = ops[acc.length + j]?) →
    (∀ k o, k < acc.length → ops[k]? = some o → (∀ e ∈ o.after, Region.binds .any e = true → L e.on) → ∀ r, (acc.getD k 0).testBit r = true → L r) →
    ∀ k o, ops[k]? = some o → (∀ e ∈ o.after, Region.binds .any e = true → L e.on) → ∀ r, ((befL l acc).getD k 0).testBit r = true → L r
  | [], acc, hl, hacc, k, o, ho, hd, r, hr => by
    by_cases hk : k < acc.length
    · exact hacc k o hk ho hd r hr
    · exfalso
      have := hl (k - acc.length)
      rw [show acc.length + (k - acc.length) = k by omega, ho] at this
      simp at this
  | o :: l, acc, hl, hacc, k, o', ho', hd, r, hr => by
    refine befL_bits hc l (acc ++ [maskOf acc o]) ?_ ?_ k o' ho' hd r hr
    · intro j
      have := hl (j + 1)
      simp only [List.length_append, List.length_cons, List.length_nil]
      rw [show acc.length + (0 + 1) + j = acc.length + (j + 1) by omega]
      simpa using this
    · intro k2 o2 hk2 ho2 hd2 r2 hr2
      have hlook : ∀ k, L k → ∀ r, (acc.getD k 0).testBit r = true → L r := by
        intro k3 hL r3 h3
        by_cases hk3 : k3 < acc.length
        · cases ho3 : ops[k3]? with
          | none =>
            exfalso
            have := hl 0
            simp only [Nat.add_zero] at this
            rw [List.getElem?_eq_none_iff] at ho3
            have h4 : acc.length < ops.length := by
              rcases Nat.lt_or_ge acc.length ops.length with h | h
              · exact h
              · rw [List.getElem?_eq_none h] at this; simp at this
            omega
          | some o3 => exact hacc k3 o3 hk3 ho3 (hc k3 o3 ho3 hL) r3 h3
        · simp [List.getD_eq_getElem?_getD, List.getElem?_eq_none (Nat.not_lt.1 hk3)] at h3
      by_cases hk : k2 < acc.length
      · rw [List.getD_eq_getElem?_getD, List.getElem?_append_left hk, ← List.getD_eq_getElem?_getD] at hr2
        exact hacc k2 o2 hk ho2 hd2 r2 hr2
      · have hk' : k2 = acc.length := by simp at hk2; omega
        subst hk'
        rw [List.getD_eq_getElem?_getD, List.getElem?_append_right (Nat.le_refl _)] at hr2
        simp only [Nat.sub_self, List.getElem?_cons_zero, Option.getD_some] at hr2
        have h0 := hl 0
        simp only [List.getElem?_cons_zero, Nat.add_zero] at h0
        rw [ho2] at h0
        cases h0
        exact mask_bits (ops := ops) hlook _ 0 (by simp) (fun e he hb => hd2 e (by simpa using he) hb) r2 hr2

/-- What comes ahead of an operation that may come up now has come up. -/
theorem bef_listed {ops : List Oper} {L : Nat → Prop} (hc : Closed ops L) {i : Nat} {o : Oper} (ho : ops[i]? = some o) (hd : ∀ e ∈ o.after, Region.binds .any e = true → L e.on)
    {r : Nat} (h : Bef (befL ops []) i r = true) : L r :=
  befL_bits hc ops [] (by simp) (by simp) i o ho hd r h

/-! ### Watched values: a quiet operation may be done early, if what it says stays so till its own turn -/

@[reducible] def Mon := Nat × (World → Prop)

def keepM (bf : List Nat) (i : Nat) (M : List Mon) : List Mon := M.filter fun m => !Bef bf i m.1

def AllM (M : List Mon) (w : World) : Prop := ∀ m ∈ M, m.2 w

def upOp (P : Program) (ops : Array Oper) (i : Nat) (K : Act → World → Prop) (a : Act) (w : World) : Prop :=
  match ops[i]? with
  | none => K a w
  | some o => if Region.wanted o (yielded ops a.tmps) then Does P (execOp a.eval o) w (fun v w' => K (a.put o.dst v) w') else K (a.put o.dst undef) w

theorem Does.mono {P : Program} {s : Sem Next} {w : World} {K K' : Value → World → Prop} (h : Does P s w K) (hk : ∀ v w', K v w' → K' v w') : Does P s w K' := by
  unfold Does at *
  split at h
  · exact hk _ _ h
  · exact hk _ _ h
  · exact h.mono fun e w'' ⟨v, he, h⟩ => ⟨v, he, hk _ _ h⟩
  · exact h

theorem upOp_mono {P : Program} {ops : Array Oper} {i : Nat} {K K' : Act → World → Prop} {a : Act} {w : World} (h : upOp P ops i K a w) (hk : ∀ a w, K a w → K' a w) : upOp P ops i K' a w := by
  unfold upOp at *
  split
  · rename_i ho; simp only [ho] at h; exact hk _ _ h
  · rename_i o ho
    simp only [ho] at h
    split
    · rename_i hw; rw [if_pos hw] at h; exact h.mono fun v w' => hk _ _
    · rename_i hw; rw [if_neg hw] at h; exact hk _ _ h

def anyM (P : Program) (ops : Array Oper) (bf : List Nat) (Q : Act → World → Prop) : Nat → List Mon → Array Bool → Act → World → Prop
  | 0, _, listed, a, w => Region.ready .any ops listed = [] ∧ Q a w
  | fuel + 1, M, listed, a, w =>
    (Region.ready .any ops listed = [] → Q a w) ∧
    ∀ i ∈ Region.ready .any ops listed, upOp P ops i (fun a' w' => AllM (keepM bf i M) w' ∧ anyM P ops bf Q fuel (keepM bf i M) (listed.setIfInBounds i true) a' w') a w

theorem keepM_sub {bf : List Nat} {i : Nat} {M M' : List Mon} (h : ∀ m ∈ M', m ∈ M) : ∀ m ∈ keepM bf i M', m ∈ keepM bf i M := by
  intro m hm
  simp only [keepM, List.mem_filter] at hm ⊢
  exact ⟨h m hm.1, hm.2⟩

theorem anyM_sub {P : Program} {ops : Array Oper} {bf : List Nat} {Q : Act → World → Prop} : ∀ (fuel : Nat) {M M' : List Mon} (listed : Array Bool) (a : Act) (w : World),
    (∀ m ∈ M', m ∈ M) → anyM P ops bf Q fuel M listed a w → anyM P ops bf Q fuel M' listed a w
  | 0, _, _, _, _, _, _, h => h
  | fuel + 1, M, M', listed, a, w, hs, h => ⟨h.1, fun i hi => upOp_mono (h.2 i hi) fun a' w' hh =>
      ⟨fun m hm => hh.1 m (keepM_sub hs m hm), anyM_sub fuel _ _ _ (keepM_sub hs) hh.2⟩⟩

theorem wpAny_of_anyM {P : Program} {ops : Array Oper} {bf : List Nat} {Q : Act → World → Prop} {Q' : Exit → Act → World → Prop} (hQ : ∀ a w, Q a w → Q' .normal a w) :
    ∀ (fuel : Nat) {M : List Mon} (listed : Array Bool) (a : Act) (w : World), anyM P ops bf Q fuel M listed a w → wpAny P .any ops Q' fuel listed a w
  | 0, _, _, _, _, h => ⟨h.1, hQ _ _ h.2⟩
  | fuel + 1, M, listed, a, w, h => ⟨fun h0 => hQ _ _ (h.1 h0), fun i hi => by
      have := h.2 i hi
      unfold upOp at this
      unfold wpOp
      split
      · rename_i ho; simp only [ho] at this; exact wpAny_of_anyM hQ fuel _ _ _ this.2
      · rename_i o ho
        simp only [ho] at this
        split
        · rename_i hw; rw [if_pos hw] at this; exact .inl (wp_of_does (this.mono fun v w' hh => wpAny_of_anyM hQ fuel _ _ _ hh.2))
        · rename_i hw; rw [if_neg hw] at this; exact wpAny_of_anyM hQ fuel _ _ _ this.2⟩

/-- In state 'a', in the world 'w', operation 'o' says 'v', and leaves the world. -/
def Says (P : Program) (ops : Array Oper) (o : Oper) (v : Value) (a : Act) (w : World) : Prop :=
  (Region.wanted o (yielded ops a.tmps) = true ∧ (execOp a.eval o).run P w = .ok (.value v) w) ∨ (Region.wanted o (yielded ops a.tmps) = false ∧ v = undef)

theorem says_upOp {P : Program} {ops : Array Oper} {i : Nat} {o : Oper} {v : Value} {a : Act} {w : World} {K : Act → World → Prop} (hi : ops[i]? = some o) (h : Says P ops o v a w) (hk : K (a.put o.dst v) w) : upOp P ops i K a w := by
  unfold upOp
  simp only [hi]
  rcases h with ⟨hw, hr⟩ | ⟨hw, rfl⟩
  · rw [if_pos hw]; exact does_of_value hr hk
  · rw [if_neg (by rw [hw]; simp)]; exact hk

theorem listed_lt {listed : Array Bool} {i : Nat} (h : listed.getD i true = false) : i < listed.size := by
  rcases Nat.lt_or_ge i listed.size with h' | h'
  · exact h'
  · simp [Array.getD_eq_getD_getElem?, Array.getElem?_eq_none h'] at h

def IsListed (listed : Array Bool) (i : Nat) : Prop := listed.getD i false = true

theorem isListed_set {listed : Array Bool} {i j : Nat} (h : IsListed listed j) : IsListed (listed.setIfInBounds i true) j := by
  unfold IsListed at *
  by_cases hij : i = j
  · subst hij
    have : i < listed.size := by
      rcases Nat.lt_or_ge i listed.size with h' | h'
      · exact h'
      · simp [Array.getD_eq_getD_getElem?, Array.getElem?_eq_none h'] at h
    simp [Array.getD_eq_getD_getElem?, Array.getElem?_setIfInBounds_self_of_lt this]
  · simpa [Array.getD_eq_getD_getElem?, Array.getElem?_setIfInBounds_ne hij] using h

theorem isListed_set_inv {listed : Array Bool} {i j : Nat} (h : IsListed (listed.setIfInBounds i true) j) : j = i ∨ IsListed listed j := by
  unfold IsListed at *
  by_cases hij : i = j
  · exact .inl hij.symm
  · right; simpa [Array.getD_eq_getD_getElem?, Array.getElem?_setIfInBounds_ne hij] using h

theorem not_listed {listed : Array Bool} {i : Nat} (h : listed.getD i true = false) : ¬ IsListed listed i := by
  unfold IsListed
  have := listed_lt h
  simp only [Array.getD_eq_getD_getElem?, Array.getElem?_eq_getElem this] at h ⊢
  simp at h ⊢
  exact h

/-- The set of what has come up is closed: with each operation all that must come ahead of it. -/
theorem closed_set {ops : List Oper} {listed : Array Bool} (hc : Closed ops (IsListed listed)) {i : Nat} (hi : i ∈ Region.ready .any ops.toArray listed) : Closed ops (IsListed (listed.setIfInBounds i true)) := by
  intro j o ho hj e he hb
  rcases isListed_set_inv hj with rfl | hj
  · obtain ⟨_, o', ho', hall⟩ := mem_ready.1 hi
    simp only [List.getElem?_toArray] at ho'
    rw [ho] at ho'
    cases ho'
    exact isListed_set (hall e he hb)
  · exact isListed_set (hc j o ho hj e he hb)

/-- Which pairs need no order: neither looks at, nor writes, where the other one writes. -/
def drawOk (ops : List Oper) (bf : List Nat) : Bool :=
  Region.noSelect ops.toArray && (List.range ops.length).all fun i => (List.range i).all fun j =>
    match ops[i]?, ops[j]? with
    | some oi, some oj => Bef bf i j || (oi.apart ops.toArray oj && oj.apart ops.toArray oi)
    | _, _ => true

theorem drawOk_spec {ops : List Oper} {bf : List Nat} (h : drawOk ops bf = true) {i j : Nat} {oi oj : Oper} (hi : ops[i]? = some oi) (hj : ops[j]? = some oj) (hne : i ≠ j)
    (h1 : Bef bf i j = false) (h2 : Bef bf j i = false) : oi.apart ops.toArray oj = true := by
  simp only [drawOk, Bool.and_eq_true, List.all_eq_true, List.mem_range] at h
  have lt : ∀ {k : Nat} {o : Oper}, ops[k]? = some o → k < ops.length := fun {k o} hk => by
    rcases Nat.lt_or_ge k ops.length with h' | h'
    · exact h'
    · rw [List.getElem?_eq_none h'] at hk; cases hk
  rcases Nat.lt_or_gt_of_ne hne with hlt | hlt
  · have := h.2 j (lt hj) i hlt
    simp only [hi, hj, h2, Bool.false_or, Bool.and_eq_true] at this
    exact this.2
  · have := h.2 i (lt hi) j hlt
    simp only [hi, hj, h1, Bool.false_or, Bool.and_eq_true] at this
    exact this.1

theorem says_put {P : Program} {ops : Array Oper} {o : Oper} {v u : Value} {a : Act} {w : World} {d : Option Tmp} (hs : ∀ cs b, o.op ≠ .select cs b) (hd : ∀ t, d = some t → t ∉ o.looksAt ops) :
    Says P ops o v (a.put d u) w ↔ Says P ops o v a w := by
  unfold Says
  rw [execOp_put o hs a d u hd, wanted_put o a d u hd]

theorem upOp_put {P : Program} {ops : Array Oper} {j : Nat} {oi oj : Oper} {v : Value} (hj : ops[j]? = some oj) (hap : oi.apart ops oj = true) (hsj : ∀ cs b, oj.op ≠ .select cs b)
    {K : Act → World → Prop} {a : Act} {w : World} (h : upOp P ops j K (a.put oi.dst v) w) :
    upOp P ops j (fun a' w' => (∃ u, a' = a.put oj.dst u) ∧ K (a'.put oi.dst v) w') a w := by
  obtain ⟨h1, h2, h3⟩ := Oper.apart_spec hap
  unfold upOp at *
  simp only [hj] at *
  rw [wanted_put oj a oi.dst v h1] at h
  split
  · rename_i hw
    rw [if_pos hw] at h
    rw [execOp_put oj hsj a oi.dst v h1] at h
    refine h.mono fun u w' hk => ⟨⟨u, rfl⟩, ?_⟩
    rw [← Act.put_comm a v u h2]; exact hk
  · rename_i hw
    rw [if_neg hw] at h
    exact ⟨⟨_, rfl⟩, by rw [← Act.put_comm a v undef h2]; exact h⟩

theorem getD_set_self {listed : Array Bool} {i : Nat} : (listed.setIfInBounds i true).getD i true = true := by
  rcases Nat.lt_or_ge i listed.size with h | h
  · simp [Array.getD_eq_getD_getElem?, Array.getElem?_setIfInBounds_self_of_lt h]
  · simp [Array.getD_eq_getD_getElem?, Array.getElem?_eq_none h, Array.size_setIfInBounds]

/-- **A quiet operation that may come up now may be taken first**, if it is watched till its own turn. -/
theorem anyM_first {P : Program} {ops : List Oper} {Q : Act → World → Prop} (hok : drawOk ops (befL ops []) = true) {r : Nat} {o : Oper} {v : Value} (hr : ops[r]? = some o) :
    ∀ (fuel : Nat) (M : List Mon) (listed : Array Bool) (a : Act) (w : World), Closed ops (IsListed listed) → r ∈ Region.ready .any ops.toArray listed →
      Says P ops.toArray o v a w → AllM M w →
      anyM P ops.toArray (befL ops []) Q fuel ((r, fun w => Says P ops.toArray o v a w) :: M) (listed.setIfInBounds r true) (a.put o.dst v) w →
      anyM P ops.toArray (befL ops []) Q (fuel + 1) M listed a w := by
  have hns : ∀ (i : Nat) (o : Oper), ops[i]? = some o → ∀ cs b, o.op ≠ .select cs b := by
    intro i o hi cs b
    simp only [drawOk, Bool.and_eq_true] at hok
    exact Region.noSelect_spec hok.1 i o cs b (by simpa using hi)
  intro fuel
  induction fuel with
  | zero =>
    intro M listed a w hc hrr hs hM H
    refine ⟨fun h => (by rw [h] at hrr; cases hrr), fun i hi => ?_⟩
    by_cases hir : i = r
    · subst hir
      refine says_upOp (by simpa using hr) hs ⟨fun m hm => hM m (by simp only [keepM, List.mem_filter] at hm; exact hm.1), ?_⟩
      exact H
    · have := ready_mono hi hir
      rw [H.1] at this
      cases this
  | succ fuel ih =>
    intro M listed a w hc hrr hs hM H
    refine ⟨fun h => (by rw [h] at hrr; cases hrr), fun i hi => ?_⟩
    by_cases hir : i = r
    · subst hir
      refine says_upOp (by simpa using hr) hs ⟨fun m hm => hM m (by simp only [keepM, List.mem_filter] at hm; exact hm.1), ?_⟩
      refine anyM_sub _ _ _ _ ?_ H
      intro m hm
      simp only [keepM, List.mem_filter] at hm
      exact List.mem_cons_of_mem _ hm.1
    · have h1 := H.2 i (ready_mono hi hir)
      obtain ⟨hiun, oi, hoi, hall⟩ := mem_ready.1 hi
      obtain ⟨hrun, o', ho', hrall⟩ := mem_ready.1 hrr
      simp only [List.getElem?_toArray] at hoi ho'
      rw [hr] at ho'
      cases ho'
      have hL : ∀ (k : Nat) (ok : Oper), ops[k]? = some ok → (∀ e ∈ ok.after, Region.binds .any e = true → listed.getD e.on false = true) → ∀ q, Bef (befL ops []) k q = true → IsListed listed q :=
        fun k ok hk hd q hq => bef_listed hc hk hd hq
      have nri : Bef (befL ops []) i r = false := by
        cases hb : Bef (befL ops []) i r with
        | false => rfl
        | true => exact absurd (hL i oi hoi hall r hb) (not_listed hrun)
      have nir : Bef (befL ops []) r i = false := by
        cases hb : Bef (befL ops []) r i with
        | false => rfl
        | true => exact absurd (hL r o hr hrall i hb) (not_listed hiun)
      have hap := drawOk_spec hok hr hoi (Ne.symm hir) nir nri
      have h2 := upOp_put (by simpa using hoi) hap (hns i oi hoi) h1
      have hap' := (Oper.apart_spec hap).2.2
      have hkeep : keepM (befL ops []) i ((r, fun w => Says P ops.toArray o v a w) :: M) = (r, fun w => Says P ops.toArray o v a w) :: keepM (befL ops []) i M := by
        simp [keepM, nri]
      refine upOp_mono h2 fun a' w' hh => ?_
      obtain ⟨⟨u, rfl⟩, hA, hB⟩ := hh
      rw [hkeep] at hA hB
      have hs' : ∀ w, Says P ops.toArray o v (a.put oi.dst u) w ↔ Says P ops.toArray o v a w := fun w => says_put (hns r o hr) hap'
      refine ⟨fun m hm => hA m (List.mem_cons_of_mem _ hm), ?_⟩
      have hfun : (fun w => Says P ops.toArray o v a w) = fun w => Says P ops.toArray o v (a.put oi.dst u) w := by
        funext w; exact propext (hs' w).symm
      rw [hfun] at hA hB
      refine ih _ _ _ _ (closed_set hc hi) (ready_mono hrr (Ne.symm hir)) (hA _ List.mem_cons_self) (fun m hm => hA m (List.mem_cons_of_mem _ hm)) ?_
      rw [Array.setIfInBounds_comm _ _ hir]
      exact hB

end Cv
