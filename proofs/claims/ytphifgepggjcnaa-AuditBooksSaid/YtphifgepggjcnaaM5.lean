/- Texts of ours, one behind the other: a walk that the kernel reckons, and contracts of functions. No condition. -/
import Derived.Test.YtphifgepggjcnaaM4

namespace Sx
set_option linter.unusedVariables false
set_option linter.unusedSimpArgs false
set_option maxRecDepth 100000
open Go Cv Go.Proofs

theorem bestQ_some {l : List Quote} {q : Quote} (s : Int) (h : l[0]? = some q) : (bestQ (l.take (max 0 1)) s).1 = q := by
  cases l with
  | nil => simp at h
  | cons a l => simp at h; subst h; rfl
theorem bestQ_step {l : List Quote} {j : Nat} {q : Quote} (s : Int) (h : l[j]? = some q) :
    (bestQ (l.take (max (j + 1) 1)) s).1 = if btr s q.price (bestQ (l.take (max j 1)) s).1.price then q else (bestQ (l.take (max j 1)) s).1 := by
  cases l with
  | nil => simp at h
  | cons a l =>
    cases j with
    | zero => simp at h; subst h; simp [bestQ]
    | succ m =>
      simp only [List.getElem?_cons_succ] at h
      rw [show max (m + 1 + 1) 1 = (m + 1) + 1 by omega, show max (m + 1) 1 = m + 1 by omega, List.take_succ_cons, List.take_succ_cons, List.take_add_one, h]
      simp only [bestQ, Option.toList_some, List.foldl_append]
      rfl
theorem bestQ_two {l : List Quote} (s : Int) (h : l ≠ []) : (bestQ l s).2 = true := by
  cases l with
  | nil => exact absurd rfl h
  | cons a l => rfl

theorem vbestQ (i : BsI) (h : bestQC.cnd i) : VbestQ i := by
  obtain ⟨hs, hl⟩ : (i.s = 1 ∨ i.s = 2) ∧ i.l.length ≤ 1000000 := h
  unfold VbestQ
  simp only [List.length_map]
  refine Cv.cnd.mk (fun c => ?_) (fun c => ?_)
  · have e : i.l = [] := List.eq_nil_of_length_eq_zero (by have : (i.l.length : Int) = 0 := (by simpa using c); omega)
    rw [e]; (repeat' (first | exact rfl | exact trivial | assumption | apply And.intro | (refine fun (_ : Unit) (_ : True) => ?_) | (refine Exists.intro () ?_) | omega | (dsimp only; omega)))
  have h0 : 0 < i.l.length := by
    rcases Nat.eq_zero_or_pos i.l.length with h | h
    · rw [h] at c; exact absurd c (by decide)
    · exact h
  have hne : i.l ≠ [] := by intro e; rw [e] at h0; simp at h0
  have two := bestQ_two i.s hne
  obtain ⟨q, hq⟩ := getI h0
  have b0 := bestQ_some i.s hq
  have fin : (bestQ (i.l.take (max i.l.length 1)) i.s).1 = (bestQ i.l i.s).1 := by
    rw [List.take_of_length_le (by omega)]
  have step : ∀ j : Nat, j < i.l.length → ∀ x : Quote, i.l[j]? = some x → (btr i.s x.price (bestQ (i.l.take (max j 1)) i.s).1.price = true → (bestQ (i.l.take (max (j + 1) 1)) i.s).1 = x) ∧ (btr i.s x.price (bestQ (i.l.take (max j 1)) i.s).1.price = false → (bestQ (i.l.take (max (j + 1) 1)) i.s).1 = (bestQ (i.l.take (max j 1)) i.s).1) := fun j hj x hx => by
    have := bestQ_step i.s hx
    constructor
    · intro e; rw [this, if_pos e]
    · intro e; rw [this, if_neg (by rw [e]; simp)]
  refine Cv.cnd.mk (fun c1 => Cv.cnd.mk (fun c2 => ?_) (fun c2 => ?_)) (fun c1 => ?_)
  · exfalso
    have c1 : i.s ≠ 1 := by simpa using c1
    have c2 : i.s ≠ 2 := by simpa using c2
    omega
  all_goals
    refine ⟨⟨by omega, by omega⟩, q.price, q.qty, q.a.inst, q.a.side, q.b.inst, q.b.side, elA hq (by simp [quoteE]) rfl, 0, ?_⟩
    rw [b0]
    (repeat' (first | exact rfl | exact trivial | assumption | apply And.intro | (refine fun (_ : Unit) (_ : True) => ?_) | (refine Exists.intro () ?_) | omega | (dsimp only; omega)))
    refine ⟨fun j => j ≤ i.l.length, fun j => i.l.length - j, by omega, fun j hj => cndD (fun hlt => ?_) (fun hlt => ?_)⟩
    · have hj' : j < i.l.length := by omega
      obtain ⟨x, hx⟩ := getI hj'
      obtain ⟨st, sf⟩ := step j hj' x hx
      refine ⟨⟨by omega, by omega⟩, x.price, x.qty, x.a.inst, x.a.side, x.b.inst, x.b.side, elA hx (by simp [quoteE]) rfl, ⟨i.s, x.price, _⟩, rfl, rfl, rfl, trivial, fun _ _ => Cv.cnd.mk (fun e => ⟨j + 1, by rw [w64 (by omega)]; rfl, ?_⟩) (fun e => ⟨j + 1, by rw [w64 (by omega)]; rfl, ?_⟩)⟩
      · rw [st e]; (repeat' (first | exact rfl | exact trivial | assumption | apply And.intro | (refine fun (_ : Unit) (_ : True) => ?_) | (refine Exists.intro () ?_) | omega | (dsimp only; omega)))
      · rw [sf e]; (repeat' (first | exact rfl | exact trivial | assumption | apply And.intro | (refine fun (_ : Unit) (_ : True) => ?_) | (refine Exists.intro () ?_) | omega | (dsimp only; omega)))
    · have hj : j ≤ i.l.length := hj
      obtain rfl : j = i.l.length := by omega
      rw [fin, two]; (repeat' (first | exact rfl | exact trivial | assumption | apply And.intro | (refine fun (_ : Unit) (_ : True) => ?_) | (refine Exists.intro () ?_) | omega | (dsimp only; omega)))
theorem bestQ_ok : bestQC.ok Try.prog 45 := bybestQ (gokc ibetter_ok gok0) vbestQ

theorem mkq_len (tops : List Top) (a b : Leg) (less : Bool) : (mkq tops a b less).length ≤ 1 := by
  unfold mkq
  dsimp only
  split <;> split <;> simp
theorem flat_le {α : Type} {f : Nat → List α} (h : ∀ k, (f k).length ≤ 1) : ∀ n, ((List.range n).flatMap f).length ≤ n
  | 0 => by simp
  | n + 1 => by
    rw [List.range_succ, List.flatMap_append, List.length_append]
    have := flat_le h n
    have := h n
    simp only [List.flatMap_cons, List.flatMap_nil, List.append_nil]
    omega
theorem laterQ_len (i : AllI) (s : Int) (k : Nat) : (laterQ i s k).length ≤ k := flat_le (fun _ => mkq_len _ _ _ _) k
theorem earlierQ_len (i : AllI) (s : Int) (k : Nat) : (earlierQ i s k).length ≤ k := flat_le (fun _ => mkq_len _ _ _ _) k
theorem allQ_len (i : AllI) (s : Int) : (allQ i s).length ≤ 100 := by
  unfold allQ
  split
  · simp
  · rename_i h
    have hc := count_le i.p
    have m6 := (check0 (count_ne (p := i.p) (by omega))).m6
    split
    · rw [List.length_map]
      have := mkq_len i.tops ⟨(i.p.legs i.inst).2.1, 3 - s⟩ ⟨(i.p.legs i.inst).1, s⟩ true
      have e : (spreadQ i s).length ≤ 1 := this
      omega
    · rw [List.length_append]
      have h1 := laterQ_len i s (i.p.months.length - (i.inst.toNat + 1))
      have h2 := earlierQ_len i s i.inst.toNat
      omega

theorem vquotes (j : AllJ) (h : quotesC.cnd j) : Vquotes j := by
  obtain ⟨hp, ht, hr⟩ : j.i.p.small ∧ topsOk j.i.tops := h
  obtain ⟨h1, h2, h3⟩ := hp
  have hl := allQ_len j.i (sideN j.s)
  refine ⟨j, ?_⟩
  simp only [List.length_map]
  (repeat' (first | exact rfl | exact trivial | assumption | apply And.intro | (refine fun (_ : Unit) (_ : True) => ?_) | (refine Exists.intro () ?_) | omega | (dsimp only; omega)))
  refine ⟨0, rfl, rfl, fun k => k ≤ (allQ j.i (sideN j.s)).length, fun k => (allQ j.i (sideN j.s)).length - k, by omega, fun k hk => cndD (fun hlt => ?_) (fun hlt => ?_)⟩
  · have hk' : k < (allQ j.i (sideN j.s)).length := by omega
    obtain ⟨q, hq⟩ := getI hk'
    have hf : (List.filter (fun q => decide (j.i.p.price j.i.inst q.price = 0)) (List.take k (allQ j.i (sideN j.s)))).length ≤ 100 := by
      have := List.length_filter_le (fun q : Quote => decide (j.i.p.price j.i.inst q.price = 0)) (List.take k (allQ j.i (sideN j.s)))
      rw [List.length_take] at this
      omega
    refine ⟨⟨by omega, by omega⟩, q.price, q.qty, q.a.inst, q.a.side, q.b.inst, q.b.side, elA hq (by simp [quoteE]) rfl, ⟨j.i.p, j.i.inst, q.price⟩, ?_⟩
    (repeat' (first | exact rfl | exact trivial | assumption | apply And.intro | (refine fun (_ : Unit) (_ : True) => ?_) | (refine Exists.intro () ?_) | omega | (dsimp only; omega)))
    refine Cv.cnd.mk (fun c => ⟨by omega, k + 1, by rw [w64 (by omega)]; rfl, ?_⟩) (fun c => ⟨k + 1, by rw [w64 (by omega)]; rfl, ?_⟩)
    · have c : j.i.p.price j.i.inst q.price = 0 := by simpa using c
      rw [List.take_add_one, hq, Option.toList_some, List.filter_append, List.filter_cons_of_pos (by simpa using c), List.map_append]
      (repeat' (first | exact rfl | exact trivial | assumption | apply And.intro | (refine fun (_ : Unit) (_ : True) => ?_) | (refine Exists.intro () ?_) | omega | (dsimp only; omega)))
    · have c : ¬ j.i.p.price j.i.inst q.price = 0 := by simpa using c
      rw [List.take_add_one, hq, Option.toList_some, List.filter_append, List.filter_cons_of_neg (by simpa using c), List.filter_nil, List.append_nil]
      (repeat' (first | exact rfl | exact trivial | assumption | apply And.intro | (refine fun (_ : Unit) (_ : True) => ?_) | (refine Exists.intro () ?_) | omega | (dsimp only; omega)))
  · have hk : k ≤ (allQ j.i (sideN j.s)).length := hk
    obtain rfl : k = (allQ j.i (sideN j.s)).length := by omega
    rw [List.take_of_length_le (Nat.le_refl _)]
    (repeat' (first | exact rfl | exact trivial | assumption | apply And.intro | (refine fun (_ : Unit) (_ : True) => ?_) | (refine Exists.intro () ?_) | omega | (dsimp only; omega)))

end Sx

namespace Sx
set_option linter.unusedVariables false
set_option linter.unusedSimpArgs false
set_option maxRecDepth 100000
open Go Cv Go.Proofs

theorem spread_in : ∀ n ≤ 6, ∀ a < n, ∀ b < n, a < b → 0 ≤ (firstOf n a : Int) + b - a - 1 ∧ (firstOf n a : Int) + b - a - 1 < ((n + n * (n - 1) / 2 : Nat) : Int) := by decide
theorem spread_bd {p : Prd} (hc : p.check = 0) {a b : Nat} (hab : a < b) (hb : b < p.months.length) : 0 ≤ (p.spread a b).1 ∧ (p.spread a b).1 < p.count := by
  have m6 := (check0 hc).m6
  have := spread_in p.months.length m6 a (by omega) b hb hab
  rw [Prd.spread, if_neg (by omega), Prd.count, if_pos hc]
  simpa using this
theorem legs_in : ∀ n ≤ 6, ∀ k < n + n * (n - 1) / 2, n ≤ k → (legsFrom n k n 0).2.2 = true ∧ 0 ≤ (legsFrom n k n 0).1 ∧ (legsFrom n k n 0).1 < n ∧ 0 ≤ (legsFrom n k n 0).2.1 ∧ (legsFrom n k n 0).2.1 < n := by decide
theorem legs_spread {p : Prd} (hc : p.check = 0) {k : Nat} (hk : k < p.count) : ((p.legs k).2.2 = true ∧ 0 ≤ (p.legs k).1 ∧ (p.legs k).1 < p.months.length ∧ 0 ≤ (p.legs k).2.1 ∧ (p.legs k).2.1 < p.months.length) ∨ ((p.legs k).2.2 = false ∧ k < p.months.length) := by
  have m6 := (check0 hc).m6
  have hk' := hk
  rw [Prd.count, if_pos hc] at hk'
  by_cases h : k < p.months.length
  · right
    rw [Prd.legs, if_neg (by omega), if_pos (by omega)]
    exact ⟨rfl, h⟩
  · left
    rw [Prd.legs, if_neg (by omega), if_neg (by omega)]
    exact legs_in p.months.length m6 k hk' (by omega)
theorem count_ge {p : Prd} (hc : p.check = 0) : p.months.length ≤ p.count := by
  rw [Prd.count, if_pos hc]; omega
theorem turn_set {i : AllI} {s : Int} {k : Nat} (hk : k < (spreadQ i s).length) : List.map quoteE (List.map (turnQ i s) (List.take (k + 1) (spreadQ i s)) ++ List.drop (k + 1) (spreadQ i s)) =
    elSet (List.map quoteE (List.map (turnQ i s) (List.take k (spreadQ i s)) ++ List.drop k (spreadQ i s))) k (0 + 2) [D.v (.int .i64 (i.p.legs i.inst).1), D.v (.int .i64 s), D.v (.int .i64 (i.p.legs i.inst).2.1), D.v (.int .i64 (3 - s))] := by
  obtain ⟨q, hq⟩ := getI hk
  rw [elSet_mid (a := List.map quoteE (List.map (turnQ i s) (List.take k (spreadQ i s)))) (b := List.map quoteE (List.drop (k + 1) (spreadQ i s))) (x := quoteE q) (y := quoteE (turnQ i s q)) (by
    rw [List.map_append, List.drop_eq_getElem_cons hk, (List.getElem?_eq_some_iff.1 hq).2, List.map_cons]) (by simp; omega) rfl]
  rw [List.take_add_one, hq, Option.toList_some, List.map_append, List.map_append, List.map_append, List.map_cons, List.map_nil, List.map_cons, List.map_nil, List.append_assoc]
  rfl

theorem vall1 (i : AllI) (h : all1C.cnd i) : Vall1 i := by
  obtain ⟨⟨h1, h2, h3⟩, ht, hr⟩ : i.p.small ∧ topsOk i.tops := h
  have hto : topsOk i.tops := ⟨ht, hr⟩
  refine ⟨i.p, ?_⟩
  simp only [List.length_map, iE_len]
  (repeat' (first | exact rfl | exact trivial | assumption | apply And.intro | (refine fun (_ : Unit) (_ : True) => ?_) | (refine Exists.intro () ?_) | omega | (dsimp only; omega)))
  have bad (hb : i.p.count = 0 ∨ (i.tops.length : Int) ≠ i.p.count ∨ i.inst < 0 ∨ (i.p.count : Int) ≤ i.inst) : ∃ (o : Unit), List.map quoteE (allQ i 1) = [] ∧ True := ⟨(), by rw [allQ, if_pos hb]; rfl, trivial⟩
  refine Cv.cnd.mk (fun c1 => bad (.inl (by have c1 : (i.p.count : Int) = 0 := (by simpa using c1); omega))) fun c1 => Cv.cnd.mk (fun c2 => bad (.inr (.inl (by simpa using c2)))) fun c2 => cndD (fun c3 => bad (by omega)) fun c3 => cndD (fun c4 => bad (by omega)) fun c4 => ⟨⟨i.p, i.inst⟩, ?_⟩
  have c1 : i.p.count ≠ 0 := by
    have c1 : ¬ (i.p.count : Int) = 0 := (by simpa using c1)
    omega
  have c2 : (i.tops.length : Int) = i.p.count := by simpa using c2
  have c4 : i.inst < (i.p.count : Int) := by
    have c4 : ¬ i.inst ≥ (i.p.count : Int) := c4
    omega
  have hc := count_ne c1
  have hm := count_ge hc
  have e0 : allQ i 1 = if (i.p.legs i.inst).2.2 then (spreadQ i 1).map (turnQ i 1) else laterQ i 1 (i.p.months.length - (i.inst.toNat + 1)) ++ earlierQ i 1 i.inst.toNat := by
    rw [allQ, if_neg (by omega)]
  obtain ⟨k, hk⟩ : ∃ k : Nat, i.inst = k := ⟨i.inst.toNat, by omega⟩
  have hl := legs_spread hc (k := k) (by omega)
  rw [← hk] at hl
  (repeat' (first | exact rfl | exact trivial | assumption | apply And.intro | (refine fun (_ : Unit) (_ : True) => ?_) | (refine Exists.intro () ?_) | omega | (dsimp only; omega)))
  refine Cv.cnd.mk (fun c5 => ?_) (fun c5 => ?_)
  · have c5 : (i.p.legs i.inst).2.2 = true := c5
    rw [e0, if_pos c5]
    rcases hl with ⟨_, l1, l2, l3, l4⟩ | ⟨l1, _⟩
    · have hsl : (spreadQ i 1).length ≤ 1 := mkq_len _ _ _ _
      refine ⟨1, rfl, by omega, fun _ _ => ⟨⟨⟨i.tops, [], (i.p.legs i.inst).2.1, (i.p.legs i.inst).1, true⟩, true, false⟩, rfl, rfl, rfl, rfl, rfl, rfl, rfl, ⟨l3, by dsimp only; omega, l1, by dsimp only; omega, hto, by simp⟩, fun _ _ => ⟨0, rfl, rfl, rfl, fun j => j ≤ (spreadQ i 1).length, fun j => (spreadQ i 1).length - j, by omega, ?_⟩⟩⟩
      intro j hj
      have hj : j ≤ (spreadQ i 1).length := hj
      have hL : (List.map (turnQ i 1) (List.take j (spreadQ i 1)) ++ List.drop j (spreadQ i 1)).length = (spreadQ i 1).length := by simp; omega
      refine cndD (fun hlt => ?_) (fun hlt => ?_)
      · have hlt : (j : Int) < ((spreadQ i 1).length : Int) := hlt
        refine ⟨⟨by omega, by rw [hL]; omega⟩, by rw [hL]; omega, j + 1, by rw [w64 (by omega)]; rfl, by (repeat' (first | exact rfl | exact trivial | assumption | apply And.intro | (refine fun (_ : Unit) (_ : True) => ?_) | (refine Exists.intro () ?_) | omega | (dsimp only; omega))), ?_, ?_⟩
        · exact turn_set (i := i) (s := 1) (by omega)
        · (repeat' (first | exact rfl | exact trivial | assumption | apply And.intro | (refine fun (_ : Unit) (_ : True) => ?_) | (refine Exists.intro () ?_) | omega | (dsimp only; omega)))
      · have hlt : ¬ (j : Int) < ((spreadQ i 1).length : Int) := hlt
        obtain rfl : j = (spreadQ i 1).length := by omega
        rw [List.take_of_length_le (Nat.le_refl _), List.drop_length, List.append_nil]
        (repeat' (first | exact rfl | exact trivial | assumption | apply And.intro | (refine fun (_ : Unit) (_ : True) => ?_) | (refine Exists.intro () ?_) | omega | (dsimp only; omega)))
    · rw [c5] at l1; cases l1
  · have c5 : (i.p.legs i.inst).2.2 = false := c5
    rw [e0, if_neg (by rw [c5]; simp)]
    rcases hl with ⟨l1, _⟩ | ⟨_, l2⟩
    · rw [c5] at l1; cases l1
    have m6 := (check0 hc).m6
    have e1 : i.inst.toNat = k := by omega
    rw [e1]
    refine ⟨0, by rw [w64 (by omega)]; omega, by (repeat' (first | exact rfl | exact trivial | assumption | apply And.intro | (refine fun (_ : Unit) (_ : True) => ?_) | (refine Exists.intro () ?_) | omega | (dsimp only; omega))), rfl, fun j => j ≤ i.p.months.length - (k + 1), fun j => i.p.months.length - (k + 1) - j, by omega, ?_⟩
    intro j hj
    have hj : j ≤ i.p.months.length - (k + 1) := hj
    have hq := laterQ_len i 1 j
    refine cndD (fun hlt => ?_) (fun hlt => ?_)
    · obtain ⟨b1, b2⟩ := spread_bd hc (a := k) (b := k + 1 + j) (by omega) (by omega)
      have eb : ((k + 1 + j : Nat) : Int) = i.inst + 1 + j := by omega
      rw [eb, ← hk] at b1 b2
      refine ⟨⟨i.p, i.inst, i.inst + 1 + j⟩, ?_⟩
      (repeat' (first | exact rfl | exact trivial | assumption | apply And.intro | (refine fun (_ : Unit) (_ : True) => ?_) | (refine Exists.intro () ?_) | omega | (dsimp only; omega)))
      refine ⟨⟨⟨i.tops, laterQ i 1 j, (i.p.spread i.inst (i.inst + 1 + j)).1, i.inst + 1 + j, false⟩, false, false⟩, rfl, rfl, rfl, rfl, rfl, by (repeat' (first | exact rfl | exact trivial | assumption | apply And.intro | (refine fun (_ : Unit) (_ : True) => ?_) | (refine Exists.intro () ?_) | omega | (dsimp only; omega))), rfl, ⟨b1, by dsimp only; omega, by dsimp only; omega, by dsimp only; omega, hto, by dsimp only; omega⟩, fun _ _ => ⟨j + 1, by rw [w64 (by omega)]; omega, by (repeat' (first | exact rfl | exact trivial | assumption | apply And.intro | (refine fun (_ : Unit) (_ : True) => ?_) | (refine Exists.intro () ?_) | omega | (dsimp only; omega))), ?_, ?_⟩⟩
      · rw [laterQ, List.range_succ, List.flatMap_append]
        simp only [List.flatMap_cons, List.flatMap_nil, List.append_nil]
        rfl
      · (repeat' (first | exact rfl | exact trivial | assumption | apply And.intro | (refine fun (_ : Unit) (_ : True) => ?_) | (refine Exists.intro () ?_) | omega | (dsimp only; omega)))
    · obtain rfl : j = i.p.months.length - (k + 1) := by omega
      refine ⟨0, rfl, by (repeat' (first | exact rfl | exact trivial | assumption | apply And.intro | (refine fun (_ : Unit) (_ : True) => ?_) | (refine Exists.intro () ?_) | omega | (dsimp only; omega))), by rw [earlierQ]; simp, fun j => j ≤ k, fun j => k - j, by omega, ?_⟩
      intro j hj
      have hj : j ≤ k := hj
      have hq2 := earlierQ_len i 1 j
      refine cndD (fun hlt2 => ?_) (fun hlt2 => ?_)
      · obtain ⟨b1, b2⟩ := spread_bd hc (a := j) (b := k) (by omega) (by omega)
        rw [← hk] at b1 b2
        refine ⟨⟨i.p, j, i.inst⟩, ?_⟩
        (repeat' (first | exact rfl | exact trivial | assumption | apply And.intro | (refine fun (_ : Unit) (_ : True) => ?_) | (refine Exists.intro () ?_) | omega | (dsimp only; omega)))
        refine ⟨1, rfl, by omega, fun _ _ => ⟨⟨⟨i.tops, laterQ i 1 (i.p.months.length - (k + 1)) ++ earlierQ i 1 j, (i.p.spread j i.inst).1, j, true⟩, true, false⟩, rfl, rfl, rfl, rfl, rfl, by (repeat' (first | exact rfl | exact trivial | assumption | apply And.intro | (refine fun (_ : Unit) (_ : True) => ?_) | (refine Exists.intro () ?_) | omega | (dsimp only; omega))), rfl, ⟨b1, by dsimp only; omega, by dsimp only; omega, by dsimp only; omega, hto, by dsimp only; rw [List.length_append]; omega⟩, fun _ _ => ⟨j + 1, by rw [w64 (by omega)]; omega, by (repeat' (first | exact rfl | exact trivial | assumption | apply And.intro | (refine fun (_ : Unit) (_ : True) => ?_) | (refine Exists.intro () ?_) | omega | (dsimp only; omega))), ?_, ?_⟩⟩⟩
        · rw [earlierQ, List.range_succ, List.flatMap_append]
          simp only [List.flatMap_cons, List.flatMap_nil, List.append_nil, List.append_assoc]
          rfl
        · (repeat' (first | exact rfl | exact trivial | assumption | apply And.intro | (refine fun (_ : Unit) (_ : True) => ?_) | (refine Exists.intro () ?_) | omega | (dsimp only; omega)))
      · obtain rfl : j = k := by omega
        (repeat' (first | exact rfl | exact trivial | assumption | apply And.intro | (refine fun (_ : Unit) (_ : True) => ?_) | (refine Exists.intro () ?_) | omega | (dsimp only; omega)))
theorem all1_ok : all1C.ok Try.prog 65 := byall1 (gokc pcount_ok (gokc legs_ok (gokc spread_ok (gokc iother_ok (gokc mkAny_ok gok0))))) vall1

theorem vall2 (i : AllI) (h : all2C.cnd i) : Vall2 i := by
  obtain ⟨⟨h1, h2, h3⟩, ht, hr⟩ : i.p.small ∧ topsOk i.tops := h
  have hto : topsOk i.tops := ⟨ht, hr⟩
  refine ⟨i.p, ?_⟩
  simp only [List.length_map, iE_len]
  (repeat' (first | exact rfl | exact trivial | assumption | apply And.intro | (refine fun (_ : Unit) (_ : True) => ?_) | (refine Exists.intro () ?_) | omega | (dsimp only; omega)))
  have bad (hb : i.p.count = 0 ∨ (i.tops.length : Int) ≠ i.p.count ∨ i.inst < 0 ∨ (i.p.count : Int) ≤ i.inst) : ∃ (o : Unit), List.map quoteE (allQ i 2) = [] ∧ True := ⟨(), by rw [allQ, if_pos hb]; rfl, trivial⟩
  refine Cv.cnd.mk (fun c1 => bad (.inl (by have c1 : (i.p.count : Int) = 0 := (by simpa using c1); omega))) fun c1 => Cv.cnd.mk (fun c2 => bad (.inr (.inl (by simpa using c2)))) fun c2 => cndD (fun c3 => bad (by omega)) fun c3 => cndD (fun c4 => bad (by omega)) fun c4 => ⟨⟨i.p, i.inst⟩, ?_⟩
  have c1 : i.p.count ≠ 0 := by
    have c1 : ¬ (i.p.count : Int) = 0 := (by simpa using c1)
    omega
  have c2 : (i.tops.length : Int) = i.p.count := by simpa using c2
  have c4 : i.inst < (i.p.count : Int) := by
    have c4 : ¬ i.inst ≥ (i.p.count : Int) := c4
    omega
  have hc := count_ne c1
  have hm := count_ge hc
  have e0 : allQ i 2 = if (i.p.legs i.inst).2.2 then (spreadQ i 2).map (turnQ i 2) else laterQ i 2 (i.p.months.length - (i.inst.toNat + 1)) ++ earlierQ i 2 i.inst.toNat := by
    rw [allQ, if_neg (by omega)]
  obtain ⟨k, hk⟩ : ∃ k : Nat, i.inst = k := ⟨i.inst.toNat, by omega⟩
  have hl := legs_spread hc (k := k) (by omega)
  rw [← hk] at hl
  (repeat' (first | exact rfl | exact trivial | assumption | apply And.intro | (refine fun (_ : Unit) (_ : True) => ?_) | (refine Exists.intro () ?_) | omega | (dsimp only; omega)))
  refine Cv.cnd.mk (fun c5 => ?_) (fun c5 => ?_)
  · have c5 : (i.p.legs i.inst).2.2 = true := c5
    rw [e0, if_pos c5]
    rcases hl with ⟨_, l1, l2, l3, l4⟩ | ⟨l1, _⟩
    · have hsl : (spreadQ i 2).length ≤ 1 := mkq_len _ _ _ _
      refine ⟨2, rfl, by omega, fun _ _ => ⟨⟨⟨i.tops, [], (i.p.legs i.inst).2.1, (i.p.legs i.inst).1, true⟩, false, true⟩, rfl, rfl, rfl, rfl, rfl, rfl, rfl, ⟨l3, by dsimp only; omega, l1, by dsimp only; omega, hto, by simp⟩, fun _ _ => ⟨0, rfl, rfl, rfl, fun j => j ≤ (spreadQ i 2).length, fun j => (spreadQ i 2).length - j, by omega, ?_⟩⟩⟩
      intro j hj
      have hj : j ≤ (spreadQ i 2).length := hj
      have hL : (List.map (turnQ i 2) (List.take j (spreadQ i 2)) ++ List.drop j (spreadQ i 2)).length = (spreadQ i 2).length := by simp; omega
      refine cndD (fun hlt => ?_) (fun hlt => ?_)
      · have hlt : (j : Int) < ((spreadQ i 2).length : Int) := hlt
        refine ⟨⟨by omega, by rw [hL]; omega⟩, by rw [hL]; omega, j + 1, by rw [w64 (by omega)]; rfl, by (repeat' (first | exact rfl | exact trivial | assumption | apply And.intro | (refine fun (_ : Unit) (_ : True) => ?_) | (refine Exists.intro () ?_) | omega | (dsimp only; omega))), ?_, ?_⟩
        · exact turn_set (i := i) (s := 2) (by omega)
        · (repeat' (first | exact rfl | exact trivial | assumption | apply And.intro | (refine fun (_ : Unit) (_ : True) => ?_) | (refine Exists.intro () ?_) | omega | (dsimp only; omega)))
      · have hlt : ¬ (j : Int) < ((spreadQ i 2).length : Int) := hlt
        obtain rfl : j = (spreadQ i 2).length := by omega
        rw [List.take_of_length_le (Nat.le_refl _), List.drop_length, List.append_nil]
        (repeat' (first | exact rfl | exact trivial | assumption | apply And.intro | (refine fun (_ : Unit) (_ : True) => ?_) | (refine Exists.intro () ?_) | omega | (dsimp only; omega)))
    · rw [c5] at l1; cases l1
  · have c5 : (i.p.legs i.inst).2.2 = false := c5
    rw [e0, if_neg (by rw [c5]; simp)]
    rcases hl with ⟨l1, _⟩ | ⟨_, l2⟩
    · rw [c5] at l1; cases l1
    have m6 := (check0 hc).m6
    have e1 : i.inst.toNat = k := by omega
    rw [e1]
    refine ⟨0, by rw [w64 (by omega)]; omega, by (repeat' (first | exact rfl | exact trivial | assumption | apply And.intro | (refine fun (_ : Unit) (_ : True) => ?_) | (refine Exists.intro () ?_) | omega | (dsimp only; omega))), rfl, fun j => j ≤ i.p.months.length - (k + 1), fun j => i.p.months.length - (k + 1) - j, by omega, ?_⟩
    intro j hj
    have hj : j ≤ i.p.months.length - (k + 1) := hj
    have hq := laterQ_len i 2 j
    refine cndD (fun hlt => ?_) (fun hlt => ?_)
    · obtain ⟨b1, b2⟩ := spread_bd hc (a := k) (b := k + 1 + j) (by omega) (by omega)
      have eb : ((k + 1 + j : Nat) : Int) = i.inst + 1 + j := by omega
      rw [eb, ← hk] at b1 b2
      refine ⟨⟨i.p, i.inst, i.inst + 1 + j⟩, ?_⟩
      (repeat' (first | exact rfl | exact trivial | assumption | apply And.intro | (refine fun (_ : Unit) (_ : True) => ?_) | (refine Exists.intro () ?_) | omega | (dsimp only; omega)))
      refine ⟨⟨⟨i.tops, laterQ i 2 j, (i.p.spread i.inst (i.inst + 1 + j)).1, i.inst + 1 + j, false⟩, true, true⟩, rfl, rfl, rfl, rfl, rfl, by (repeat' (first | exact rfl | exact trivial | assumption | apply And.intro | (refine fun (_ : Unit) (_ : True) => ?_) | (refine Exists.intro () ?_) | omega | (dsimp only; omega))), rfl, ⟨b1, by dsimp only; omega, by dsimp only; omega, by dsimp only; omega, hto, by dsimp only; omega⟩, fun _ _ => ⟨j + 1, by rw [w64 (by omega)]; omega, by (repeat' (first | exact rfl | exact trivial | assumption | apply And.intro | (refine fun (_ : Unit) (_ : True) => ?_) | (refine Exists.intro () ?_) | omega | (dsimp only; omega))), ?_, ?_⟩⟩
      · rw [laterQ, List.range_succ, List.flatMap_append]
        simp only [List.flatMap_cons, List.flatMap_nil, List.append_nil]
        rfl
      · (repeat' (first | exact rfl | exact trivial | assumption | apply And.intro | (refine fun (_ : Unit) (_ : True) => ?_) | (refine Exists.intro () ?_) | omega | (dsimp only; omega)))
    · obtain rfl : j = i.p.months.length - (k + 1) := by omega
      refine ⟨0, rfl, by (repeat' (first | exact rfl | exact trivial | assumption | apply And.intro | (refine fun (_ : Unit) (_ : True) => ?_) | (refine Exists.intro () ?_) | omega | (dsimp only; omega))), by rw [earlierQ]; simp, fun j => j ≤ k, fun j => k - j, by omega, ?_⟩
      intro j hj
      have hj : j ≤ k := hj
      have hq2 := earlierQ_len i 2 j
      refine cndD (fun hlt2 => ?_) (fun hlt2 => ?_)
      · obtain ⟨b1, b2⟩ := spread_bd hc (a := j) (b := k) (by omega) (by omega)
        rw [← hk] at b1 b2
        refine ⟨⟨i.p, j, i.inst⟩, ?_⟩
        (repeat' (first | exact rfl | exact trivial | assumption | apply And.intro | (refine fun (_ : Unit) (_ : True) => ?_) | (refine Exists.intro () ?_) | omega | (dsimp only; omega)))
        refine ⟨2, rfl, by omega, fun _ _ => ⟨⟨⟨i.tops, laterQ i 2 (i.p.months.length - (k + 1)) ++ earlierQ i 2 j, (i.p.spread j i.inst).1, j, true⟩, false, true⟩, rfl, rfl, rfl, rfl, rfl, by (repeat' (first | exact rfl | exact trivial | assumption | apply And.intro | (refine fun (_ : Unit) (_ : True) => ?_) | (refine Exists.intro () ?_) | omega | (dsimp only; omega))), rfl, ⟨b1, by dsimp only; omega, by dsimp only; omega, by dsimp only; omega, hto, by dsimp only; rw [List.length_append]; omega⟩, fun _ _ => ⟨j + 1, by rw [w64 (by omega)]; omega, by (repeat' (first | exact rfl | exact trivial | assumption | apply And.intro | (refine fun (_ : Unit) (_ : True) => ?_) | (refine Exists.intro () ?_) | omega | (dsimp only; omega))), ?_, ?_⟩⟩⟩
        · rw [earlierQ, List.range_succ, List.flatMap_append]
          simp only [List.flatMap_cons, List.flatMap_nil, List.append_nil, List.append_assoc]
          rfl
        · (repeat' (first | exact rfl | exact trivial | assumption | apply And.intro | (refine fun (_ : Unit) (_ : True) => ?_) | (refine Exists.intro () ?_) | omega | (dsimp only; omega)))
      · obtain rfl : j = k := by omega
        (repeat' (first | exact rfl | exact trivial | assumption | apply And.intro | (refine fun (_ : Unit) (_ : True) => ?_) | (refine Exists.intro () ?_) | omega | (dsimp only; omega)))
theorem all2_ok : all2C.ok Try.prog 65 := byall2 (gokc pcount_ok (gokc legs_ok (gokc spread_ok (gokc iother_ok (gokc mkAny_ok gok0))))) vall2

theorem all_ok : allC.ok Try.prog 65 := fun j => match j with
  | ⟨i, false⟩ => all1_ok i
  | ⟨i, true⟩ => all2_ok i
theorem quotes_ok : quotesC.ok Try.prog 46 := byquotes (gokc all_ok (gokc price_ok gok0)) vquotes

end Sx

namespace Sx
set_option linter.unusedVariables false
set_option maxRecDepth 100000
open Go Cv Go.Proofs

structure BkI where
  p : Prd
  s : MSt
def crossB (x y : Int) (b : Bool) : Bool := b && decide (y ≤ x)
def crossT (t : Top) : Bool := crossB t.p1 t.p2 (t.has1 && t.has2)
def meetsAt (p : Prd) (tops : List Top) (n : Nat) : Bool :=
  let x := tops.getD n top0
  let buy := bestQ (quotesQ ⟨p, tops, n⟩ 1) 1
  let sell := bestQ (quotesQ ⟨p, tops, n⟩ 2) 2
  crossB x.p1 sell.1.price (x.has1 && sell.2) || crossB buy.1.price x.p2 (x.has2 && buy.2)
def booksErr (p : Prd) (tops : List Top) : Int :=
  if p.check ≠ 0 then 1 else if (List.range tops.length).any (fun n => crossT (tops.getD n top0)) then 23 else if (List.range tops.length).any (meetsAt p tops) then 21 else 0
def booksC : Con := con1 BkI (fun i => [prdV i.p, .nm 0 0]) (fun i => [StateR i.s]) (fun i => i.p.small ∧ i.s.cntOk ∧ topsOk i.s.tops) (fun i => i64V (booksErr i.p i.s.tops)) (fun i => [StateR i.s])
def booksA (i : BkI) : List SAnn := [
  { ι := Nat, slots := fun j => [(25, i64V j)], rows := fun _ => [] },
  { ι := Nat, slots := fun j => [(5, .own 0), (45, .own 0), (47, i64V j)], rows := fun _ => [.fro 6 (i.s.tops.map topE)] }]
def booksNilC : Con := con1 Prd (fun p => [prdV p, .d (.v (.pointer none))]) (fun _ => []) (fun p => p.small) (fun _ => i64V 1) (fun _ => [])

end Sx

namespace Sx
set_option linter.unusedVariables false
set_option maxRecDepth 100000
open Go Cv Go.Proofs
@[reducible] def Vbooksr0 (i : BkI) : AObj := Sx.AObj.cells [V.d (D.v (Value.string (sb i.p.code))), V.own (1 : Nat), V.d (D.v (.int .i64 i.p.tick)), V.d (D.v (.int .i64 i.p.low)), V.d (D.v (.int .i64 i.p.high)), V.d (D.v (.int .i64 i.p.wide)), V.d (D.v (.int .i64 i.p.rule)), V.d (D.v (.int .i64 i.p.top)), V.d (D.v (.int .i64 i.p.least)), V.d (D.v (.int .i64 i.p.part)), V.own ((1 : Nat) + (1 : Nat))] (25 : Nat)
def Vbooks (i : BkI) : Prop :=
  ∃ (i_1 : Prd), sb i_1.code = sb i.p.code ∧ iE i_1.months = iE i.p.months ∧ i_1.tick = i.p.tick ∧ i_1.low = i.p.low ∧ i_1.high = i.p.high ∧ i_1.wide = i.p.wide ∧ i_1.rule = i.p.rule ∧ i_1.top = i.p.top ∧ i_1.least = i.p.least ∧ i_1.part = i.p.part ∧ iE i_1.settle = iE i.p.settle ∧ (i_1.code.length ≤ (1099511627776 : Nat) ∧ i_1.months.length ≤ (1099511627776 : Nat) ∧ i_1.settle.length ≤ (1099511627776 : Nat)) ∧ ∀ (o : Unit), True → cnd (i_1.check != (0 : Int)) (∃ (o : Unit), booksErr i.p i.s.tops = (1 : Int) ∧ AObj.adt MSt (5 : Nat) StateU i.s = StateR i.s ∧ True) (∃ (i_2 : MSt), AObj.adt MSt (5 : Nat) StateU i_2 = StateR i.s ∧ (i_2.books.length ≤ (1000000 : Nat) ∧ ∀ (b : Book), b ∈ i_2.books → ∀ (q : Queue), q ∈ b.a.queues → (-9223372036854775808 : Int) ≤ q.count ∧ q.count ≤ (9223372036854775807 : Int)) ∧ ∀ (o : Unit), True → ∃ (i0 : Nat), (↑i0 : Int) = (0 : Int) ∧ ∃ (I : Nat → Prop), ∃ (μ : Nat → Nat), I i0 ∧ ∀ (i_3 : Nat), I i_3 → cnd (decide ((↑i_3 : Int) < (↑(List.map topE i_2.tops).length : Int))) (((0 : Int) ≤ (↑i_3 : Int) ∧ (↑i_3 : Int) < (↑(List.map topE i_2.tops).length : Int)) ∧ ∃ (b : Bool), ∃ (b_1 : Bool), ∃ (n : Int), ∃ (n_1 : Int), ∃ (n_2 : Int), ∃ (n_3 : Int), elPart (List.map topE i_2.tops) (↑i_3 : Int).toNat (0 : Nat) (6 : Nat) = some [D.v (.bool b), D.v (.bool b_1), D.v (.int .i64 n), D.v (.int .i64 n_1), D.v (.int .i64 n_2), D.v (.int .i64 n_3)] ∧ cnd b (∃ (i_4 : CrI), i_4.x = n ∧ i_4.y = n_1 ∧ i_4.b = b_1 ∧ True ∧ ∀ (o : Unit), True → cnd (i_4.b && decide (i_4.y ≤ i_4.x)) (∃ (o : Unit), booksErr i.p i.s.tops = (23 : Int) ∧ AObj.adt MSt (5 : Nat) StateU i.s = AObj.adt MSt (5 : Nat) StateU i_2 ∧ True) (∃ (i' : Nat), (↑i' : Int) = IntKind.i64.wrap ((↑i_3 : Int) + (1 : Int)) ∧ I i' ∧ μ i' < μ i_3 ∧ AObj.adt MSt (5 : Nat) StateU i_2 = AObj.adt MSt (5 : Nat) StateU i_2 ∧ AObj.own (55 : Nat) (6 : Nat) (List.map topE i_2.tops) = AObj.own (55 : Nat) (6 : Nat) (List.map topE i_2.tops) ∧ Vbooksr0 i = Vbooksr0 i ∧ AObj.fro (1 : Nat) (iE i.p.settle) = AObj.fro (1 : Nat) (iE i.p.settle) ∧ AObj.fro (1 : Nat) (iE i.p.months) = AObj.fro (1 : Nat) (iE i.p.months))) (∃ (i_4 : CrI), i_4.x = n ∧ i_4.y = n_1 ∧ i_4.b = false ∧ True ∧ ∀ (o : Unit), True → cnd (i_4.b && decide (i_4.y ≤ i_4.x)) (∃ (o : Unit), booksErr i.p i.s.tops = (23 : Int) ∧ AObj.adt MSt (5 : Nat) StateU i.s = AObj.adt MSt (5 : Nat) StateU i_2 ∧ True) (∃ (i' : Nat), (↑i' : Int) = IntKind.i64.wrap ((↑i_3 : Int) + (1 : Int)) ∧ I i' ∧ μ i' < μ i_3 ∧ AObj.adt MSt (5 : Nat) StateU i_2 = AObj.adt MSt (5 : Nat) StateU i_2 ∧ AObj.own (55 : Nat) (6 : Nat) (List.map topE i_2.tops) = AObj.own (55 : Nat) (6 : Nat) (List.map topE i_2.tops) ∧ Vbooksr0 i = Vbooksr0 i ∧ AObj.fro (1 : Nat) (iE i.p.settle) = AObj.fro (1 : Nat) (iE i.p.settle) ∧ AObj.fro (1 : Nat) (iE i.p.months) = AObj.fro (1 : Nat) (iE i.p.months)))) (∃ (i0 : Nat), (↑i0 : Int) = (0 : Int) ∧ List.map topE i.s.tops = List.map topE i_2.tops ∧ ∃ (I : Nat → Prop), ∃ (μ : Nat → Nat), I i0 ∧ ∀ (i_4 : Nat), I i_4 → cnd (decide ((↑i_4 : Int) < (↑(List.map topE i_2.tops).length : Int))) (((0 : Int) ≤ (↑i_4 : Int) ∧ (↑i_4 : Int) < (↑(List.map topE i.s.tops).length : Int)) ∧ ∃ (b : Bool), ∃ (b_1 : Bool), ∃ (n : Int), ∃ (n_1 : Int), ∃ (n_2 : Int), ∃ (n_3 : Int), elPart (List.map topE i.s.tops) (↑i_4 : Int).toNat (0 : Nat) (6 : Nat) = some [D.v (.bool b), D.v (.bool b_1), D.v (.int .i64 n), D.v (.int .i64 n_1), D.v (.int .i64 n_2), D.v (.int .i64 n_3)] ∧ ∃ (i_5 : AllJ), sb i_5.i.p.code = sb i.p.code ∧ iE i_5.i.p.months = iE i.p.months ∧ i_5.i.p.tick = i.p.tick ∧ i_5.i.p.low = i.p.low ∧ i_5.i.p.high = i.p.high ∧ i_5.i.p.wide = i.p.wide ∧ i_5.i.p.rule = i.p.rule ∧ i_5.i.p.top = i.p.top ∧ i_5.i.p.least = i.p.least ∧ i_5.i.p.part = i.p.part ∧ iE i_5.i.p.settle = iE i.p.settle ∧ List.map topE i_5.i.tops = List.map topE i.s.tops ∧ i_5.i.inst = (↑i_4 : Int) ∧ sideN i_5.s = (1 : Int) ∧ ((i_5.i.p.code.length ≤ (1099511627776 : Nat) ∧ i_5.i.p.months.length ≤ (1099511627776 : Nat) ∧ i_5.i.p.settle.length ≤ (1099511627776 : Nat)) ∧ i_5.i.tops.length ≤ (1000000 : Nat) ∧ ∀ (t : Top), t ∈ i_5.i.tops → ((-9223372036854775808 : Int) ≤ t.p1 ∧ t.p1 ≤ (9223372036854775807 : Int)) ∧ (-9223372036854775808 : Int) ≤ t.p2 ∧ t.p2 ≤ (9223372036854775807 : Int)) ∧ ∀ (o : Unit), True → ∃ (i_6 : BsI), List.map quoteE i_6.l = List.map quoteE (quotesQ i_5.i (sideN i_5.s)) ∧ i_6.s = (1 : Int) ∧ ((i_6.s = (1 : Int) ∨ i_6.s = (2 : Int)) ∧ i_6.l.length ≤ (1000000 : Nat)) ∧ ∀ (o : Unit), True → ∃ (i_7 : AllJ), sb i_7.i.p.code = sb i.p.code ∧ iE i_7.i.p.months = iE i.p.months ∧ i_7.i.p.tick = i.p.tick ∧ i_7.i.p.low = i.p.low ∧ i_7.i.p.high = i.p.high ∧ i_7.i.p.wide = i.p.wide ∧ i_7.i.p.rule = i.p.rule ∧ i_7.i.p.top = i.p.top ∧ i_7.i.p.least = i.p.least ∧ i_7.i.p.part = i.p.part ∧ iE i_7.i.p.settle = iE i.p.settle ∧ List.map topE i_7.i.tops = List.map topE i.s.tops ∧ i_7.i.inst = (↑i_4 : Int) ∧ sideN i_7.s = (2 : Int) ∧ ((i_7.i.p.code.length ≤ (1099511627776 : Nat) ∧ i_7.i.p.months.length ≤ (1099511627776 : Nat) ∧ i_7.i.p.settle.length ≤ (1099511627776 : Nat)) ∧ i_7.i.tops.length ≤ (1000000 : Nat) ∧ ∀ (t : Top), t ∈ i_7.i.tops → ((-9223372036854775808 : Int) ≤ t.p1 ∧ t.p1 ≤ (9223372036854775807 : Int)) ∧ (-9223372036854775808 : Int) ≤ t.p2 ∧ t.p2 ≤ (9223372036854775807 : Int)) ∧ ∀ (o : Unit), True → ∃ (i_8 : BsI), List.map quoteE i_8.l = List.map quoteE (quotesQ i_7.i (sideN i_7.s)) ∧ i_8.s = (2 : Int) ∧ ((i_8.s = (1 : Int) ∨ i_8.s = (2 : Int)) ∧ i_8.l.length ≤ (1000000 : Nat)) ∧ ∀ (o : Unit), True → cnd b (∃ (i_9 : CrI), i_9.x = n ∧ i_9.y = (bestQ i_8.l i_8.s).fst.price ∧ i_9.b = (bestQ i_8.l i_8.s).snd ∧ True ∧ ∀ (o : Unit), True → cnd (i_9.b && decide (i_9.y ≤ i_9.x)) (∃ (o : Unit), booksErr i.p i.s.tops = (21 : Int) ∧ AObj.adt MSt (5 : Nat) StateU i.s = AObj.adt MSt (5 : Nat) StateU i_2 ∧ True) (cnd b_1 (∃ (i_10 : CrI), i_10.x = (bestQ i_6.l i_6.s).fst.price ∧ i_10.y = n_1 ∧ i_10.b = (bestQ i_6.l i_6.s).snd ∧ True ∧ ∀ (o : Unit), True → cnd (i_10.b && decide (i_10.y ≤ i_10.x)) (∃ (o : Unit), booksErr i.p i.s.tops = (21 : Int) ∧ AObj.adt MSt (5 : Nat) StateU i.s = AObj.adt MSt (5 : Nat) StateU i_2 ∧ True) (∃ (i' : Nat), (↑i' : Int) = IntKind.i64.wrap ((↑i_4 : Int) + (1 : Int)) ∧ AObj.fro (6 : Nat) (List.map topE i.s.tops) = AObj.fro (6 : Nat) (List.map topE i.s.tops) ∧ I i' ∧ μ i' < μ i_4 ∧ AObj.adt MSt (5 : Nat) StateU i_2 = AObj.adt MSt (5 : Nat) StateU i_2 ∧ Vbooksr0 i = Vbooksr0 i ∧ AObj.fro (1 : Nat) (iE i.p.settle) = AObj.fro (1 : Nat) (iE i.p.settle) ∧ AObj.fro (1 : Nat) (iE i.p.months) = AObj.fro (1 : Nat) (iE i.p.months))) (∃ (i_10 : CrI), i_10.x = (bestQ i_6.l i_6.s).fst.price ∧ i_10.y = n_1 ∧ i_10.b = false ∧ True ∧ ∀ (o : Unit), True → cnd (i_10.b && decide (i_10.y ≤ i_10.x)) (∃ (o : Unit), booksErr i.p i.s.tops = (21 : Int) ∧ AObj.adt MSt (5 : Nat) StateU i.s = AObj.adt MSt (5 : Nat) StateU i_2 ∧ True) (∃ (i' : Nat), (↑i' : Int) = IntKind.i64.wrap ((↑i_4 : Int) + (1 : Int)) ∧ AObj.fro (6 : Nat) (List.map topE i.s.tops) = AObj.fro (6 : Nat) (List.map topE i.s.tops) ∧ I i' ∧ μ i' < μ i_4 ∧ AObj.adt MSt (5 : Nat) StateU i_2 = AObj.adt MSt (5 : Nat) StateU i_2 ∧ Vbooksr0 i = Vbooksr0 i ∧ AObj.fro (1 : Nat) (iE i.p.settle) = AObj.fro (1 : Nat) (iE i.p.settle) ∧ AObj.fro (1 : Nat) (iE i.p.months) = AObj.fro (1 : Nat) (iE i.p.months))))) (∃ (i_9 : CrI), i_9.x = n ∧ i_9.y = (bestQ i_8.l i_8.s).fst.price ∧ i_9.b = false ∧ True ∧ ∀ (o : Unit), True → cnd (i_9.b && decide (i_9.y ≤ i_9.x)) (∃ (o : Unit), booksErr i.p i.s.tops = (21 : Int) ∧ AObj.adt MSt (5 : Nat) StateU i.s = AObj.adt MSt (5 : Nat) StateU i_2 ∧ True) (cnd b_1 (∃ (i_10 : CrI), i_10.x = (bestQ i_6.l i_6.s).fst.price ∧ i_10.y = n_1 ∧ i_10.b = (bestQ i_6.l i_6.s).snd ∧ True ∧ ∀ (o : Unit), True → cnd (i_10.b && decide (i_10.y ≤ i_10.x)) (∃ (o : Unit), booksErr i.p i.s.tops = (21 : Int) ∧ AObj.adt MSt (5 : Nat) StateU i.s = AObj.adt MSt (5 : Nat) StateU i_2 ∧ True) (∃ (i' : Nat), (↑i' : Int) = IntKind.i64.wrap ((↑i_4 : Int) + (1 : Int)) ∧ AObj.fro (6 : Nat) (List.map topE i.s.tops) = AObj.fro (6 : Nat) (List.map topE i.s.tops) ∧ I i' ∧ μ i' < μ i_4 ∧ AObj.adt MSt (5 : Nat) StateU i_2 = AObj.adt MSt (5 : Nat) StateU i_2 ∧ Vbooksr0 i = Vbooksr0 i ∧ AObj.fro (1 : Nat) (iE i.p.settle) = AObj.fro (1 : Nat) (iE i.p.settle) ∧ AObj.fro (1 : Nat) (iE i.p.months) = AObj.fro (1 : Nat) (iE i.p.months))) (∃ (i_10 : CrI), i_10.x = (bestQ i_6.l i_6.s).fst.price ∧ i_10.y = n_1 ∧ i_10.b = false ∧ True ∧ ∀ (o : Unit), True → cnd (i_10.b && decide (i_10.y ≤ i_10.x)) (∃ (o : Unit), booksErr i.p i.s.tops = (21 : Int) ∧ AObj.adt MSt (5 : Nat) StateU i.s = AObj.adt MSt (5 : Nat) StateU i_2 ∧ True) (∃ (i' : Nat), (↑i' : Int) = IntKind.i64.wrap ((↑i_4 : Int) + (1 : Int)) ∧ AObj.fro (6 : Nat) (List.map topE i.s.tops) = AObj.fro (6 : Nat) (List.map topE i.s.tops) ∧ I i' ∧ μ i' < μ i_4 ∧ AObj.adt MSt (5 : Nat) StateU i_2 = AObj.adt MSt (5 : Nat) StateU i_2 ∧ Vbooksr0 i = Vbooksr0 i ∧ AObj.fro (1 : Nat) (iE i.p.settle) = AObj.fro (1 : Nat) (iE i.p.settle) ∧ AObj.fro (1 : Nat) (iE i.p.months) = AObj.fro (1 : Nat) (iE i.p.months)))))) (∃ (o : Unit), booksErr i.p i.s.tops = (0 : Int) ∧ AObj.adt MSt (5 : Nat) StateU i.s = AObj.adt MSt (5 : Nat) StateU i_2 ∧ True)))
theorem eqbooks (i : BkI) : Vbooks i = walk Try.prog ([(27, checkC), (18, topsC), (44, crossC), (46, quotesC), (45, bestQC)]) 0 ([]) (booksA i) [] Try.f22 (Try.f22.body.getD .skip) (booksC.pat i) (booksC.pre i) (booksC.alts i) := by kernel_rfl

theorem bybooks (hG : GOk Try.prog ([(27, checkC), (18, topsC), (44, crossC), (46, quotesC), (45, bestQC)])) (h : ∀ (i : BkI), booksC.cnd i → Vbooks i) : booksC.ok Try.prog 22 := ok_of_walk mixed ([(27, checkC), (18, topsC), (44, crossC), (46, quotesC), (45, bestQC)]) hG 0 (fun (i : BkI) => []) (fun (i : BkI) => booksA i) [] Try.func22 (by kernel_rfl) (by kernel_rfl) (by kernel_rfl) (fun _ => by kernel_rfl) (fun (i : BkI) hc => Eq.mp (eqbooks i) (h i hc))

def VbooksNil (p : Prd) : Prop :=
  ∃ (i : Prd), sb i.code = sb p.code ∧ iE i.months = iE p.months ∧ i.tick = p.tick ∧ i.low = p.low ∧ i.high = p.high ∧ i.wide = p.wide ∧ i.rule = p.rule ∧ i.top = p.top ∧ i.least = p.least ∧ i.part = p.part ∧ iE i.settle = iE p.settle ∧ (i.code.length ≤ (1099511627776 : Nat) ∧ i.months.length ≤ (1099511627776 : Nat) ∧ i.settle.length ≤ (1099511627776 : Nat)) ∧ ∀ (o : Unit), True → cnd (i.check != (0 : Int)) (∃ (o : Unit), (1 : Int) = (1 : Int) ∧ True) (∃ (o : Unit), (1 : Int) = (1 : Int) ∧ True)
theorem eqbooksNil (p : Prd) : VbooksNil p = walk Try.prog ([(27, checkC)]) 0 ([]) ([]) [] Try.f22 (Try.f22.body.getD .skip) (booksNilC.pat p) (booksNilC.pre p) (booksNilC.alts p) := by kernel_rfl

theorem bybooksNil (hG : GOk Try.prog ([(27, checkC)])) (h : ∀ (p : Prd), booksNilC.cnd p → VbooksNil p) : booksNilC.ok Try.prog 22 := ok_of_walk mixed ([(27, checkC)]) hG 0 (fun (p : Prd) => []) (fun (p : Prd) => []) [] Try.func22 (by kernel_rfl) (by kernel_rfl) (by kernel_rfl) (fun _ => by kernel_rfl) (fun (p : Prd) hc => Eq.mp (eqbooksNil p) (h p hc))

end Sx

namespace Sx
set_option linter.unusedVariables false
set_option linter.unusedSimpArgs false
set_option maxRecDepth 100000
open Go Cv Go.Proofs

theorem any_true {n k : Nat} {f : Nat → Bool} (hk : k < n) (h : f k = true) : (List.range n).any f = true := by
  rw [List.any_eq_true]; exact ⟨k, by simpa using hk, h⟩
theorem any_false {n : Nat} {f : Nat → Bool} (h : ∀ k < n, f k = false) : (List.range n).any f = false := by
  rw [List.any_eq_false]; intro k hk; simp [h k (by simpa using hk)]
theorem quotesQ_len (i : AllI) (s : Int) : (quotesQ i s).length ≤ 100 := Nat.le_trans (List.length_filter_le _ _) (allQ_len i s)

theorem vbooks (i : BkI) (h : booksC.cnd i) : Vbooks i := by
  obtain ⟨⟨h1, h2, h3⟩, ⟨hb1, hb2⟩, ⟨ht1, ht2⟩⟩ : i.p.small ∧ i.s.cntOk ∧ topsOk i.s.tops := h
  refine ⟨i.p, ?_⟩
  simp only [List.length_map]
  (repeat' (first | exact rfl | exact trivial | assumption | apply And.intro | (refine fun (_ : Unit) (_ : True) => ?_) | (refine Exists.intro () ?_) | omega | (dsimp only; omega)))
  refine Cv.cnd.mk (fun c => ⟨(), by rw [booksErr, if_pos (by simpa using c)], by (repeat' (first | exact rfl | exact trivial | assumption | apply And.intro | (refine fun (_ : Unit) (_ : True) => ?_) | (refine Exists.intro () ?_) | omega | (dsimp only; omega))), trivial⟩) fun c => ⟨i.s, ?_⟩
  (repeat' (first | exact rfl | exact trivial | assumption | apply And.intro | (refine fun (_ : Unit) (_ : True) => ?_) | (refine Exists.intro () ?_) | omega | (dsimp only; omega)))
  have c : i.p.check = 0 := by simpa using c
  generalize hT : i.s.tops = T at *
  have e0 : booksErr i.p T = if (List.range T.length).any (fun n => crossT (T.getD n top0)) then 23 else if (List.range T.length).any (meetsAt i.p T) then 21 else 0 := by
    rw [booksErr, if_neg (by simp [c])]
  refine ⟨0, rfl, fun j => j ≤ T.length ∧ ∀ k < j, crossT (T.getD k top0) = false, fun j => T.length - j, ⟨by omega, fun k hk => by omega⟩, ?_⟩
  rintro j ⟨g1, g2⟩
  refine cndD (fun hlt => ?_) (fun hlt => ?_)
  · have hj : j < T.length := by omega
    obtain ⟨t, ht⟩ := getI hj
    have hg : T.getD j top0 = t := by rw [List.getD_eq_getElem?_getD, ht]; rfl
    have bad (e : crossT t = true) : booksErr i.p T = 23 := by
      rw [e0, if_pos (any_true hj (by rw [hg]; exact e))]
    have good (e : crossT t = false) : ∀ k < j + 1, crossT (T.getD k top0) = false := fun k hk => by
      rcases Nat.lt_or_ge k j with h | h
      · exact g2 k h
      · obtain rfl : k = j := by omega
        rw [hg]; exact e
    refine ⟨⟨by omega, by omega⟩, t.has1, t.has2, t.p1, t.p2, t.q1, t.q2, elA ht (by simp [topE]) rfl, Cv.cnd.mk (fun b1 => ⟨⟨t.p1, t.p2, t.has2⟩, rfl, rfl, rfl, trivial, fun _ _ => ?_⟩) (fun b1 => ⟨⟨t.p1, t.p2, false⟩, rfl, rfl, rfl, trivial, fun _ _ => ?_⟩)⟩
    · have ec : crossT t = (t.has2 && decide (t.p2 ≤ t.p1)) := by
        have b1 : t.has1 = true := b1
        rw [crossT, crossB, b1, Bool.true_and]
      refine Cv.cnd.mk (fun e => ⟨(), bad (by rw [ec]; exact e), by (repeat' (first | exact rfl | exact trivial | assumption | apply And.intro | (refine fun (_ : Unit) (_ : True) => ?_) | (refine Exists.intro () ?_) | omega | (dsimp only; omega))), trivial⟩) (fun e => ⟨j + 1, by rw [w64 (by omega)]; rfl, ⟨by omega, good (by rw [ec]; exact e)⟩, by (first | omega | (dsimp only; omega)), by (repeat' (first | exact rfl | exact trivial | assumption | apply And.intro | (refine fun (_ : Unit) (_ : True) => ?_) | (refine Exists.intro () ?_) | omega | (dsimp only; omega)))⟩)
    · have ec : crossT t = false := by
        have b1 : t.has1 = false := b1
        rw [crossT, crossB, b1, Bool.false_and, Bool.false_and]
      refine Cv.cnd.mk (fun e => absurd e (by simp)) (fun e => ⟨j + 1, by rw [w64 (by omega)]; rfl, ⟨by omega, good ec⟩, by (first | omega | (dsimp only; omega)), by (repeat' (first | exact rfl | exact trivial | assumption | apply And.intro | (refine fun (_ : Unit) (_ : True) => ?_) | (refine Exists.intro () ?_) | omega | (dsimp only; omega)))⟩)
  · obtain rfl : j = T.length := by omega
    have e1 : booksErr i.p T = if (List.range T.length).any (meetsAt i.p T) then 21 else 0 := by
      rw [e0, if_neg (by rw [any_false g2]; simp)]
    refine ⟨0, rfl, by (repeat' (first | exact rfl | exact trivial | assumption | apply And.intro | (refine fun (_ : Unit) (_ : True) => ?_) | (refine Exists.intro () ?_) | omega | (dsimp only; omega))), fun j => j ≤ T.length ∧ ∀ k < j, meetsAt i.p T k = false, fun j => T.length - j, ⟨by omega, fun k hk => by omega⟩, ?_⟩
    rintro j ⟨f1, f2⟩
    refine cndD (fun hlt2 => ?_) (fun hlt2 => ?_)
    · have hj : j < T.length := by omega
      obtain ⟨t, ht⟩ := getI hj
      have hg : T.getD j top0 = t := by rw [List.getD_eq_getElem?_getD, ht]; rfl
      have em : meetsAt i.p T j = (crossB t.p1 (bestQ (quotesQ ⟨i.p, T, j⟩ 2) 2).1.price (t.has1 && (bestQ (quotesQ ⟨i.p, T, j⟩ 2) 2).2) || crossB (bestQ (quotesQ ⟨i.p, T, j⟩ 1) 1).1.price t.p2 (t.has2 && (bestQ (quotesQ ⟨i.p, T, j⟩ 1) 1).2)) := by
        simp only [meetsAt, hg]
      have q1 := quotesQ_len ⟨i.p, T, j⟩ 1
      have q2 := quotesQ_len ⟨i.p, T, j⟩ 2
      have bad (e : meetsAt i.p T j = true) : booksErr i.p T = 21 := by
        rw [e1, if_pos (any_true hj e)]
      have good (e : meetsAt i.p T j = false) : ∀ k < j + 1, meetsAt i.p T k = false := fun k hk => by
        rcases Nat.lt_or_ge k j with h | h
        · exact f2 k h
        · obtain rfl : k = j := by omega
          exact e
      refine ⟨⟨by omega, by omega⟩, t.has1, t.has2, t.p1, t.p2, t.q1, t.q2, elA ht (by simp [topE]) rfl, ⟨⟨i.p, T, j⟩, false⟩, ?_⟩
      (repeat' (first | exact rfl | exact trivial | assumption | apply And.intro | (refine fun (_ : Unit) (_ : True) => ?_) | (refine Exists.intro () ?_) | omega | (dsimp only; omega)))
      refine ⟨⟨quotesQ ⟨i.p, T, j⟩ 1, 1⟩, ?_⟩
      (repeat' (first | exact rfl | exact trivial | assumption | apply And.intro | (refine fun (_ : Unit) (_ : True) => ?_) | (refine Exists.intro () ?_) | omega | (dsimp only; omega)))
      refine ⟨⟨⟨i.p, T, j⟩, true⟩, ?_⟩
      (repeat' (first | exact rfl | exact trivial | assumption | apply And.intro | (refine fun (_ : Unit) (_ : True) => ?_) | (refine Exists.intro () ?_) | omega | (dsimp only; omega)))
      refine ⟨⟨quotesQ ⟨i.p, T, j⟩ 2, 2⟩, ?_⟩
      (repeat' (first | exact rfl | exact trivial | assumption | apply And.intro | (refine fun (_ : Unit) (_ : True) => ?_) | (refine Exists.intro () ?_) | omega | (dsimp only; omega)))
      have inner : crossB t.p1 (bestQ (quotesQ ⟨i.p, T, j⟩ 2) 2).1.price (t.has1 && (bestQ (quotesQ ⟨i.p, T, j⟩ 2) 2).2) = false → meetsAt i.p T j = crossB (bestQ (quotesQ ⟨i.p, T, j⟩ 1) 1).1.price t.p2 (t.has2 && (bestQ (quotesQ ⟨i.p, T, j⟩ 1) 1).2) := fun e => by rw [em, e, Bool.false_or]
      refine Cv.cnd.mk (fun b1 => ⟨⟨t.p1, (bestQ (quotesQ ⟨i.p, T, j⟩ 2) 2).1.price, (bestQ (quotesQ ⟨i.p, T, j⟩ 2) 2).2⟩, rfl, rfl, rfl, trivial, fun _ _ => Cv.cnd.mk (fun e => ?_) (fun e => ?_)⟩) (fun b1 => ⟨⟨t.p1, (bestQ (quotesQ ⟨i.p, T, j⟩ 2) 2).1.price, false⟩, rfl, rfl, rfl, trivial, fun _ _ => Cv.cnd.mk (fun e => ?_) (fun e => ?_)⟩)
      · have b1 : t.has1 = true := b1
        refine ⟨(), bad ?_, by (repeat' (first | exact rfl | exact trivial | assumption | apply And.intro | (refine fun (_ : Unit) (_ : True) => ?_) | (refine Exists.intro () ?_) | omega | (dsimp only; omega))), trivial⟩
        rw [em, b1, Bool.true_and, show crossB t.p1 (bestQ (quotesQ ⟨i.p, T, j⟩ 2) 2).1.price (bestQ (quotesQ ⟨i.p, T, j⟩ 2) 2).2 = true from e, Bool.true_or]
      · have b1 : t.has1 = true := b1
        have eI := inner (by rw [b1, Bool.true_and]; exact e)
        refine Cv.cnd.mk (fun b2 => ⟨⟨(bestQ (quotesQ ⟨i.p, T, j⟩ 1) 1).1.price, t.p2, (bestQ (quotesQ ⟨i.p, T, j⟩ 1) 1).2⟩, rfl, rfl, rfl, trivial, fun _ _ => ?_⟩) (fun b2 => ⟨⟨(bestQ (quotesQ ⟨i.p, T, j⟩ 1) 1).1.price, t.p2, false⟩, rfl, rfl, rfl, trivial, fun _ _ => ?_⟩)
        · have b2 : t.has2 = true := b2
          rw [b2, Bool.true_and] at eI
          refine Cv.cnd.mk (fun e2 => ⟨(), bad (by rw [eI]; exact e2), by (repeat' (first | exact rfl | exact trivial | assumption | apply And.intro | (refine fun (_ : Unit) (_ : True) => ?_) | (refine Exists.intro () ?_) | omega | (dsimp only; omega))), trivial⟩) (fun e2 => ⟨j + 1, by rw [w64 (by omega)]; rfl, by (repeat' (first | exact rfl | exact trivial | assumption | apply And.intro | (refine fun (_ : Unit) (_ : True) => ?_) | (refine Exists.intro () ?_) | omega | (dsimp only; omega))), ⟨by omega, good (by rw [eI]; exact e2)⟩, by (first | omega | (dsimp only; omega)), by (repeat' (first | exact rfl | exact trivial | assumption | apply And.intro | (refine fun (_ : Unit) (_ : True) => ?_) | (refine Exists.intro () ?_) | omega | (dsimp only; omega)))⟩)
        · have b2 : t.has2 = false := b2
          rw [b2, Bool.false_and] at eI
          refine Cv.cnd.mk (fun e2 => absurd e2 (by simp)) (fun e2 => ⟨j + 1, by rw [w64 (by omega)]; rfl, by (repeat' (first | exact rfl | exact trivial | assumption | apply And.intro | (refine fun (_ : Unit) (_ : True) => ?_) | (refine Exists.intro () ?_) | omega | (dsimp only; omega))), ⟨by omega, good (by rw [eI]; rfl)⟩, by (first | omega | (dsimp only; omega)), by (repeat' (first | exact rfl | exact trivial | assumption | apply And.intro | (refine fun (_ : Unit) (_ : True) => ?_) | (refine Exists.intro () ?_) | omega | (dsimp only; omega)))⟩)
      · exact absurd e (by simp)
      · have b1 : t.has1 = false := b1
        have eI := inner (by rw [b1, Bool.false_and]; rfl)
        refine Cv.cnd.mk (fun b2 => ⟨⟨(bestQ (quotesQ ⟨i.p, T, j⟩ 1) 1).1.price, t.p2, (bestQ (quotesQ ⟨i.p, T, j⟩ 1) 1).2⟩, rfl, rfl, rfl, trivial, fun _ _ => ?_⟩) (fun b2 => ⟨⟨(bestQ (quotesQ ⟨i.p, T, j⟩ 1) 1).1.price, t.p2, false⟩, rfl, rfl, rfl, trivial, fun _ _ => ?_⟩)
        · have b2 : t.has2 = true := b2
          rw [b2, Bool.true_and] at eI
          refine Cv.cnd.mk (fun e2 => ⟨(), bad (by rw [eI]; exact e2), by (repeat' (first | exact rfl | exact trivial | assumption | apply And.intro | (refine fun (_ : Unit) (_ : True) => ?_) | (refine Exists.intro () ?_) | omega | (dsimp only; omega))), trivial⟩) (fun e2 => ⟨j + 1, by rw [w64 (by omega)]; rfl, by (repeat' (first | exact rfl | exact trivial | assumption | apply And.intro | (refine fun (_ : Unit) (_ : True) => ?_) | (refine Exists.intro () ?_) | omega | (dsimp only; omega))), ⟨by omega, good (by rw [eI]; exact e2)⟩, by (first | omega | (dsimp only; omega)), by (repeat' (first | exact rfl | exact trivial | assumption | apply And.intro | (refine fun (_ : Unit) (_ : True) => ?_) | (refine Exists.intro () ?_) | omega | (dsimp only; omega)))⟩)
        · have b2 : t.has2 = false := b2
          rw [b2, Bool.false_and] at eI
          refine Cv.cnd.mk (fun e2 => absurd e2 (by simp)) (fun e2 => ⟨j + 1, by rw [w64 (by omega)]; rfl, by (repeat' (first | exact rfl | exact trivial | assumption | apply And.intro | (refine fun (_ : Unit) (_ : True) => ?_) | (refine Exists.intro () ?_) | omega | (dsimp only; omega))), ⟨by omega, good (by rw [eI]; rfl)⟩, by (first | omega | (dsimp only; omega)), by (repeat' (first | exact rfl | exact trivial | assumption | apply And.intro | (refine fun (_ : Unit) (_ : True) => ?_) | (refine Exists.intro () ?_) | omega | (dsimp only; omega)))⟩)
    · obtain rfl : j = T.length := by omega
      rw [e1, if_neg (by rw [any_false f2]; simp)]
      (repeat' (first | exact rfl | exact trivial | assumption | apply And.intro | (refine fun (_ : Unit) (_ : True) => ?_) | (refine Exists.intro () ?_) | omega | (dsimp only; omega)))

theorem books_ok : booksC.ok Try.prog 22 := bybooks (gokc check_ok (gokc tops_ok (gokc cross_ok (gokc quotes_ok (gokc bestQ_ok gok0))))) vbooks

theorem booksNil_ok : booksNilC.ok Try.prog 22 := bybooksNil (gokc check_ok gok0) fun p h => by
  obtain ⟨h1, h2, h3⟩ : p.small := h
  refine ⟨p, ?_⟩; (repeat' (first | exact rfl | exact trivial | assumption | apply And.intro | (refine fun (_ : Unit) (_ : True) => ?_) | (refine Exists.intro () ?_) | omega | (dsimp only; omega)))
  refine Cv.cnd.mk (fun c => ?_) (fun c => ?_) <;> (repeat' (first | exact rfl | exact trivial | assumption | apply And.intro | (refine fun (_ : Unit) (_ : True) => ?_) | (refine Exists.intro () ?_) | omega | (dsimp only; omega)))

end Sx

namespace Sx
set_option linter.unusedVariables false
set_option maxRecDepth 100000
open Go Cv Go.Proofs

structure Mkt where
  p : Prd
  s : MSt
  used : List Int
def usedE (l : List Int) : List (Value × List D) := l.map fun x => (.int .i64 x, [.v (.bool true)])
def MktU (m : Mkt) : Nat → AObj
  | 0 => .cells [sV m.p.code, .own 3, i64V m.p.tick, i64V m.p.low, i64V m.p.high, i64V m.p.wide, i64V m.p.rule, i64V m.p.top, i64V m.p.least, i64V m.p.part, .own 4, .nm 1 0, .mp 2] 116
  | 1 => StateR m.s
  | 2 => .map (usedE m.used)
  | 3 => .fro 1 (iE m.p.months)
  | 4 => .fro 1 (iE m.p.settle)
  | _ => .gone
def MktR (m : Mkt) : AObj := .adt Mkt 5 MktU m
def newMC : Con where
  ι := Prd
  pat := fun p => [prdV p]
  pre := fun _ => []
  cnd := fun p => p.small
  alts := fun p => [{ o := Unit, res := fun _ => .tup [.nm 0 0, i64V 0], post := fun _ => [MktR ⟨p, state0 p, []⟩], rel := fun _ => p.check = 0 }, { o := Unit, res := fun _ => .tup [.d (.v (.pointer none)), i64V p.check], post := fun _ => [], rel := fun _ => p.check ≠ 0 }]
def stateC : Con := con1 Mkt (fun _ => [.nm 0 0]) (fun m => [MktR m]) (fun m => m.s.small) (fun _ => .nm 1 0) (fun m => [MktR m, StateR m.s])

end Sx

namespace Sx
set_option linter.unusedVariables false
set_option maxRecDepth 100000
open Go Cv Go.Proofs
def VnewM (p : Prd) : Prop :=
  ∃ (i : Prd), sb i.code = sb p.code ∧ iE i.months = iE p.months ∧ i.tick = p.tick ∧ i.low = p.low ∧ i.high = p.high ∧ i.wide = p.wide ∧ i.rule = p.rule ∧ i.top = p.top ∧ i.least = p.least ∧ i.part = p.part ∧ iE i.settle = iE p.settle ∧ (i.code.length ≤ (1099511627776 : Nat) ∧ i.months.length ≤ (1099511627776 : Nat) ∧ i.settle.length ≤ (1099511627776 : Nat)) ∧ (∀ (o : Unit), i.check = (0 : Int) → (True ∧ True ∧ (((0 : Nat) + (iE p.months).length) * (8 : Nat) ≤ (70368744177664 : Nat) ∧ True ∧ True ∧ ((0 : Nat) + (iE p.settle).length) * (8 : Nat) ≤ (70368744177664 : Nat) ∧ ((∃ (o : Unit), (0 : Int) = (0 : Int) ∧ sb p.code = sb p.code ∧ p.tick = p.tick ∧ p.low = p.low ∧ p.high = p.high ∧ p.wide = p.wide ∧ p.rule = p.rule ∧ p.top = p.top ∧ p.least = p.least ∧ p.part = p.part ∧ AObj.adt MSt (5 : Nat) StateU (state0 p) = AObj.adt MSt (5 : Nat) StateU (state0 i) ∧ usedE [] = [] ∧ iE p.months = [] ++ iE p.months ∧ iE p.settle = [] ++ iE p.settle ∧ p.check = (0 : Int)) ∨ ∃ (o : Unit), False)) ∧ True ∧ True ∧ ((0 : Nat) + (iE p.months).length) * (8 : Nat) ≤ (70368744177664 : Nat) ∧ True ∧ ((0 : Nat) + (iE p.settle).length) * (8 : Nat) ≤ (70368744177664 : Nat) ∧ ((∃ (o : Unit), (0 : Int) = (0 : Int) ∧ sb p.code = sb p.code ∧ p.tick = p.tick ∧ p.low = p.low ∧ p.high = p.high ∧ p.wide = p.wide ∧ p.rule = p.rule ∧ p.top = p.top ∧ p.least = p.least ∧ p.part = p.part ∧ AObj.adt MSt (5 : Nat) StateU (state0 p) = AObj.adt MSt (5 : Nat) StateU (state0 i) ∧ usedE [] = [] ∧ iE p.months = [] ++ iE p.months ∧ iE p.settle = [] ++ iE p.settle ∧ p.check = (0 : Int)) ∨ ∃ (o : Unit), False)) ∧ True ∧ True ∧ True ∧ True ∧ ((0 : Nat) + (iE p.months).length) * (8 : Nat) ≤ (70368744177664 : Nat) ∧ True ∧ ((0 : Nat) + (iE p.settle).length) * (8 : Nat) ≤ (70368744177664 : Nat) ∧ ((∃ (o : Unit), (0 : Int) = (0 : Int) ∧ sb p.code = sb p.code ∧ p.tick = p.tick ∧ p.low = p.low ∧ p.high = p.high ∧ p.wide = p.wide ∧ p.rule = p.rule ∧ p.top = p.top ∧ p.least = p.least ∧ p.part = p.part ∧ AObj.adt MSt (5 : Nat) StateU (state0 p) = AObj.adt MSt (5 : Nat) StateU (state0 i) ∧ usedE [] = [] ∧ iE p.months = [] ++ iE p.months ∧ iE p.settle = [] ++ iE p.settle ∧ p.check = (0 : Int)) ∨ ∃ (o : Unit), False)) ∧ ∀ (o : Unit), i.check ≠ (0 : Int) → cnd (i.check != (0 : Int)) ((∃ (o : Unit), False) ∨ ∃ (o : Unit), True ∧ p.check = i.check ∧ (p.check = (0 : Int) → False)) ((True ∧ True ∧ (((0 : Nat) + (iE p.months).length) * (8 : Nat) ≤ (70368744177664 : Nat) ∧ True ∧ True ∧ ((0 : Nat) + (iE p.settle).length) * (8 : Nat) ≤ (70368744177664 : Nat) ∧ ((∃ (o : Unit), (0 : Int) = (0 : Int) ∧ sb p.code = sb p.code ∧ p.tick = p.tick ∧ p.low = p.low ∧ p.high = p.high ∧ p.wide = p.wide ∧ p.rule = p.rule ∧ p.top = p.top ∧ p.least = p.least ∧ p.part = p.part ∧ False) ∨ ∃ (o : Unit), False)) ∧ True ∧ True ∧ ((0 : Nat) + (iE p.months).length) * (8 : Nat) ≤ (70368744177664 : Nat) ∧ True ∧ ((0 : Nat) + (iE p.settle).length) * (8 : Nat) ≤ (70368744177664 : Nat) ∧ ((∃ (o : Unit), (0 : Int) = (0 : Int) ∧ sb p.code = sb p.code ∧ p.tick = p.tick ∧ p.low = p.low ∧ p.high = p.high ∧ p.wide = p.wide ∧ p.rule = p.rule ∧ p.top = p.top ∧ p.least = p.least ∧ p.part = p.part ∧ False) ∨ ∃ (o : Unit), False)) ∧ True ∧ True ∧ True ∧ True ∧ ((0 : Nat) + (iE p.months).length) * (8 : Nat) ≤ (70368744177664 : Nat) ∧ True ∧ ((0 : Nat) + (iE p.settle).length) * (8 : Nat) ≤ (70368744177664 : Nat) ∧ ((∃ (o : Unit), (0 : Int) = (0 : Int) ∧ sb p.code = sb p.code ∧ p.tick = p.tick ∧ p.low = p.low ∧ p.high = p.high ∧ p.wide = p.wide ∧ p.rule = p.rule ∧ p.top = p.top ∧ p.least = p.least ∧ p.part = p.part ∧ False) ∨ ∃ (o : Unit), False))
theorem eqnewM (p : Prd) : VnewM p = walk Try.prog ([(15, newSC)]) 0 ([]) ([]) [] Try.f36 (Try.f36.body.getD .skip) (newMC.pat p) (newMC.pre p) (newMC.alts p) := by kernel_rfl

theorem bynewM (hG : GOk Try.prog ([(15, newSC)])) (h : ∀ (p : Prd), newMC.cnd p → VnewM p) : newMC.ok Try.prog 36 := ok_of_walk mixed ([(15, newSC)]) hG 0 (fun (p : Prd) => []) (fun (p : Prd) => []) [] Try.func36 (by kernel_rfl) (by kernel_rfl) (by kernel_rfl) (fun _ => by kernel_rfl) (fun (p : Prd) hc => Eq.mp (eqnewM p) (h p hc))

def Vstate (m : Mkt) : Prop :=
  ∃ (i : MSt), AObj.adt MSt (5 : Nat) StateU i = AObj.adt MSt (5 : Nat) StateU m.s ∧ (i.books.length ≤ (1000000 : Nat) ∧ ∀ (b : Book), b ∈ i.books → (b.a.slots.length ≤ (1000000 : Nat) ∧ b.a.queues.length ≤ (1000000 : Nat)) ∧ b.buys.length ≤ (1000000 : Nat) ∧ b.sells.length ≤ (1000000 : Nat) ∧ b.spare.length ≤ (1000000 : Nat)) ∧ ∀ (o : Unit), True → ∃ (o : Unit), sb m.p.code = sb m.p.code ∧ m.p.tick = m.p.tick ∧ m.p.low = m.p.low ∧ m.p.high = m.p.high ∧ m.p.wide = m.p.wide ∧ m.p.rule = m.p.rule ∧ m.p.top = m.p.top ∧ m.p.least = m.p.least ∧ m.p.part = m.p.part ∧ AObj.adt MSt (5 : Nat) StateU m.s = AObj.adt MSt (5 : Nat) StateU i ∧ usedE m.used = usedE m.used ∧ AObj.fro (1 : Nat) (iE m.p.months) = AObj.fro (1 : Nat) (iE m.p.months) ∧ AObj.fro (1 : Nat) (iE m.p.settle) = AObj.fro (1 : Nat) (iE m.p.settle) ∧ AObj.adt MSt (5 : Nat) StateU m.s = AObj.adt MSt (5 : Nat) StateU i ∧ True
theorem eqstate (m : Mkt) : Vstate m = walk Try.prog ([(55, copySC)]) 0 ([]) ([]) [0] Try.f37 (Try.f37.body.getD .skip) (stateC.pat m) (stateC.pre m) (stateC.alts m) := by kernel_rfl

theorem bystate (hG : GOk Try.prog ([(55, copySC)])) (h : ∀ (m : Mkt), stateC.cnd m → Vstate m) : stateC.ok Try.prog 37 := ok_of_walk mixed ([(55, copySC)]) hG 0 (fun (m : Mkt) => []) (fun (m : Mkt) => []) [0] Try.func37 (by kernel_rfl) (by kernel_rfl) (by kernel_rfl) (fun _ => by kernel_rfl) (fun (m : Mkt) hc => Eq.mp (eqstate m) (h m hc))

end Sx

namespace Sx
set_option linter.unusedVariables false
set_option linter.unusedSimpArgs false
set_option maxRecDepth 100000
open Go Cv Go.Proofs

theorem state_ok : stateC.ok Try.prog 37 := bystate (gokc copyS_ok gok0) fun m h => by
  obtain ⟨h1, h2⟩ : m.s.small := h
  refine ⟨m.s, rfl, ⟨h1, h2⟩, fun _ _ => ⟨(), ?_⟩⟩
  (repeat' (first | exact rfl | exact trivial | assumption | apply And.intro | (refine fun (_ : Unit) (_ : True) => ?_) | (refine Exists.intro () ?_) | omega | (dsimp only; omega)))

theorem vnewM (p : Prd) (h : newMC.cnd p) : VnewM p := by
  obtain ⟨h1, h2, h3⟩ : p.small := h
  refine ⟨p, ?_⟩
  simp only [iE_len]
  (repeat' (first | exact rfl | exact trivial | assumption | apply And.intro | (refine fun (_ : Unit) (_ : True) => ?_) | (refine Exists.intro () ?_) | omega | (dsimp only; omega)))
  · intro _ c
    (repeat' (first | exact rfl | exact trivial | assumption | apply And.intro | (refine fun (_ : Unit) (_ : True) => ?_) | (refine Exists.intro () ?_) | omega | (dsimp only; omega)))
    all_goals (refine .inl ⟨(), ?_⟩; (repeat' (first | exact rfl | exact trivial | assumption | apply And.intro | (refine fun (_ : Unit) (_ : True) => ?_) | (refine Exists.intro () ?_) | omega | (dsimp only; omega))))
  · intro _ c
    refine Cv.cnd.mk (fun e => .inr ⟨(), trivial, by (repeat' (first | exact rfl | exact trivial | assumption | apply And.intro | (refine fun (_ : Unit) (_ : True) => ?_) | (refine Exists.intro () ?_) | omega | (dsimp only; omega))), c⟩) (fun e => absurd (by simpa using e) c)
theorem newM_ok : newMC.ok Try.prog 36 := bynewM (gokc newS_ok gok0) vnewM

end Sx

namespace Sx
set_option linter.unusedVariables false
set_option maxRecDepth 100000
open Go Cv Go.Proofs

structure Ledger where
  p : Prd
  left : List (Int × Int)
  inst : List (Int × Int)
  traded : List Int
  net : List Int
def LedgerU (l : Ledger) : Nat → AObj
  | 0 => .cells [sV l.p.code, .own 5, i64V l.p.tick, i64V l.p.low, i64V l.p.high, i64V l.p.wide, i64V l.p.rule, i64V l.p.top, i64V l.p.least, i64V l.p.part, .own 6, .mp 1, .mp 2, .own 3, .own 4] 73
  | 1 => .map (mapE l.left)
  | 2 => .map (mapE l.inst)
  | 3 => .own 2 1 (iE l.traded)
  | 4 => .own 2 1 (iE l.net)
  | 5 => .fro 1 (iE l.p.months)
  | 6 => .fro 1 (iE l.p.settle)
  | _ => .gone
def LedgerR (l : Ledger) : AObj := .adt Ledger 7 LedgerU l
def ledger0 (p : Prd) : Ledger := ⟨p, [], [], List.replicate p.count 0, List.replicate p.count 0⟩
def clIntRC : Con := con1 (List Int) (fun l => [iV l]) (fun _ => []) (fun l => l.length ≤ 1000000) (fun l => iV l) (fun _ => [])
def newLC : Con where
  ι := Prd
  pat := fun p => [prdV p]
  pre := fun _ => []
  cnd := fun p => p.small
  alts := fun p => [{ o := Unit, res := fun _ => .tup [.nm 0 0, i64V 0], post := fun _ => [LedgerR (ledger0 p)], rel := fun _ => p.check = 0 }, { o := Unit, res := fun _ => .tup [.d (.v (.pointer none)), i64V p.check], post := fun _ => [], rel := fun _ => p.check ≠ 0 }]
structure WiI where
  n : Int
  lo : Int
  hi : Int
def within (n lo hi : Int) : Int := lo + n % (hi - lo + 1)
def withinC : Con := con1 WiI (fun i => [i64V i.n, i64V i.lo, i64V i.hi]) (fun _ => []) (fun i => i64r i.n ∧ -1000000 ≤ i.lo ∧ i.lo ≤ i.hi ∧ i.hi ≤ 1000000) (fun i => i64V (within i.n i.lo i.hi)) (fun _ => [])
def three (rule : Int) : Prd := ⟨[67, 76], [320, 321, 323], 5, 0, 1000, 200, rule, 4, 2, 40, [500, 505, 490]⟩
def threeC : Con := con1 Int (fun n => [i64V n]) (fun _ => []) (fun _ => True) (fun n => prdV (three n)) (fun _ => [])

end Sx

namespace Sx
set_option linter.unusedVariables false
set_option maxRecDepth 100000
open Go Cv Go.Proofs
def VclIntR (l : List Int) : Prop :=
  ∀ (b : Bool), (b = true → iE l = []) → cnd b (∃ (o : Unit), iE l = [] ∧ True) (((0 : Nat) + (iE l).length) * (8 : Nat) ≤ (70368744177664 : Nat) ∧ ∃ (o : Unit), iE l = [] ++ iE l ∧ True)
theorem eqclIntR (l : List Int) : VclIntR l = walk Try.prog ([]) 0 ([]) ([]) [] Try.f29 (Try.f29.body.getD .skip) (clIntRC.pat l) (clIntRC.pre l) (clIntRC.alts l) := by kernel_rfl

theorem byclIntR (hG : GOk Try.prog ([])) (h : ∀ (l : List Int), clIntRC.cnd l → VclIntR l) : clIntRC.ok Try.prog 29 := ok_of_walk mixed ([]) hG 0 (fun (l : List Int) => []) (fun (l : List Int) => []) [] Try.func29 (by kernel_rfl) (by kernel_rfl) (by kernel_rfl) (fun _ => by kernel_rfl) (fun (l : List Int) hc => Eq.mp (eqclIntR l) (h l hc))

def VclInt64R (l : List Int) : Prop :=
  ∀ (b : Bool), (b = true → iE l = []) → cnd b (∃ (o : Unit), iE l = [] ∧ True) (((0 : Nat) + (iE l).length) * (8 : Nat) ≤ (70368744177664 : Nat) ∧ ∃ (o : Unit), iE l = [] ++ iE l ∧ True)
theorem eqclInt64R (l : List Int) : VclInt64R l = walk Try.prog ([]) 0 ([]) ([]) [] Try.f30 (Try.f30.body.getD .skip) (clIntRC.pat l) (clIntRC.pre l) (clIntRC.alts l) := by kernel_rfl

theorem byclInt64R (hG : GOk Try.prog ([])) (h : ∀ (l : List Int), clIntRC.cnd l → VclInt64R l) : clIntRC.ok Try.prog 30 := ok_of_walk mixed ([]) hG 0 (fun (l : List Int) => []) (fun (l : List Int) => []) [] Try.func30 (by kernel_rfl) (by kernel_rfl) (by kernel_rfl) (fun _ => by kernel_rfl) (fun (l : List Int) hc => Eq.mp (eqclInt64R l) (h l hc))

def VnewL (p : Prd) : Prop :=
  ∃ (i : Prd), sb i.code = sb p.code ∧ iE i.months = iE p.months ∧ i.tick = p.tick ∧ i.low = p.low ∧ i.high = p.high ∧ i.wide = p.wide ∧ i.rule = p.rule ∧ i.top = p.top ∧ i.least = p.least ∧ i.part = p.part ∧ iE i.settle = iE p.settle ∧ (i.code.length ≤ (1099511627776 : Nat) ∧ i.months.length ≤ (1099511627776 : Nat) ∧ i.settle.length ≤ (1099511627776 : Nat)) ∧ ∀ (o : Unit), True → cnd (i.check != (0 : Int)) ((∃ (o : Unit), False) ∨ ∃ (o : Unit), True ∧ p.check = i.check ∧ (p.check = (0 : Int) → False)) (∃ (i : Prd), sb i.code = sb p.code ∧ iE i.months = iE p.months ∧ i.tick = p.tick ∧ i.low = p.low ∧ i.high = p.high ∧ i.wide = p.wide ∧ i.rule = p.rule ∧ i.top = p.top ∧ i.least = p.least ∧ i.part = p.part ∧ iE i.settle = iE p.settle ∧ (i.code.length ≤ (1099511627776 : Nat) ∧ i.months.length ≤ (1099511627776 : Nat) ∧ i.settle.length ≤ (1099511627776 : Nat)) ∧ ∀ (o : Unit), True → ∃ (i_1 : List Int), iE i_1 = iE p.months ∧ i_1.length ≤ (1000000 : Nat) ∧ ∀ (o : Unit), True → True ∧ ∃ (i_2 : List Int), iE i_2 = iE p.settle ∧ i_2.length ≤ (1000000 : Nat) ∧ ∀ (o : Unit), True → ((sb p.code = sb p.code ∧ True ∧ p.tick = p.tick ∧ p.low = p.low ∧ p.high = p.high ∧ p.wide = p.wide ∧ p.rule = p.rule ∧ p.top = p.top ∧ p.least = p.least ∧ p.part = p.part ∧ True ∧ True) ∧ ((sb p.code = sb p.code ∧ True ∧ p.tick = p.tick ∧ p.low = p.low ∧ p.high = p.high ∧ p.wide = p.wide ∧ p.rule = p.rule ∧ p.top = p.top ∧ p.least = p.least ∧ p.part = p.part ∧ True ∧ True) ∧ (((0 : Int) ≤ (↑i.count : Int) ∧ (↑i.count : Int) ≤ (↑i.count : Int) ∧ (↑i.count : Int) ≤ (9223372036854775807 : Int) ∧ (↑(8 : Nat) : Int) * (↑i.count : Int) ≤ (2 : Int) ^ (48 : Nat)) ∧ (sb p.code = sb p.code ∧ True ∧ p.tick = p.tick ∧ p.low = p.low ∧ p.high = p.high ∧ p.wide = p.wide ∧ p.rule = p.rule ∧ p.top = p.top ∧ p.least = p.least ∧ p.part = p.part ∧ True ∧ True) ∧ ((0 : Int) ≤ (↑i.count : Int) ∧ (↑i.count : Int) ≤ (↑i.count : Int) ∧ (↑i.count : Int) ≤ (9223372036854775807 : Int) ∧ (↑(8 : Nat) : Int) * (↑i.count : Int) ≤ (2 : Int) ^ (48 : Nat)) ∧ (sb p.code = sb p.code ∧ True ∧ p.tick = p.tick ∧ p.low = p.low ∧ p.high = p.high ∧ p.wide = p.wide ∧ p.rule = p.rule ∧ p.top = p.top ∧ p.least = p.least ∧ p.part = p.part ∧ True ∧ True) ∧ ((∃ (o : Unit), (0 : Int) = (0 : Int) ∧ sb p.code = sb p.code ∧ p.tick = p.tick ∧ p.low = p.low ∧ p.high = p.high ∧ p.wide = p.wide ∧ p.rule = p.rule ∧ p.top = p.top ∧ p.least = p.least ∧ p.part = p.part ∧ mapE [] = [] ∧ mapE [] = [] ∧ iE (List.replicate p.count (0 : Int)) = List.replicate (↑i.count : Int).toNat [D.v (.int .i64 0)] ∧ iE (List.replicate p.count (0 : Int)) = List.replicate (↑i.count : Int).toNat [D.v (.int .i64 0)] ∧ AObj.fro (1 : Nat) (iE p.months) = AObj.fro (1 : Nat) (iE i_1) ∧ AObj.fro (1 : Nat) (iE p.settle) = AObj.fro (1 : Nat) (iE i_2) ∧ p.check = (0 : Int)) ∨ ∃ (o : Unit), False)) ∧ ((0 : Int) ≤ (↑i.count : Int) ∧ (↑i.count : Int) ≤ (↑i.count : Int) ∧ (↑i.count : Int) ≤ (9223372036854775807 : Int) ∧ (↑(8 : Nat) : Int) * (↑i.count : Int) ≤ (2 : Int) ^ (48 : Nat)) ∧ (sb p.code = sb p.code ∧ True ∧ p.tick = p.tick ∧ p.low = p.low ∧ p.high = p.high ∧ p.wide = p.wide ∧ p.rule = p.rule ∧ p.top = p.top ∧ p.least = p.least ∧ p.part = p.part ∧ True ∧ True) ∧ ((0 : Int) ≤ (↑i.count : Int) ∧ (↑i.count : Int) ≤ (↑i.count : Int) ∧ (↑i.count : Int) ≤ (9223372036854775807 : Int) ∧ (↑(8 : Nat) : Int) * (↑i.count : Int) ≤ (2 : Int) ^ (48 : Nat)) ∧ (sb p.code = sb p.code ∧ True ∧ p.tick = p.tick ∧ p.low = p.low ∧ p.high = p.high ∧ p.wide = p.wide ∧ p.rule = p.rule ∧ p.top = p.top ∧ p.least = p.least ∧ p.part = p.part ∧ True ∧ True) ∧ ((∃ (o : Unit), (0 : Int) = (0 : Int) ∧ sb p.code = sb p.code ∧ p.tick = p.tick ∧ p.low = p.low ∧ p.high = p.high ∧ p.wide = p.wide ∧ p.rule = p.rule ∧ p.top = p.top ∧ p.least = p.least ∧ p.part = p.part ∧ mapE [] = [] ∧ mapE [] = [] ∧ iE (List.replicate p.count (0 : Int)) = List.replicate (↑i.count : Int).toNat [D.v (.int .i64 0)] ∧ iE (List.replicate p.count (0 : Int)) = List.replicate (↑i.count : Int).toNat [D.v (.int .i64 0)] ∧ AObj.fro (1 : Nat) (iE p.months) = AObj.fro (1 : Nat) (iE i_1) ∧ AObj.fro (1 : Nat) (iE p.settle) = AObj.fro (1 : Nat) (iE i_2) ∧ p.check = (0 : Int)) ∨ ∃ (o : Unit), False)) ∧ (((0 : Int) ≤ (↑i.count : Int) ∧ (↑i.count : Int) ≤ (↑i.count : Int) ∧ (↑i.count : Int) ≤ (9223372036854775807 : Int) ∧ (↑(8 : Nat) : Int) * (↑i.count : Int) ≤ (2 : Int) ^ (48 : Nat)) ∧ (sb p.code = sb p.code ∧ True ∧ p.tick = p.tick ∧ p.low = p.low ∧ p.high = p.high ∧ p.wide = p.wide ∧ p.rule = p.rule ∧ p.top = p.top ∧ p.least = p.least ∧ p.part = p.part ∧ True ∧ True) ∧ ((sb p.code = sb p.code ∧ True ∧ p.tick = p.tick ∧ p.low = p.low ∧ p.high = p.high ∧ p.wide = p.wide ∧ p.rule = p.rule ∧ p.top = p.top ∧ p.least = p.least ∧ p.part = p.part ∧ True ∧ True) ∧ ((0 : Int) ≤ (↑i.count : Int) ∧ (↑i.count : Int) ≤ (↑i.count : Int) ∧ (↑i.count : Int) ≤ (9223372036854775807 : Int) ∧ (↑(8 : Nat) : Int) * (↑i.count : Int) ≤ (2 : Int) ^ (48 : Nat)) ∧ (sb p.code = sb p.code ∧ True ∧ p.tick = p.tick ∧ p.low = p.low ∧ p.high = p.high ∧ p.wide = p.wide ∧ p.rule = p.rule ∧ p.top = p.top ∧ p.least = p.least ∧ p.part = p.part ∧ True ∧ True) ∧ ((∃ (o : Unit), (0 : Int) = (0 : Int) ∧ sb p.code = sb p.code ∧ p.tick = p.tick ∧ p.low = p.low ∧ p.high = p.high ∧ p.wide = p.wide ∧ p.rule = p.rule ∧ p.top = p.top ∧ p.least = p.least ∧ p.part = p.part ∧ mapE [] = [] ∧ mapE [] = [] ∧ iE (List.replicate p.count (0 : Int)) = List.replicate (↑i.count : Int).toNat [D.v (.int .i64 0)] ∧ iE (List.replicate p.count (0 : Int)) = List.replicate (↑i.count : Int).toNat [D.v (.int .i64 0)] ∧ AObj.fro (1 : Nat) (iE p.months) = AObj.fro (1 : Nat) (iE i_1) ∧ AObj.fro (1 : Nat) (iE p.settle) = AObj.fro (1 : Nat) (iE i_2) ∧ p.check = (0 : Int)) ∨ ∃ (o : Unit), False)) ∧ ((0 : Int) ≤ (↑i.count : Int) ∧ (↑i.count : Int) ≤ (↑i.count : Int) ∧ (↑i.count : Int) ≤ (9223372036854775807 : Int) ∧ (↑(8 : Nat) : Int) * (↑i.count : Int) ≤ (2 : Int) ^ (48 : Nat)) ∧ (sb p.code = sb p.code ∧ True ∧ p.tick = p.tick ∧ p.low = p.low ∧ p.high = p.high ∧ p.wide = p.wide ∧ p.rule = p.rule ∧ p.top = p.top ∧ p.least = p.least ∧ p.part = p.part ∧ True ∧ True) ∧ (sb p.code = sb p.code ∧ True ∧ p.tick = p.tick ∧ p.low = p.low ∧ p.high = p.high ∧ p.wide = p.wide ∧ p.rule = p.rule ∧ p.top = p.top ∧ p.least = p.least ∧ p.part = p.part ∧ True ∧ True) ∧ ((∃ (o : Unit), (0 : Int) = (0 : Int) ∧ sb p.code = sb p.code ∧ p.tick = p.tick ∧ p.low = p.low ∧ p.high = p.high ∧ p.wide = p.wide ∧ p.rule = p.rule ∧ p.top = p.top ∧ p.least = p.least ∧ p.part = p.part ∧ mapE [] = [] ∧ mapE [] = [] ∧ iE (List.replicate p.count (0 : Int)) = List.replicate (↑i.count : Int).toNat [D.v (.int .i64 0)] ∧ iE (List.replicate p.count (0 : Int)) = List.replicate (↑i.count : Int).toNat [D.v (.int .i64 0)] ∧ AObj.fro (1 : Nat) (iE p.months) = AObj.fro (1 : Nat) (iE i_1) ∧ AObj.fro (1 : Nat) (iE p.settle) = AObj.fro (1 : Nat) (iE i_2) ∧ p.check = (0 : Int)) ∨ ∃ (o : Unit), False)) ∧ ((0 : Int) ≤ (↑i.count : Int) ∧ (↑i.count : Int) ≤ (↑i.count : Int) ∧ (↑i.count : Int) ≤ (9223372036854775807 : Int) ∧ (↑(8 : Nat) : Int) * (↑i.count : Int) ≤ (2 : Int) ^ (48 : Nat)) ∧ (sb p.code = sb p.code ∧ True ∧ p.tick = p.tick ∧ p.low = p.low ∧ p.high = p.high ∧ p.wide = p.wide ∧ p.rule = p.rule ∧ p.top = p.top ∧ p.least = p.least ∧ p.part = p.part ∧ True ∧ True) ∧ ((sb p.code = sb p.code ∧ True ∧ p.tick = p.tick ∧ p.low = p.low ∧ p.high = p.high ∧ p.wide = p.wide ∧ p.rule = p.rule ∧ p.top = p.top ∧ p.least = p.least ∧ p.part = p.part ∧ True ∧ True) ∧ ((0 : Int) ≤ (↑i.count : Int) ∧ (↑i.count : Int) ≤ (↑i.count : Int) ∧ (↑i.count : Int) ≤ (9223372036854775807 : Int) ∧ (↑(8 : Nat) : Int) * (↑i.count : Int) ≤ (2 : Int) ^ (48 : Nat)) ∧ (sb p.code = sb p.code ∧ True ∧ p.tick = p.tick ∧ p.low = p.low ∧ p.high = p.high ∧ p.wide = p.wide ∧ p.rule = p.rule ∧ p.top = p.top ∧ p.least = p.least ∧ p.part = p.part ∧ True ∧ True) ∧ ((∃ (o : Unit), (0 : Int) = (0 : Int) ∧ sb p.code = sb p.code ∧ p.tick = p.tick ∧ p.low = p.low ∧ p.high = p.high ∧ p.wide = p.wide ∧ p.rule = p.rule ∧ p.top = p.top ∧ p.least = p.least ∧ p.part = p.part ∧ mapE [] = [] ∧ mapE [] = [] ∧ iE (List.replicate p.count (0 : Int)) = List.replicate (↑i.count : Int).toNat [D.v (.int .i64 0)] ∧ iE (List.replicate p.count (0 : Int)) = List.replicate (↑i.count : Int).toNat [D.v (.int .i64 0)] ∧ AObj.fro (1 : Nat) (iE p.months) = AObj.fro (1 : Nat) (iE i_1) ∧ AObj.fro (1 : Nat) (iE p.settle) = AObj.fro (1 : Nat) (iE i_2) ∧ p.check = (0 : Int)) ∨ ∃ (o : Unit), False)) ∧ ((0 : Int) ≤ (↑i.count : Int) ∧ (↑i.count : Int) ≤ (↑i.count : Int) ∧ (↑i.count : Int) ≤ (9223372036854775807 : Int) ∧ (↑(8 : Nat) : Int) * (↑i.count : Int) ≤ (2 : Int) ^ (48 : Nat)) ∧ (sb p.code = sb p.code ∧ True ∧ p.tick = p.tick ∧ p.low = p.low ∧ p.high = p.high ∧ p.wide = p.wide ∧ p.rule = p.rule ∧ p.top = p.top ∧ p.least = p.least ∧ p.part = p.part ∧ True ∧ True) ∧ (sb p.code = sb p.code ∧ True ∧ p.tick = p.tick ∧ p.low = p.low ∧ p.high = p.high ∧ p.wide = p.wide ∧ p.rule = p.rule ∧ p.top = p.top ∧ p.least = p.least ∧ p.part = p.part ∧ True ∧ True) ∧ ((∃ (o : Unit), (0 : Int) = (0 : Int) ∧ sb p.code = sb p.code ∧ p.tick = p.tick ∧ p.low = p.low ∧ p.high = p.high ∧ p.wide = p.wide ∧ p.rule = p.rule ∧ p.top = p.top ∧ p.least = p.least ∧ p.part = p.part ∧ mapE [] = [] ∧ mapE [] = [] ∧ iE (List.replicate p.count (0 : Int)) = List.replicate (↑i.count : Int).toNat [D.v (.int .i64 0)] ∧ iE (List.replicate p.count (0 : Int)) = List.replicate (↑i.count : Int).toNat [D.v (.int .i64 0)] ∧ AObj.fro (1 : Nat) (iE p.months) = AObj.fro (1 : Nat) (iE i_1) ∧ AObj.fro (1 : Nat) (iE p.settle) = AObj.fro (1 : Nat) (iE i_2) ∧ p.check = (0 : Int)) ∨ ∃ (o : Unit), False)) ∧ ((sb p.code = sb p.code ∧ True ∧ p.tick = p.tick ∧ p.low = p.low ∧ p.high = p.high ∧ p.wide = p.wide ∧ p.rule = p.rule ∧ p.top = p.top ∧ p.least = p.least ∧ p.part = p.part ∧ True ∧ True) ∧ ((sb p.code = sb p.code ∧ True ∧ p.tick = p.tick ∧ p.low = p.low ∧ p.high = p.high ∧ p.wide = p.wide ∧ p.rule = p.rule ∧ p.top = p.top ∧ p.least = p.least ∧ p.part = p.part ∧ True ∧ True) ∧ (((0 : Int) ≤ (↑i.count : Int) ∧ (↑i.count : Int) ≤ (↑i.count : Int) ∧ (↑i.count : Int) ≤ (9223372036854775807 : Int) ∧ (↑(8 : Nat) : Int) * (↑i.count : Int) ≤ (2 : Int) ^ (48 : Nat)) ∧ (sb p.code = sb p.code ∧ True ∧ p.tick = p.tick ∧ p.low = p.low ∧ p.high = p.high ∧ p.wide = p.wide ∧ p.rule = p.rule ∧ p.top = p.top ∧ p.least = p.least ∧ p.part = p.part ∧ True ∧ True) ∧ ((0 : Int) ≤ (↑i.count : Int) ∧ (↑i.count : Int) ≤ (↑i.count : Int) ∧ (↑i.count : Int) ≤ (9223372036854775807 : Int) ∧ (↑(8 : Nat) : Int) * (↑i.count : Int) ≤ (2 : Int) ^ (48 : Nat)) ∧ (sb p.code = sb p.code ∧ True ∧ p.tick = p.tick ∧ p.low = p.low ∧ p.high = p.high ∧ p.wide = p.wide ∧ p.rule = p.rule ∧ p.top = p.top ∧ p.least = p.least ∧ p.part = p.part ∧ True ∧ True) ∧ ((∃ (o : Unit), (0 : Int) = (0 : Int) ∧ sb p.code = sb p.code ∧ p.tick = p.tick ∧ p.low = p.low ∧ p.high = p.high ∧ p.wide = p.wide ∧ p.rule = p.rule ∧ p.top = p.top ∧ p.least = p.least ∧ p.part = p.part ∧ mapE [] = [] ∧ mapE [] = [] ∧ iE (List.replicate p.count (0 : Int)) = List.replicate (↑i.count : Int).toNat [D.v (.int .i64 0)] ∧ iE (List.replicate p.count (0 : Int)) = List.replicate (↑i.count : Int).toNat [D.v (.int .i64 0)] ∧ AObj.fro (1 : Nat) (iE p.months) = AObj.fro (1 : Nat) (iE i_1) ∧ AObj.fro (1 : Nat) (iE p.settle) = AObj.fro (1 : Nat) (iE i_2) ∧ p.check = (0 : Int)) ∨ ∃ (o : Unit), False)) ∧ ((0 : Int) ≤ (↑i.count : Int) ∧ (↑i.count : Int) ≤ (↑i.count : Int) ∧ (↑i.count : Int) ≤ (9223372036854775807 : Int) ∧ (↑(8 : Nat) : Int) * (↑i.count : Int) ≤ (2 : Int) ^ (48 : Nat)) ∧ (sb p.code = sb p.code ∧ True ∧ p.tick = p.tick ∧ p.low = p.low ∧ p.high = p.high ∧ p.wide = p.wide ∧ p.rule = p.rule ∧ p.top = p.top ∧ p.least = p.least ∧ p.part = p.part ∧ True ∧ True) ∧ ((0 : Int) ≤ (↑i.count : Int) ∧ (↑i.count : Int) ≤ (↑i.count : Int) ∧ (↑i.count : Int) ≤ (9223372036854775807 : Int) ∧ (↑(8 : Nat) : Int) * (↑i.count : Int) ≤ (2 : Int) ^ (48 : Nat)) ∧ (sb p.code = sb p.code ∧ True ∧ p.tick = p.tick ∧ p.low = p.low ∧ p.high = p.high ∧ p.wide = p.wide ∧ p.rule = p.rule ∧ p.top = p.top ∧ p.least = p.least ∧ p.part = p.part ∧ True ∧ True) ∧ ((∃ (o : Unit), (0 : Int) = (0 : Int) ∧ sb p.code = sb p.code ∧ p.tick = p.tick ∧ p.low = p.low ∧ p.high = p.high ∧ p.wide = p.wide ∧ p.rule = p.rule ∧ p.top = p.top ∧ p.least = p.least ∧ p.part = p.part ∧ mapE [] = [] ∧ mapE [] = [] ∧ iE (List.replicate p.count (0 : Int)) = List.replicate (↑i.count : Int).toNat [D.v (.int .i64 0)] ∧ iE (List.replicate p.count (0 : Int)) = List.replicate (↑i.count : Int).toNat [D.v (.int .i64 0)] ∧ AObj.fro (1 : Nat) (iE p.months) = AObj.fro (1 : Nat) (iE i_1) ∧ AObj.fro (1 : Nat) (iE p.settle) = AObj.fro (1 : Nat) (iE i_2) ∧ p.check = (0 : Int)) ∨ ∃ (o : Unit), False)) ∧ (((0 : Int) ≤ (↑i.count : Int) ∧ (↑i.count : Int) ≤ (↑i.count : Int) ∧ (↑i.count : Int) ≤ (9223372036854775807 : Int) ∧ (↑(8 : Nat) : Int) * (↑i.count : Int) ≤ (2 : Int) ^ (48 : Nat)) ∧ (sb p.code = sb p.code ∧ True ∧ p.tick = p.tick ∧ p.low = p.low ∧ p.high = p.high ∧ p.wide = p.wide ∧ p.rule = p.rule ∧ p.top = p.top ∧ p.least = p.least ∧ p.part = p.part ∧ True ∧ True) ∧ ((sb p.code = sb p.code ∧ True ∧ p.tick = p.tick ∧ p.low = p.low ∧ p.high = p.high ∧ p.wide = p.wide ∧ p.rule = p.rule ∧ p.top = p.top ∧ p.least = p.least ∧ p.part = p.part ∧ True ∧ True) ∧ ((0 : Int) ≤ (↑i.count : Int) ∧ (↑i.count : Int) ≤ (↑i.count : Int) ∧ (↑i.count : Int) ≤ (9223372036854775807 : Int) ∧ (↑(8 : Nat) : Int) * (↑i.count : Int) ≤ (2 : Int) ^ (48 : Nat)) ∧ (sb p.code = sb p.code ∧ True ∧ p.tick = p.tick ∧ p.low = p.low ∧ p.high = p.high ∧ p.wide = p.wide ∧ p.rule = p.rule ∧ p.top = p.top ∧ p.least = p.least ∧ p.part = p.part ∧ True ∧ True) ∧ ((∃ (o : Unit), (0 : Int) = (0 : Int) ∧ sb p.code = sb p.code ∧ p.tick = p.tick ∧ p.low = p.low ∧ p.high = p.high ∧ p.wide = p.wide ∧ p.rule = p.rule ∧ p.top = p.top ∧ p.least = p.least ∧ p.part = p.part ∧ mapE [] = [] ∧ mapE [] = [] ∧ iE (List.replicate p.count (0 : Int)) = List.replicate (↑i.count : Int).toNat [D.v (.int .i64 0)] ∧ iE (List.replicate p.count (0 : Int)) = List.replicate (↑i.count : Int).toNat [D.v (.int .i64 0)] ∧ AObj.fro (1 : Nat) (iE p.months) = AObj.fro (1 : Nat) (iE i_1) ∧ AObj.fro (1 : Nat) (iE p.settle) = AObj.fro (1 : Nat) (iE i_2) ∧ p.check = (0 : Int)) ∨ ∃ (o : Unit), False)) ∧ ((0 : Int) ≤ (↑i.count : Int) ∧ (↑i.count : Int) ≤ (↑i.count : Int) ∧ (↑i.count : Int) ≤ (9223372036854775807 : Int) ∧ (↑(8 : Nat) : Int) * (↑i.count : Int) ≤ (2 : Int) ^ (48 : Nat)) ∧ (sb p.code = sb p.code ∧ True ∧ p.tick = p.tick ∧ p.low = p.low ∧ p.high = p.high ∧ p.wide = p.wide ∧ p.rule = p.rule ∧ p.top = p.top ∧ p.least = p.least ∧ p.part = p.part ∧ True ∧ True) ∧ (sb p.code = sb p.code ∧ True ∧ p.tick = p.tick ∧ p.low = p.low ∧ p.high = p.high ∧ p.wide = p.wide ∧ p.rule = p.rule ∧ p.top = p.top ∧ p.least = p.least ∧ p.part = p.part ∧ True ∧ True) ∧ ((∃ (o : Unit), (0 : Int) = (0 : Int) ∧ sb p.code = sb p.code ∧ p.tick = p.tick ∧ p.low = p.low ∧ p.high = p.high ∧ p.wide = p.wide ∧ p.rule = p.rule ∧ p.top = p.top ∧ p.least = p.least ∧ p.part = p.part ∧ mapE [] = [] ∧ mapE [] = [] ∧ iE (List.replicate p.count (0 : Int)) = List.replicate (↑i.count : Int).toNat [D.v (.int .i64 0)] ∧ iE (List.replicate p.count (0 : Int)) = List.replicate (↑i.count : Int).toNat [D.v (.int .i64 0)] ∧ AObj.fro (1 : Nat) (iE p.months) = AObj.fro (1 : Nat) (iE i_1) ∧ AObj.fro (1 : Nat) (iE p.settle) = AObj.fro (1 : Nat) (iE i_2) ∧ p.check = (0 : Int)) ∨ ∃ (o : Unit), False)) ∧ ((0 : Int) ≤ (↑i.count : Int) ∧ (↑i.count : Int) ≤ (↑i.count : Int) ∧ (↑i.count : Int) ≤ (9223372036854775807 : Int) ∧ (↑(8 : Nat) : Int) * (↑i.count : Int) ≤ (2 : Int) ^ (48 : Nat)) ∧ (sb p.code = sb p.code ∧ True ∧ p.tick = p.tick ∧ p.low = p.low ∧ p.high = p.high ∧ p.wide = p.wide ∧ p.rule = p.rule ∧ p.top = p.top ∧ p.least = p.least ∧ p.part = p.part ∧ True ∧ True) ∧ ((sb p.code = sb p.code ∧ True ∧ p.tick = p.tick ∧ p.low = p.low ∧ p.high = p.high ∧ p.wide = p.wide ∧ p.rule = p.rule ∧ p.top = p.top ∧ p.least = p.least ∧ p.part = p.part ∧ True ∧ True) ∧ ((0 : Int) ≤ (↑i.count : Int) ∧ (↑i.count : Int) ≤ (↑i.count : Int) ∧ (↑i.count : Int) ≤ (9223372036854775807 : Int) ∧ (↑(8 : Nat) : Int) * (↑i.count : Int) ≤ (2 : Int) ^ (48 : Nat)) ∧ (sb p.code = sb p.code ∧ True ∧ p.tick = p.tick ∧ p.low = p.low ∧ p.high = p.high ∧ p.wide = p.wide ∧ p.rule = p.rule ∧ p.top = p.top ∧ p.least = p.least ∧ p.part = p.part ∧ True ∧ True) ∧ ((∃ (o : Unit), (0 : Int) = (0 : Int) ∧ sb p.code = sb p.code ∧ p.tick = p.tick ∧ p.low = p.low ∧ p.high = p.high ∧ p.wide = p.wide ∧ p.rule = p.rule ∧ p.top = p.top ∧ p.least = p.least ∧ p.part = p.part ∧ mapE [] = [] ∧ mapE [] = [] ∧ iE (List.replicate p.count (0 : Int)) = List.replicate (↑i.count : Int).toNat [D.v (.int .i64 0)] ∧ iE (List.replicate p.count (0 : Int)) = List.replicate (↑i.count : Int).toNat [D.v (.int .i64 0)] ∧ AObj.fro (1 : Nat) (iE p.months) = AObj.fro (1 : Nat) (iE i_1) ∧ AObj.fro (1 : Nat) (iE p.settle) = AObj.fro (1 : Nat) (iE i_2) ∧ p.check = (0 : Int)) ∨ ∃ (o : Unit), False)) ∧ ((0 : Int) ≤ (↑i.count : Int) ∧ (↑i.count : Int) ≤ (↑i.count : Int) ∧ (↑i.count : Int) ≤ (9223372036854775807 : Int) ∧ (↑(8 : Nat) : Int) * (↑i.count : Int) ≤ (2 : Int) ^ (48 : Nat)) ∧ (sb p.code = sb p.code ∧ True ∧ p.tick = p.tick ∧ p.low = p.low ∧ p.high = p.high ∧ p.wide = p.wide ∧ p.rule = p.rule ∧ p.top = p.top ∧ p.least = p.least ∧ p.part = p.part ∧ True ∧ True) ∧ (sb p.code = sb p.code ∧ True ∧ p.tick = p.tick ∧ p.low = p.low ∧ p.high = p.high ∧ p.wide = p.wide ∧ p.rule = p.rule ∧ p.top = p.top ∧ p.least = p.least ∧ p.part = p.part ∧ True ∧ True) ∧ ((∃ (o : Unit), (0 : Int) = (0 : Int) ∧ sb p.code = sb p.code ∧ p.tick = p.tick ∧ p.low = p.low ∧ p.high = p.high ∧ p.wide = p.wide ∧ p.rule = p.rule ∧ p.top = p.top ∧ p.least = p.least ∧ p.part = p.part ∧ mapE [] = [] ∧ mapE [] = [] ∧ iE (List.replicate p.count (0 : Int)) = List.replicate (↑i.count : Int).toNat [D.v (.int .i64 0)] ∧ iE (List.replicate p.count (0 : Int)) = List.replicate (↑i.count : Int).toNat [D.v (.int .i64 0)] ∧ AObj.fro (1 : Nat) (iE p.months) = AObj.fro (1 : Nat) (iE i_1) ∧ AObj.fro (1 : Nat) (iE p.settle) = AObj.fro (1 : Nat) (iE i_2) ∧ p.check = (0 : Int)) ∨ ∃ (o : Unit), False)) ∧ (((0 : Int) ≤ (↑i.count : Int) ∧ (↑i.count : Int) ≤ (↑i.count : Int) ∧ (↑i.count : Int) ≤ (9223372036854775807 : Int) ∧ (↑(8 : Nat) : Int) * (↑i.count : Int) ≤ (2 : Int) ^ (48 : Nat)) ∧ (sb p.code = sb p.code ∧ True ∧ p.tick = p.tick ∧ p.low = p.low ∧ p.high = p.high ∧ p.wide = p.wide ∧ p.rule = p.rule ∧ p.top = p.top ∧ p.least = p.least ∧ p.part = p.part ∧ True ∧ True) ∧ ((sb p.code = sb p.code ∧ True ∧ p.tick = p.tick ∧ p.low = p.low ∧ p.high = p.high ∧ p.wide = p.wide ∧ p.rule = p.rule ∧ p.top = p.top ∧ p.least = p.least ∧ p.part = p.part ∧ True ∧ True) ∧ ((sb p.code = sb p.code ∧ True ∧ p.tick = p.tick ∧ p.low = p.low ∧ p.high = p.high ∧ p.wide = p.wide ∧ p.rule = p.rule ∧ p.top = p.top ∧ p.least = p.least ∧ p.part = p.part ∧ True ∧ True) ∧ ((0 : Int) ≤ (↑i.count : Int) ∧ (↑i.count : Int) ≤ (↑i.count : Int) ∧ (↑i.count : Int) ≤ (9223372036854775807 : Int) ∧ (↑(8 : Nat) : Int) * (↑i.count : Int) ≤ (2 : Int) ^ (48 : Nat)) ∧ (sb p.code = sb p.code ∧ True ∧ p.tick = p.tick ∧ p.low = p.low ∧ p.high = p.high ∧ p.wide = p.wide ∧ p.rule = p.rule ∧ p.top = p.top ∧ p.least = p.least ∧ p.part = p.part ∧ True ∧ True) ∧ ((∃ (o : Unit), (0 : Int) = (0 : Int) ∧ sb p.code = sb p.code ∧ p.tick = p.tick ∧ p.low = p.low ∧ p.high = p.high ∧ p.wide = p.wide ∧ p.rule = p.rule ∧ p.top = p.top ∧ p.least = p.least ∧ p.part = p.part ∧ mapE [] = [] ∧ mapE [] = [] ∧ iE (List.replicate p.count (0 : Int)) = List.replicate (↑i.count : Int).toNat [D.v (.int .i64 0)] ∧ iE (List.replicate p.count (0 : Int)) = List.replicate (↑i.count : Int).toNat [D.v (.int .i64 0)] ∧ AObj.fro (1 : Nat) (iE p.months) = AObj.fro (1 : Nat) (iE i_1) ∧ AObj.fro (1 : Nat) (iE p.settle) = AObj.fro (1 : Nat) (iE i_2) ∧ p.check = (0 : Int)) ∨ ∃ (o : Unit), False)) ∧ ((0 : Int) ≤ (↑i.count : Int) ∧ (↑i.count : Int) ≤ (↑i.count : Int) ∧ (↑i.count : Int) ≤ (9223372036854775807 : Int) ∧ (↑(8 : Nat) : Int) * (↑i.count : Int) ≤ (2 : Int) ^ (48 : Nat)) ∧ (sb p.code = sb p.code ∧ True ∧ p.tick = p.tick ∧ p.low = p.low ∧ p.high = p.high ∧ p.wide = p.wide ∧ p.rule = p.rule ∧ p.top = p.top ∧ p.least = p.least ∧ p.part = p.part ∧ True ∧ True) ∧ (sb p.code = sb p.code ∧ True ∧ p.tick = p.tick ∧ p.low = p.low ∧ p.high = p.high ∧ p.wide = p.wide ∧ p.rule = p.rule ∧ p.top = p.top ∧ p.least = p.least ∧ p.part = p.part ∧ True ∧ True) ∧ ((∃ (o : Unit), (0 : Int) = (0 : Int) ∧ sb p.code = sb p.code ∧ p.tick = p.tick ∧ p.low = p.low ∧ p.high = p.high ∧ p.wide = p.wide ∧ p.rule = p.rule ∧ p.top = p.top ∧ p.least = p.least ∧ p.part = p.part ∧ mapE [] = [] ∧ mapE [] = [] ∧ iE (List.replicate p.count (0 : Int)) = List.replicate (↑i.count : Int).toNat [D.v (.int .i64 0)] ∧ iE (List.replicate p.count (0 : Int)) = List.replicate (↑i.count : Int).toNat [D.v (.int .i64 0)] ∧ AObj.fro (1 : Nat) (iE p.months) = AObj.fro (1 : Nat) (iE i_1) ∧ AObj.fro (1 : Nat) (iE p.settle) = AObj.fro (1 : Nat) (iE i_2) ∧ p.check = (0 : Int)) ∨ ∃ (o : Unit), False)) ∧ ((sb p.code = sb p.code ∧ True ∧ p.tick = p.tick ∧ p.low = p.low ∧ p.high = p.high ∧ p.wide = p.wide ∧ p.rule = p.rule ∧ p.top = p.top ∧ p.least = p.least ∧ p.part = p.part ∧ True ∧ True) ∧ ((sb p.code = sb p.code ∧ True ∧ p.tick = p.tick ∧ p.low = p.low ∧ p.high = p.high ∧ p.wide = p.wide ∧ p.rule = p.rule ∧ p.top = p.top ∧ p.least = p.least ∧ p.part = p.part ∧ True ∧ True) ∧ ((0 : Int) ≤ (↑i.count : Int) ∧ (↑i.count : Int) ≤ (↑i.count : Int) ∧ (↑i.count : Int) ≤ (9223372036854775807 : Int) ∧ (↑(8 : Nat) : Int) * (↑i.count : Int) ≤ (2 : Int) ^ (48 : Nat)) ∧ (sb p.code = sb p.code ∧ True ∧ p.tick = p.tick ∧ p.low = p.low ∧ p.high = p.high ∧ p.wide = p.wide ∧ p.rule = p.rule ∧ p.top = p.top ∧ p.least = p.least ∧ p.part = p.part ∧ True ∧ True) ∧ ((∃ (o : Unit), (0 : Int) = (0 : Int) ∧ sb p.code = sb p.code ∧ p.tick = p.tick ∧ p.low = p.low ∧ p.high = p.high ∧ p.wide = p.wide ∧ p.rule = p.rule ∧ p.top = p.top ∧ p.least = p.least ∧ p.part = p.part ∧ mapE [] = [] ∧ mapE [] = [] ∧ iE (List.replicate p.count (0 : Int)) = List.replicate (↑i.count : Int).toNat [D.v (.int .i64 0)] ∧ iE (List.replicate p.count (0 : Int)) = List.replicate (↑i.count : Int).toNat [D.v (.int .i64 0)] ∧ AObj.fro (1 : Nat) (iE p.months) = AObj.fro (1 : Nat) (iE i_1) ∧ AObj.fro (1 : Nat) (iE p.settle) = AObj.fro (1 : Nat) (iE i_2) ∧ p.check = (0 : Int)) ∨ ∃ (o : Unit), False)) ∧ ((0 : Int) ≤ (↑i.count : Int) ∧ (↑i.count : Int) ≤ (↑i.count : Int) ∧ (↑i.count : Int) ≤ (9223372036854775807 : Int) ∧ (↑(8 : Nat) : Int) * (↑i.count : Int) ≤ (2 : Int) ^ (48 : Nat)) ∧ (sb p.code = sb p.code ∧ True ∧ p.tick = p.tick ∧ p.low = p.low ∧ p.high = p.high ∧ p.wide = p.wide ∧ p.rule = p.rule ∧ p.top = p.top ∧ p.least = p.least ∧ p.part = p.part ∧ True ∧ True) ∧ (sb p.code = sb p.code ∧ True ∧ p.tick = p.tick ∧ p.low = p.low ∧ p.high = p.high ∧ p.wide = p.wide ∧ p.rule = p.rule ∧ p.top = p.top ∧ p.least = p.least ∧ p.part = p.part ∧ True ∧ True) ∧ ((∃ (o : Unit), (0 : Int) = (0 : Int) ∧ sb p.code = sb p.code ∧ p.tick = p.tick ∧ p.low = p.low ∧ p.high = p.high ∧ p.wide = p.wide ∧ p.rule = p.rule ∧ p.top = p.top ∧ p.least = p.least ∧ p.part = p.part ∧ mapE [] = [] ∧ mapE [] = [] ∧ iE (List.replicate p.count (0 : Int)) = List.replicate (↑i.count : Int).toNat [D.v (.int .i64 0)] ∧ iE (List.replicate p.count (0 : Int)) = List.replicate (↑i.count : Int).toNat [D.v (.int .i64 0)] ∧ AObj.fro (1 : Nat) (iE p.months) = AObj.fro (1 : Nat) (iE i_1) ∧ AObj.fro (1 : Nat) (iE p.settle) = AObj.fro (1 : Nat) (iE i_2) ∧ p.check = (0 : Int)) ∨ ∃ (o : Unit), False)) ∧ ((0 : Int) ≤ (↑i.count : Int) ∧ (↑i.count : Int) ≤ (↑i.count : Int) ∧ (↑i.count : Int) ≤ (9223372036854775807 : Int) ∧ (↑(8 : Nat) : Int) * (↑i.count : Int) ≤ (2 : Int) ^ (48 : Nat)) ∧ (sb p.code = sb p.code ∧ True ∧ p.tick = p.tick ∧ p.low = p.low ∧ p.high = p.high ∧ p.wide = p.wide ∧ p.rule = p.rule ∧ p.top = p.top ∧ p.least = p.least ∧ p.part = p.part ∧ True ∧ True) ∧ ((sb p.code = sb p.code ∧ True ∧ p.tick = p.tick ∧ p.low = p.low ∧ p.high = p.high ∧ p.wide = p.wide ∧ p.rule = p.rule ∧ p.top = p.top ∧ p.least = p.least ∧ p.part = p.part ∧ True ∧ True) ∧ (sb p.code = sb p.code ∧ True ∧ p.tick = p.tick ∧ p.low = p.low ∧ p.high = p.high ∧ p.wide = p.wide ∧ p.rule = p.rule ∧ p.top = p.top ∧ p.least = p.least ∧ p.part = p.part ∧ True ∧ True) ∧ ((∃ (o : Unit), (0 : Int) = (0 : Int) ∧ sb p.code = sb p.code ∧ p.tick = p.tick ∧ p.low = p.low ∧ p.high = p.high ∧ p.wide = p.wide ∧ p.rule = p.rule ∧ p.top = p.top ∧ p.least = p.least ∧ p.part = p.part ∧ mapE [] = [] ∧ mapE [] = [] ∧ iE (List.replicate p.count (0 : Int)) = List.replicate (↑i.count : Int).toNat [D.v (.int .i64 0)] ∧ iE (List.replicate p.count (0 : Int)) = List.replicate (↑i.count : Int).toNat [D.v (.int .i64 0)] ∧ AObj.fro (1 : Nat) (iE p.months) = AObj.fro (1 : Nat) (iE i_1) ∧ AObj.fro (1 : Nat) (iE p.settle) = AObj.fro (1 : Nat) (iE i_2) ∧ p.check = (0 : Int)) ∨ ∃ (o : Unit), False)) ∧ (sb p.code = sb p.code ∧ True ∧ p.tick = p.tick ∧ p.low = p.low ∧ p.high = p.high ∧ p.wide = p.wide ∧ p.rule = p.rule ∧ p.top = p.top ∧ p.least = p.least ∧ p.part = p.part ∧ True ∧ True) ∧ (sb p.code = sb p.code ∧ True ∧ p.tick = p.tick ∧ p.low = p.low ∧ p.high = p.high ∧ p.wide = p.wide ∧ p.rule = p.rule ∧ p.top = p.top ∧ p.least = p.least ∧ p.part = p.part ∧ True ∧ True) ∧ ((∃ (o : Unit), (0 : Int) = (0 : Int) ∧ sb p.code = sb p.code ∧ p.tick = p.tick ∧ p.low = p.low ∧ p.high = p.high ∧ p.wide = p.wide ∧ p.rule = p.rule ∧ p.top = p.top ∧ p.least = p.least ∧ p.part = p.part ∧ mapE [] = [] ∧ mapE [] = [] ∧ iE (List.replicate p.count (0 : Int)) = List.replicate (↑i.count : Int).toNat [D.v (.int .i64 0)] ∧ iE (List.replicate p.count (0 : Int)) = List.replicate (↑i.count : Int).toNat [D.v (.int .i64 0)] ∧ AObj.fro (1 : Nat) (iE p.months) = AObj.fro (1 : Nat) (iE i_1) ∧ AObj.fro (1 : Nat) (iE p.settle) = AObj.fro (1 : Nat) (iE i_2) ∧ p.check = (0 : Int)) ∨ ∃ (o : Unit), False)) ∧ ((0 : Int) ≤ (↑i.count : Int) ∧ (↑i.count : Int) ≤ (↑i.count : Int) ∧ (↑i.count : Int) ≤ (9223372036854775807 : Int) ∧ (↑(8 : Nat) : Int) * (↑i.count : Int) ≤ (2 : Int) ^ (48 : Nat)) ∧ (sb p.code = sb p.code ∧ True ∧ p.tick = p.tick ∧ p.low = p.low ∧ p.high = p.high ∧ p.wide = p.wide ∧ p.rule = p.rule ∧ p.top = p.top ∧ p.least = p.least ∧ p.part = p.part ∧ True ∧ True) ∧ ((sb p.code = sb p.code ∧ True ∧ p.tick = p.tick ∧ p.low = p.low ∧ p.high = p.high ∧ p.wide = p.wide ∧ p.rule = p.rule ∧ p.top = p.top ∧ p.least = p.least ∧ p.part = p.part ∧ True ∧ True) ∧ ((sb p.code = sb p.code ∧ True ∧ p.tick = p.tick ∧ p.low = p.low ∧ p.high = p.high ∧ p.wide = p.wide ∧ p.rule = p.rule ∧ p.top = p.top ∧ p.least = p.least ∧ p.part = p.part ∧ True ∧ True) ∧ ((0 : Int) ≤ (↑i.count : Int) ∧ (↑i.count : Int) ≤ (↑i.count : Int) ∧ (↑i.count : Int) ≤ (9223372036854775807 : Int) ∧ (↑(8 : Nat) : Int) * (↑i.count : Int) ≤ (2 : Int) ^ (48 : Nat)) ∧ (sb p.code = sb p.code ∧ True ∧ p.tick = p.tick ∧ p.low = p.low ∧ p.high = p.high ∧ p.wide = p.wide ∧ p.rule = p.rule ∧ p.top = p.top ∧ p.least = p.least ∧ p.part = p.part ∧ True ∧ True) ∧ ((∃ (o : Unit), (0 : Int) = (0 : Int) ∧ sb p.code = sb p.code ∧ p.tick = p.tick ∧ p.low = p.low ∧ p.high = p.high ∧ p.wide = p.wide ∧ p.rule = p.rule ∧ p.top = p.top ∧ p.least = p.least ∧ p.part = p.part ∧ mapE [] = [] ∧ mapE [] = [] ∧ iE (List.replicate p.count (0 : Int)) = List.replicate (↑i.count : Int).toNat [D.v (.int .i64 0)] ∧ iE (List.replicate p.count (0 : Int)) = List.replicate (↑i.count : Int).toNat [D.v (.int .i64 0)] ∧ AObj.fro (1 : Nat) (iE p.months) = AObj.fro (1 : Nat) (iE i_1) ∧ AObj.fro (1 : Nat) (iE p.settle) = AObj.fro (1 : Nat) (iE i_2) ∧ p.check = (0 : Int)) ∨ ∃ (o : Unit), False)) ∧ ((0 : Int) ≤ (↑i.count : Int) ∧ (↑i.count : Int) ≤ (↑i.count : Int) ∧ (↑i.count : Int) ≤ (9223372036854775807 : Int) ∧ (↑(8 : Nat) : Int) * (↑i.count : Int) ≤ (2 : Int) ^ (48 : Nat)) ∧ (sb p.code = sb p.code ∧ True ∧ p.tick = p.tick ∧ p.low = p.low ∧ p.high = p.high ∧ p.wide = p.wide ∧ p.rule = p.rule ∧ p.top = p.top ∧ p.least = p.least ∧ p.part = p.part ∧ True ∧ True) ∧ (sb p.code = sb p.code ∧ True ∧ p.tick = p.tick ∧ p.low = p.low ∧ p.high = p.high ∧ p.wide = p.wide ∧ p.rule = p.rule ∧ p.top = p.top ∧ p.least = p.least ∧ p.part = p.part ∧ True ∧ True) ∧ ((∃ (o : Unit), (0 : Int) = (0 : Int) ∧ sb p.code = sb p.code ∧ p.tick = p.tick ∧ p.low = p.low ∧ p.high = p.high ∧ p.wide = p.wide ∧ p.rule = p.rule ∧ p.top = p.top ∧ p.least = p.least ∧ p.part = p.part ∧ mapE [] = [] ∧ mapE [] = [] ∧ iE (List.replicate p.count (0 : Int)) = List.replicate (↑i.count : Int).toNat [D.v (.int .i64 0)] ∧ iE (List.replicate p.count (0 : Int)) = List.replicate (↑i.count : Int).toNat [D.v (.int .i64 0)] ∧ AObj.fro (1 : Nat) (iE p.months) = AObj.fro (1 : Nat) (iE i_1) ∧ AObj.fro (1 : Nat) (iE p.settle) = AObj.fro (1 : Nat) (iE i_2) ∧ p.check = (0 : Int)) ∨ ∃ (o : Unit), False)) ∧ ((sb p.code = sb p.code ∧ True ∧ p.tick = p.tick ∧ p.low = p.low ∧ p.high = p.high ∧ p.wide = p.wide ∧ p.rule = p.rule ∧ p.top = p.top ∧ p.least = p.least ∧ p.part = p.part ∧ True ∧ True) ∧ ((sb p.code = sb p.code ∧ True ∧ p.tick = p.tick ∧ p.low = p.low ∧ p.high = p.high ∧ p.wide = p.wide ∧ p.rule = p.rule ∧ p.top = p.top ∧ p.least = p.least ∧ p.part = p.part ∧ True ∧ True) ∧ ((0 : Int) ≤ (↑i.count : Int) ∧ (↑i.count : Int) ≤ (↑i.count : Int) ∧ (↑i.count : Int) ≤ (9223372036854775807 : Int) ∧ (↑(8 : Nat) : Int) * (↑i.count : Int) ≤ (2 : Int) ^ (48 : Nat)) ∧ (sb p.code = sb p.code ∧ True ∧ p.tick = p.tick ∧ p.low = p.low ∧ p.high = p.high ∧ p.wide = p.wide ∧ p.rule = p.rule ∧ p.top = p.top ∧ p.least = p.least ∧ p.part = p.part ∧ True ∧ True) ∧ ((∃ (o : Unit), (0 : Int) = (0 : Int) ∧ sb p.code = sb p.code ∧ p.tick = p.tick ∧ p.low = p.low ∧ p.high = p.high ∧ p.wide = p.wide ∧ p.rule = p.rule ∧ p.top = p.top ∧ p.least = p.least ∧ p.part = p.part ∧ mapE [] = [] ∧ mapE [] = [] ∧ iE (List.replicate p.count (0 : Int)) = List.replicate (↑i.count : Int).toNat [D.v (.int .i64 0)] ∧ iE (List.replicate p.count (0 : Int)) = List.replicate (↑i.count : Int).toNat [D.v (.int .i64 0)] ∧ AObj.fro (1 : Nat) (iE p.months) = AObj.fro (1 : Nat) (iE i_1) ∧ AObj.fro (1 : Nat) (iE p.settle) = AObj.fro (1 : Nat) (iE i_2) ∧ p.check = (0 : Int)) ∨ ∃ (o : Unit), False)) ∧ ((0 : Int) ≤ (↑i.count : Int) ∧ (↑i.count : Int) ≤ (↑i.count : Int) ∧ (↑i.count : Int) ≤ (9223372036854775807 : Int) ∧ (↑(8 : Nat) : Int) * (↑i.count : Int) ≤ (2 : Int) ^ (48 : Nat)) ∧ (sb p.code = sb p.code ∧ True ∧ p.tick = p.tick ∧ p.low = p.low ∧ p.high = p.high ∧ p.wide = p.wide ∧ p.rule = p.rule ∧ p.top = p.top ∧ p.least = p.least ∧ p.part = p.part ∧ True ∧ True) ∧ (sb p.code = sb p.code ∧ True ∧ p.tick = p.tick ∧ p.low = p.low ∧ p.high = p.high ∧ p.wide = p.wide ∧ p.rule = p.rule ∧ p.top = p.top ∧ p.least = p.least ∧ p.part = p.part ∧ True ∧ True) ∧ ((∃ (o : Unit), (0 : Int) = (0 : Int) ∧ sb p.code = sb p.code ∧ p.tick = p.tick ∧ p.low = p.low ∧ p.high = p.high ∧ p.wide = p.wide ∧ p.rule = p.rule ∧ p.top = p.top ∧ p.least = p.least ∧ p.part = p.part ∧ mapE [] = [] ∧ mapE [] = [] ∧ iE (List.replicate p.count (0 : Int)) = List.replicate (↑i.count : Int).toNat [D.v (.int .i64 0)] ∧ iE (List.replicate p.count (0 : Int)) = List.replicate (↑i.count : Int).toNat [D.v (.int .i64 0)] ∧ AObj.fro (1 : Nat) (iE p.months) = AObj.fro (1 : Nat) (iE i_1) ∧ AObj.fro (1 : Nat) (iE p.settle) = AObj.fro (1 : Nat) (iE i_2) ∧ p.check = (0 : Int)) ∨ ∃ (o : Unit), False)) ∧ ((0 : Int) ≤ (↑i.count : Int) ∧ (↑i.count : Int) ≤ (↑i.count : Int) ∧ (↑i.count : Int) ≤ (9223372036854775807 : Int) ∧ (↑(8 : Nat) : Int) * (↑i.count : Int) ≤ (2 : Int) ^ (48 : Nat)) ∧ (sb p.code = sb p.code ∧ True ∧ p.tick = p.tick ∧ p.low = p.low ∧ p.high = p.high ∧ p.wide = p.wide ∧ p.rule = p.rule ∧ p.top = p.top ∧ p.least = p.least ∧ p.part = p.part ∧ True ∧ True) ∧ ((sb p.code = sb p.code ∧ True ∧ p.tick = p.tick ∧ p.low = p.low ∧ p.high = p.high ∧ p.wide = p.wide ∧ p.rule = p.rule ∧ p.top = p.top ∧ p.least = p.least ∧ p.part = p.part ∧ True ∧ True) ∧ (sb p.code = sb p.code ∧ True ∧ p.tick = p.tick ∧ p.low = p.low ∧ p.high = p.high ∧ p.wide = p.wide ∧ p.rule = p.rule ∧ p.top = p.top ∧ p.least = p.least ∧ p.part = p.part ∧ True ∧ True) ∧ ((∃ (o : Unit), (0 : Int) = (0 : Int) ∧ sb p.code = sb p.code ∧ p.tick = p.tick ∧ p.low = p.low ∧ p.high = p.high ∧ p.wide = p.wide ∧ p.rule = p.rule ∧ p.top = p.top ∧ p.least = p.least ∧ p.part = p.part ∧ mapE [] = [] ∧ mapE [] = [] ∧ iE (List.replicate p.count (0 : Int)) = List.replicate (↑i.count : Int).toNat [D.v (.int .i64 0)] ∧ iE (List.replicate p.count (0 : Int)) = List.replicate (↑i.count : Int).toNat [D.v (.int .i64 0)] ∧ AObj.fro (1 : Nat) (iE p.months) = AObj.fro (1 : Nat) (iE i_1) ∧ AObj.fro (1 : Nat) (iE p.settle) = AObj.fro (1 : Nat) (iE i_2) ∧ p.check = (0 : Int)) ∨ ∃ (o : Unit), False)) ∧ (sb p.code = sb p.code ∧ True ∧ p.tick = p.tick ∧ p.low = p.low ∧ p.high = p.high ∧ p.wide = p.wide ∧ p.rule = p.rule ∧ p.top = p.top ∧ p.least = p.least ∧ p.part = p.part ∧ True ∧ True) ∧ (sb p.code = sb p.code ∧ True ∧ p.tick = p.tick ∧ p.low = p.low ∧ p.high = p.high ∧ p.wide = p.wide ∧ p.rule = p.rule ∧ p.top = p.top ∧ p.least = p.least ∧ p.part = p.part ∧ True ∧ True) ∧ ((∃ (o : Unit), (0 : Int) = (0 : Int) ∧ sb p.code = sb p.code ∧ p.tick = p.tick ∧ p.low = p.low ∧ p.high = p.high ∧ p.wide = p.wide ∧ p.rule = p.rule ∧ p.top = p.top ∧ p.least = p.least ∧ p.part = p.part ∧ mapE [] = [] ∧ mapE [] = [] ∧ iE (List.replicate p.count (0 : Int)) = List.replicate (↑i.count : Int).toNat [D.v (.int .i64 0)] ∧ iE (List.replicate p.count (0 : Int)) = List.replicate (↑i.count : Int).toNat [D.v (.int .i64 0)] ∧ AObj.fro (1 : Nat) (iE p.months) = AObj.fro (1 : Nat) (iE i_1) ∧ AObj.fro (1 : Nat) (iE p.settle) = AObj.fro (1 : Nat) (iE i_2) ∧ p.check = (0 : Int)) ∨ ∃ (o : Unit), False))
theorem eqnewL (p : Prd) : VnewL p = walk Try.prog ([(27, checkC), (28, pcountC), (29, clIntRC), (30, clIntRC)]) 0 ([]) ([]) [] Try.f7 (Try.f7.body.getD .skip) (newLC.pat p) (newLC.pre p) (newLC.alts p) := by kernel_rfl

theorem bynewL (hG : GOk Try.prog ([(27, checkC), (28, pcountC), (29, clIntRC), (30, clIntRC)])) (h : ∀ (p : Prd), newLC.cnd p → VnewL p) : newLC.ok Try.prog 7 := ok_of_walk mixed ([(27, checkC), (28, pcountC), (29, clIntRC), (30, clIntRC)]) hG 0 (fun (p : Prd) => []) (fun (p : Prd) => []) [] Try.func7 (by kernel_rfl) (by kernel_rfl) (by kernel_rfl) (fun _ => by kernel_rfl) (fun (p : Prd) hc => Eq.mp (eqnewL p) (h p hc))

def Vwithin (i : WiI) : Prop :=
  IntKind.i64 = IntKind.i64 ∧ IntKind.i64.wrap (IntKind.i64.wrap (i.hi - i.lo) + (1 : Int)) ≠ (0 : Int) ∧ cnd (decide (i.n.tmod (IntKind.i64.wrap (IntKind.i64.wrap (i.hi - i.lo) + (1 : Int))) < (0 : Int))) (∃ (o : Unit), within i.n i.lo i.hi = IntKind.i64.wrap (i.lo + IntKind.i64.wrap (IntKind.i64.wrap (IntKind.i64.wrap (i.n.tmod (IntKind.i64.wrap (IntKind.i64.wrap (i.hi - i.lo) + (1 : Int))) + i.hi) - i.lo) + (1 : Int))) ∧ True) (∃ (o : Unit), within i.n i.lo i.hi = IntKind.i64.wrap (i.lo + i.n.tmod (IntKind.i64.wrap (IntKind.i64.wrap (i.hi - i.lo) + (1 : Int)))) ∧ True)
theorem eqwithin (i : WiI) : Vwithin i = walk Try.prog ([]) 0 ([]) ([]) [] Try.f8 (Try.f8.body.getD .skip) (withinC.pat i) (withinC.pre i) (withinC.alts i) := by kernel_rfl

theorem bywithin (hG : GOk Try.prog ([])) (h : ∀ (i : WiI), withinC.cnd i → Vwithin i) : withinC.ok Try.prog 8 := ok_of_walk mixed ([]) hG 0 (fun (i : WiI) => []) (fun (i : WiI) => []) [] Try.func8 (by kernel_rfl) (by kernel_rfl) (by kernel_rfl) (fun _ => by kernel_rfl) (fun (i : WiI) hc => Eq.mp (eqwithin i) (h i hc))

def Vthree (n : Int) : Prop :=
  ∃ (o : Unit), sb [(67 : UInt8), (76 : UInt8)] = ByteArray.mk #[(67 : UInt8), (76 : UInt8)] ∧ iE [(320 : Int), (321 : Int), (323 : Int)] = [[D.v (.int .i64 320)], [D.v (.int .i64 321)], [D.v (.int .i64 323)]] ∧ (5 : Int) = (5 : Int) ∧ (0 : Int) = (0 : Int) ∧ (1000 : Int) = (1000 : Int) ∧ (200 : Int) = (200 : Int) ∧ n = n ∧ (4 : Int) = (4 : Int) ∧ (2 : Int) = (2 : Int) ∧ (40 : Int) = (40 : Int) ∧ iE [(500 : Int), (505 : Int), (490 : Int)] = [[D.v (.int .i64 500)], [D.v (.int .i64 505)], [D.v (.int .i64 490)]] ∧ True
theorem eqthree (n : Int) : Vthree n = walk Try.prog ([]) 0 ([]) ([]) [] Try.f6 (Try.f6.body.getD .skip) (threeC.pat n) (threeC.pre n) (threeC.alts n) := by kernel_rfl

theorem bythree (hG : GOk Try.prog ([])) (h : ∀ (n : Int), threeC.cnd n → Vthree n) : threeC.ok Try.prog 6 := ok_of_walk mixed ([]) hG 0 (fun (n : Int) => []) (fun (n : Int) => []) [] Try.func6 (by kernel_rfl) (by kernel_rfl) (by kernel_rfl) (fun _ => by kernel_rfl) (fun (n : Int) hc => Eq.mp (eqthree n) (h n hc))

end Sx

namespace Sx
set_option linter.unusedVariables false
set_option linter.unusedSimpArgs false
set_option maxRecDepth 100000
open Go Cv Go.Proofs

theorem clIntR_ok : clIntRC.ok Try.prog 29 := byclIntR gok0 fun l h => by
  have h : l.length ≤ 1000000 := h
  exact fun b hb => Cv.cnd.mk (fun e => ⟨(), hb e, trivial⟩) (fun _ => ⟨by rw [Nat.zero_add, iE_len]; omega, (), rfl, trivial⟩)
theorem clInt64R_ok : clIntRC.ok Try.prog 30 := byclInt64R gok0 fun l h => by
  have h : l.length ≤ 1000000 := h
  exact fun b hb => Cv.cnd.mk (fun e => ⟨(), hb e, trivial⟩) (fun _ => ⟨by rw [Nat.zero_add, iE_len]; omega, (), rfl, trivial⟩)
theorem three_ok : threeC.ok Try.prog 6 := bythree gok0 fun n _ => by
  unfold Vthree; (repeat' (first | exact rfl | exact trivial | assumption | apply And.intro | (refine fun (_ : Unit) (_ : True) => ?_) | (refine Exists.intro () ?_) | omega | (dsimp only; omega)))
theorem vwithin (i : WiI) (h : withinC.cnd i) : Vwithin i := by
  obtain ⟨⟨a1, a2⟩, a3, a4, a5⟩ : i64r i.n ∧ -1000000 ≤ i.lo ∧ i.lo ≤ i.hi ∧ i.hi ≤ 1000000 := h
  unfold Vwithin
  rw [w64 (x := i.hi - i.lo) (by omega), w64 (x := i.hi - i.lo + 1) (by omega)]
  obtain ⟨d, hd⟩ : ∃ d : Int, i.hi - i.lo + 1 = d := ⟨_, rfl⟩
  rw [hd]
  have h1 : i.n.tmod d = if 0 ≤ i.n then i.n % d else -((-i.n) % d) := by
    split
    · rename_i h; rw [Int.tmod_eq_emod_of_nonneg h]
    · rename_i h
      have : i.n = -(-i.n) := by omega
      conv => lhs; rw [this]
      rw [Int.neg_tmod, Int.tmod_eq_emod_of_nonneg (by omega)]
  have hb1 := Int.emod_nonneg i.n (show d ≠ 0 by omega)
  have hb2 := Int.emod_lt_of_pos i.n (show 0 < d by omega)
  have hb3 := Int.emod_nonneg (-i.n) (show d ≠ 0 by omega)
  have hb4 := Int.emod_lt_of_pos (-i.n) (show 0 < d by omega)
  have key : i.n.tmod d < 0 → i.n % d = i.n.tmod d + d := fun hneg => by
    have := Int.emod_eq_of_lt (a := i.n.tmod d + d) (b := d) (by rw [h1] at hneg ⊢; split at hneg <;> split <;> omega) (by omega)
    rw [← this, Int.add_emod_right]
    have e := Int.tmod_add_mul_tdiv i.n d
    conv => lhs; rw [← e]
    rw [Int.add_mul_emod_self_left]
  have key2 : ¬ i.n.tmod d < 0 → i.n % d = i.n.tmod d := fun hneg => by
    have hlt : i.n.tmod d < d := by rw [h1]; split <;> omega
    have := Int.emod_eq_of_lt (a := i.n.tmod d) (b := d) (by omega) hlt
    rw [← this]
    have e := Int.tmod_add_mul_tdiv i.n d
    conv => lhs; rw [← e]
    rw [Int.add_mul_emod_self_left]
  refine ⟨rfl, by omega, cndD (fun c => ⟨(), ?_, trivial⟩) (fun c => ⟨(), ?_, trivial⟩)⟩
  · have k := key c
    rw [within, hd, k]
    rw [w64 (x := i.n.tmod d + i.hi) (by omega), w64 (x := i.n.tmod d + i.hi - i.lo) (by omega), w64 (x := i.n.tmod d + i.hi - i.lo + 1) (by omega), w64 (by omega)]
    omega
  · have k := key2 c
    rw [within, hd, k, w64 (by omega)]
theorem within_ok : withinC.ok Try.prog 8 := bywithin gok0 vwithin

theorem vnewL (p : Prd) (h : newLC.cnd p) : VnewL p := by
  obtain ⟨h1, h2, h3⟩ : p.small := h
  have p48 : (2 : Int) ^ (48 : Nat) = 281474976710656 := by decide
  refine ⟨p, ?_⟩
  simp only [iE_len, p48]
  (repeat' (first | exact rfl | exact trivial | assumption | apply And.intro | (refine fun (_ : Unit) (_ : True) => ?_) | (refine Exists.intro () ?_) | omega | (dsimp only; omega)))
  refine Cv.cnd.mk (fun c => .inr ⟨(), trivial, by (repeat' (first | exact rfl | exact trivial | assumption | apply And.intro | (refine fun (_ : Unit) (_ : True) => ?_) | (refine Exists.intro () ?_) | omega | (dsimp only; omega))), by simpa using c⟩) fun c => ?_
  have c : p.check = 0 := by simpa using c
  have m6 := (check0 c).m6
  have s1 := (check0 c).s1
  have hc := count_le p
  have er : iE (List.replicate p.count 0) = List.replicate p.count [D.v (.int .i64 0)] := by rw [iE, List.map_replicate]
  refine ⟨p, ?_⟩
  (repeat' (first | exact rfl | exact trivial | assumption | apply And.intro | (refine fun (_ : Unit) (_ : True) => ?_) | (refine Exists.intro () ?_) | omega | (dsimp only; omega)))
  refine ⟨p.months, ?_⟩
  (repeat' (first | exact rfl | exact trivial | assumption | apply And.intro | (refine fun (_ : Unit) (_ : True) => ?_) | (refine Exists.intro () ?_) | omega | (dsimp only; omega)))
  refine ⟨p.settle, ?_⟩
  (repeat' (first | exact rfl | exact trivial | assumption | apply And.intro | (refine fun (_ : Unit) (_ : True) => ?_) | (refine Exists.intro () ?_) | omega | (dsimp only; omega)))
  all_goals (refine .inl ⟨(), ?_⟩; (repeat' (first | exact rfl | exact trivial | assumption | apply And.intro | (refine fun (_ : Unit) (_ : True) => ?_) | (refine Exists.intro () ?_) | omega | (dsimp only; omega))))
  all_goals (simp only [ledger0, er, Int.toNat_natCast])
theorem newL_ok : newLC.ok Try.prog 7 := bynewL (gokc check_ok (gokc pcount_ok (gokc clIntR_ok (gokc clInt64R_ok gok0)))) vnewL

end Sx

namespace Sx
set_option linter.unusedVariables false
set_option maxRecDepth 100000
open Go Cv Go.Proofs

structure LgN where
  l : Ledger
  n : Int
/-- A map's value. -/
def aget (l : List (Int × Int)) (k : Int) : Option Int := (l.find? fun x => decide (x.1 = k)).map (·.2)
def Ledger.isB (l : Ledger) (n : Int) : Bool := decide (0 ≤ n) && decide (n < l.traded.length)
def Ledger.at (l : Ledger) (v : List Int) (n : Int) : Int := if l.isB n then v.getD n.toNat 0 else 0
@[reducible] def Ledger.ok (l : Ledger) : Prop := l.traded.length ≤ 1000000 ∧ l.net.length = l.traded.length
def lnetC : Con := con1 LgN (fun i => [.nm 0 0, i64V i.n]) (fun i => [LedgerR i.l]) (fun i => i.l.ok) (fun i => i64V (i.l.at i.l.net i.n)) (fun i => [LedgerR i.l])
end Sx

namespace Sx
set_option linter.unusedVariables false
set_option maxRecDepth 100000
open Go Cv Go.Proofs
def Vlnet (i : LgN) : Prop :=
  cnd (decide (i.n ≥ (0 : Int))) (cnd (!decide (i.n < (↑(iE i.l.traded).length : Int))) (∃ (o : Unit), i.l.at i.l.net i.n = (0 : Int) ∧ sb i.l.p.code = sb i.l.p.code ∧ i.l.p.tick = i.l.p.tick ∧ i.l.p.low = i.l.p.low ∧ i.l.p.high = i.l.p.high ∧ i.l.p.wide = i.l.p.wide ∧ i.l.p.rule = i.l.p.rule ∧ i.l.p.top = i.l.p.top ∧ i.l.p.least = i.l.p.least ∧ i.l.p.part = i.l.p.part ∧ mapE i.l.left = mapE i.l.left ∧ mapE i.l.inst = mapE i.l.inst ∧ iE i.l.traded = iE i.l.traded ∧ iE i.l.net = iE i.l.net ∧ AObj.fro (1 : Nat) (iE i.l.p.months) = AObj.fro (1 : Nat) (iE i.l.p.months) ∧ AObj.fro (1 : Nat) (iE i.l.p.settle) = AObj.fro (1 : Nat) (iE i.l.p.settle) ∧ True) (((0 : Int) ≤ i.n ∧ i.n < (↑(iE i.l.net).length : Int)) ∧ ∃ (n : Int), elPart (iE i.l.net) i.n.toNat (0 : Nat) (1 : Nat) = some [D.v (.int .i64 n)] ∧ ∃ (o : Unit), i.l.at i.l.net i.n = n ∧ sb i.l.p.code = sb i.l.p.code ∧ i.l.p.tick = i.l.p.tick ∧ i.l.p.low = i.l.p.low ∧ i.l.p.high = i.l.p.high ∧ i.l.p.wide = i.l.p.wide ∧ i.l.p.rule = i.l.p.rule ∧ i.l.p.top = i.l.p.top ∧ i.l.p.least = i.l.p.least ∧ i.l.p.part = i.l.p.part ∧ mapE i.l.left = mapE i.l.left ∧ mapE i.l.inst = mapE i.l.inst ∧ iE i.l.traded = iE i.l.traded ∧ iE i.l.net = iE i.l.net ∧ AObj.fro (1 : Nat) (iE i.l.p.months) = AObj.fro (1 : Nat) (iE i.l.p.months) ∧ AObj.fro (1 : Nat) (iE i.l.p.settle) = AObj.fro (1 : Nat) (iE i.l.p.settle) ∧ True)) (∃ (o : Unit), i.l.at i.l.net i.n = (0 : Int) ∧ sb i.l.p.code = sb i.l.p.code ∧ i.l.p.tick = i.l.p.tick ∧ i.l.p.low = i.l.p.low ∧ i.l.p.high = i.l.p.high ∧ i.l.p.wide = i.l.p.wide ∧ i.l.p.rule = i.l.p.rule ∧ i.l.p.top = i.l.p.top ∧ i.l.p.least = i.l.p.least ∧ i.l.p.part = i.l.p.part ∧ mapE i.l.left = mapE i.l.left ∧ mapE i.l.inst = mapE i.l.inst ∧ iE i.l.traded = iE i.l.traded ∧ iE i.l.net = iE i.l.net ∧ AObj.fro (1 : Nat) (iE i.l.p.months) = AObj.fro (1 : Nat) (iE i.l.p.months) ∧ AObj.fro (1 : Nat) (iE i.l.p.settle) = AObj.fro (1 : Nat) (iE i.l.p.settle) ∧ True)
theorem eqlnet (i : LgN) : Vlnet i = walk Try.prog ([]) 1 ([]) ([]) [0] Try.f12 (Try.f12.body.getD .skip) (lnetC.pat i) (lnetC.pre i) (lnetC.alts i) := by kernel_rfl

theorem bylnet (hG : GOk Try.prog ([])) (h : ∀ (i : LgN), lnetC.cnd i → Vlnet i) : lnetC.ok Try.prog 12 := ok_of_walk mixed ([]) hG 1 (fun (i : LgN) => []) (fun (i : LgN) => []) [0] Try.func12 (by kernel_rfl) (by kernel_rfl) (by kernel_rfl) (fun _ => by kernel_rfl) (fun (i : LgN) hc => Eq.mp (eqlnet i) (h i hc))

end Sx

namespace Sx
set_option linter.unusedVariables false
set_option linter.unusedSimpArgs false
set_option maxRecDepth 100000
open Go Cv Go.Proofs

theorem like_map (l : List (Int × Int)) (k : Int) : ∀ p ∈ mapE l, like (Value.int IntKind.i64 k) p.1 = true := by
  intro p hp
  obtain ⟨x, _, rfl⟩ := List.mem_map.1 hp
  rfl
theorem mget_map (k : Int) : ∀ l : List (Int × Int), mget (Value.int IntKind.i64 k) (mapE l) = (aget l k).map fun v => [D.v (.int .i64 v)]
  | [] => rfl
  | (a, v) :: l => by
    have ih := mget_map k l
    show (bif (keq .i64 .i64 && decide (k = a)) then _ else mget _ (mapE l)) = _
    by_cases h : k = a
    · subst h; simp [aget, keq]
    · have h' : ¬ a = k := fun e => h e.symm
      rw [show (keq .i64 .i64 && decide (k = a)) = false by simp [h], cond_false, ih]
      simp [aget, List.find?_cons, h']
theorem vlnet (i : LgN) (h : lnetC.cnd i) : Vlnet i := by
  obtain ⟨h1, h2⟩ : i.l.ok := h
  unfold Vlnet
  simp only [iE_len]
  refine cndD (fun c => Cv.cnd.mk (fun d => ?_) (fun d => ?_)) (fun c => ?_)
  · have d : ¬ i.n < (i.l.traded.length : Int) := by simpa using d
    rw [Ledger.at, Ledger.isB, decide_eq_false d]
    simp only [Bool.and_false, Bool.false_eq_true, if_false]; (repeat' (first | exact rfl | exact trivial | assumption | apply And.intro | (refine fun (_ : Unit) (_ : True) => ?_) | (refine Exists.intro () ?_) | omega | (dsimp only; omega)))
  · have d : i.n < (i.l.traded.length : Int) := by simpa using d
    obtain ⟨v, hv⟩ := getI (l := i.l.net) (i := i.n.toNat) (by omega)
    refine ⟨⟨by omega, by omega⟩, v, elI hv, ?_⟩
    rw [Ledger.at, Ledger.isB, decide_eq_true d, decide_eq_true (show 0 ≤ i.n by omega), Bool.true_and, if_pos rfl, List.getD_eq_getElem?_getD, hv]
    (repeat' (first | exact rfl | exact trivial | assumption | apply And.intro | (refine fun (_ : Unit) (_ : True) => ?_) | (refine Exists.intro () ?_) | omega | (dsimp only; omega)))
  · rw [Ledger.at, Ledger.isB, decide_eq_false (show ¬ 0 ≤ i.n by omega)]
    simp only [Bool.false_and, Bool.false_eq_true, if_false]; (repeat' (first | exact rfl | exact trivial | assumption | apply And.intro | (refine fun (_ : Unit) (_ : True) => ?_) | (refine Exists.intro () ?_) | omega | (dsimp only; omega)))
theorem lnet_ok : lnetC.ok Try.prog 12 := bylnet gok0 vlnet

end Sx

namespace Sx
set_option linter.unusedVariables false
set_option maxRecDepth 100000
open Go Cv Go.Proofs

structure Rep where
  kind : Int
  id : Int
  inst : Int
  side : Int
  price : Int
  qty : Int
  left : Int
  why : Int
  deriving DecidableEq
@[reducible] def Rep.cells (r : Rep) : List Int := [r.kind, r.id, r.inst, r.side, r.price, r.qty, r.left, r.why]
@[reducible] def repV (r : Rep) : V := .agg [i64V r.kind, i64V r.id, i64V r.inst, i64V r.side, i64V r.price, i64V r.qty, i64V r.left, i64V r.why]
def repE (r : Rep) : List D := [.v (.int .i64 r.kind), .v (.int .i64 r.id), .v (.int .i64 r.inst), .v (.int .i64 r.side), .v (.int .i64 r.price), .v (.int .i64 r.qty), .v (.int .i64 r.left), .v (.int .i64 r.why)]

def aput (k v : Int) : List (Int × Int) → List (Int × Int)
  | [] => [(k, v)]
  | (a, b) :: l => if k = a then (a, v) :: l else (a, b) :: aput k v l
def adel (k : Int) : List (Int × Int) → List (Int × Int)
  | [] => []
  | (a, b) :: l => if k = a then l else (a, b) :: adel k l

def Ledger.acc (l : Ledger) (r : Rep) : Ledger × Int :=
  if (aget l.left r.id).isSome = true then (l, 25) else if r.qty < 1 ∨ r.qty ≠ r.left then (l, 24) else ({ l with left := aput r.id r.left l.left, inst := aput r.id r.inst l.inst }, 0)
def Ledger.own (l : Ledger) (id : Int) : Int := (aget l.inst id).getD 0
def Ledger.legB (l : Ledger) (id inst : Int) : Bool := (aget l.inst id).isSome && ((l.p.legs (l.own id)).2.2 && (decide (inst = (l.p.legs (l.own id)).1) || decide (inst = (l.p.legs (l.own id)).2.1)))
def addAt (l : List Int) (n : Nat) (x : Int) : List Int := l.set n (IntKind.i64.wrap (l.getD n 0 + x))
def subAt (l : List Int) (n : Nat) (x : Int) : List Int := l.set n (IntKind.i64.wrap (l.getD n 0 - x))
def Ledger.trade (l : Ledger) (r : Rep) : Ledger := { l with traded := addAt l.traded r.inst.toNat r.qty, net := if r.side = 1 then addAt l.net r.inst.toNat r.qty else if r.side = 2 then subAt l.net r.inst.toNat r.qty else l.net }
def Ledger.close (l : Ledger) (id n : Int) : Ledger := { l with left := if n = 0 then adel id (aput id n l.left) else aput id n l.left }
def Rep.badK (r : Rep) : Bool := decide (r.kind < 1) || decide (r.kind > 5)
def Ledger.isLeg (l : Ledger) (r : Rep) : Bool := decide (r.kind = 3) && l.legB r.id r.inst
def Ledger.e1 (l : Ledger) (r : Rep) : Bool := decide (r.kind = 3) && decide (r.inst ≠ l.own r.id)
def Rep.e2 (r : Rep) (left : Int) : Bool := decide (r.kind = 3) && (decide (r.qty < 1) || (decide (r.qty > left) || decide (r.left ≠ IntKind.i64.wrap (left - r.qty))))
def Rep.e3 (r : Rep) (left : Int) : Bool := decide (r.kind = 4) && decide (r.qty ≠ left)
def Rep.e4 (r : Rep) (left : Int) : Bool := decide (r.kind = 5) && (decide (r.qty < 0) || (decide (r.qty ≥ left) || decide (r.left ≠ IntKind.i64.wrap (left - r.qty))))
def Ledger.done (l : Ledger) (r : Rep) : Ledger :=
  if r.kind = 3 then (l.trade r).close r.id r.left else if r.kind = 4 then l.close r.id 0 else l.close r.id r.left
def Ledger.add (l : Ledger) (r : Rep) : Ledger × Int :=
  if r.badK = true then (l, 31) else if r.kind = 2 then (l, 0) else if l.isB r.inst = false then (l, 20) else if r.kind = 1 then l.acc r
  else if l.isLeg r = true then (if r.qty < 1 then (l, 24) else (l.trade r, 0))
  else match aget l.left r.id with
    | none => (l, 26)
    | some left => if l.e1 r = true then (l, 20) else if r.e2 left = true then (l, 24) else if r.e3 left = true then (l, 24) else if r.e4 left = true then (l, 24) else (l.done r, 0)
structure LgR where
  l : Ledger
  r : Rep
@[reducible] def Ledger.fit (l : Ledger) : Prop := l.ok ∧ l.p.small
def laddC : Con := con1 LgR (fun i => [.nm 0 0, repV i.r]) (fun i => [LedgerR i.l]) (fun i => i.l.fit) (fun i => i64V (i.l.add i.r).2) (fun i => [LedgerR (i.l.add i.r).1])

def Ledger.addAll : Ledger → List Rep → Ledger × Int
  | l, [] => (l, 0)
  | l, r :: t => if (l.add r).2 ≠ 0 then l.add r else Ledger.addAll (l.add r).1 t
def reportsF (p : Prd) (l : List Rep) : Int :=
  if p.check ≠ 0 then p.check else if ((ledger0 p).addAll l).2 ≠ 0 then ((ledger0 p).addAll l).2 else if (List.range p.months.length).any (fun n => decide (((ledger0 p).addAll l).1.at ((ledger0 p).addAll l).1.net n ≠ 0)) then 21 else 0
structure RpI where
  p : Prd
  l : List Rep
def reportsC : Con := con1 RpI (fun i => [prdV i.p, roV 8 (i.l.map repE)]) (fun _ => []) (fun i => i.p.small ∧ i.l.length ≤ 1099511627776) (fun i => i64V (reportsF i.p i.l)) (fun _ => [])
def reportsA (i : RpI) : List SAnn := [
  { ι := Nat, slots := fun j => [(5, .nm 0 0), (21, i64V j)], rows := fun j => [LedgerR ((ledger0 i.p).addAll (i.l.take j)).1] },
  { ι := Nat, slots := fun j => [(35, i64V j)], rows := fun _ => [] }]
def known25C : Con := con1 Unit (fun _ => []) (fun _ => []) (fun _ => True) (fun _ => boolV true) (fun _ => [])

structure LfI where
  qty : Int
  steps : List Int
  inst : Int
structure LfS where
  left : Int
  sum : Int
  i : Nat
/-- A join, where one Bool is kept. -/
def bj (t : Nat) : SAnn := { ι := Bool, slots := fun b => [(t, boolV b)], rows := fun _ => [] }
def laddJ : List (Nat × SAnn) := [(4, bj 7), (20, bj 20), (36, bj 43), (68, bj 63), (76, bj 79), (84, bj 103), (92, bj 113)]
structure Li2 where
  a : Int
  b : Int
end Sx

namespace Sx
set_option linter.unusedVariables false
set_option maxRecDepth 100000
open Go Cv Go.Proofs
@[reducible] def Vladdr0 (i : LgR) : AObj := Sx.AObj.cells [V.d (D.v (.int .i64 i.r.kind)), V.d (D.v (.int .i64 i.r.id)), V.d (D.v (.int .i64 i.r.inst)), V.d (D.v (.int .i64 i.r.side)), V.d (D.v (.int .i64 i.r.price)), V.d (D.v (.int .i64 i.r.qty)), V.d (D.v (.int .i64 i.r.left)), V.d (D.v (.int .i64 i.r.why))] (34 : Nat)
@[reducible] def Vladdr1 (i : LgR) : AObj := Sx.AObj.cells (renL (unfNM (0 : Nat) (1 : Nat) (7 : Nat)) [sV i.l.p.code, V.own (5 : Nat), i64V i.l.p.tick, i64V i.l.p.low, i64V i.l.p.high, i64V i.l.p.wide, i64V i.l.p.rule, i64V i.l.p.top, i64V i.l.p.least, i64V i.l.p.part, V.own (6 : Nat), V.mp (1 : Nat), V.mp (2 : Nat), V.own (3 : Nat), V.own (4 : Nat)]) (73 : TypeId)
def Vladd (i : LgR) : Prop :=
  ∃ (i0 : Bool), ∃ (I : Bool → Prop), cnd (decide (i.r.kind < (1 : Int))) (∃ (i' : Bool), i' = true ∧ I i' ∧ Vladdr0 i = Vladdr0 i ∧ Vladdr1 i = Vladdr1 i ∧ Sx.AObj.map (mapE i.l.left) = Sx.AObj.map (mapE i.l.left) ∧ Sx.AObj.map (mapE i.l.inst) = Sx.AObj.map (mapE i.l.inst) ∧ AObj.own (2 : Nat) (1 : Nat) (iE i.l.traded) = AObj.own (2 : Nat) (1 : Nat) (iE i.l.traded) ∧ AObj.own (2 : Nat) (1 : Nat) (iE i.l.net) = AObj.own (2 : Nat) (1 : Nat) (iE i.l.net) ∧ AObj.fro (1 : Nat) (iE i.l.p.months) = AObj.fro (1 : Nat) (iE i.l.p.months) ∧ AObj.fro (1 : Nat) (iE i.l.p.settle) = AObj.fro (1 : Nat) (iE i.l.p.settle)) (∃ (i' : Bool), i' = decide (i.r.kind > (5 : Int)) ∧ I i' ∧ Vladdr0 i = Vladdr0 i ∧ Vladdr1 i = Vladdr1 i ∧ Sx.AObj.map (mapE i.l.left) = Sx.AObj.map (mapE i.l.left) ∧ Sx.AObj.map (mapE i.l.inst) = Sx.AObj.map (mapE i.l.inst) ∧ AObj.own (2 : Nat) (1 : Nat) (iE i.l.traded) = AObj.own (2 : Nat) (1 : Nat) (iE i.l.traded) ∧ AObj.own (2 : Nat) (1 : Nat) (iE i.l.net) = AObj.own (2 : Nat) (1 : Nat) (iE i.l.net) ∧ AObj.fro (1 : Nat) (iE i.l.p.months) = AObj.fro (1 : Nat) (iE i.l.p.months) ∧ AObj.fro (1 : Nat) (iE i.l.p.settle) = AObj.fro (1 : Nat) (iE i.l.p.settle)) ∧ ∀ (i_1 : Bool), I i_1 → cnd i_1 (∃ (o : Unit), (i.l.add i.r).snd = (31 : Int) ∧ sb (i.l.add i.r).fst.p.code = sb i.l.p.code ∧ (i.l.add i.r).fst.p.tick = i.l.p.tick ∧ (i.l.add i.r).fst.p.low = i.l.p.low ∧ (i.l.add i.r).fst.p.high = i.l.p.high ∧ (i.l.add i.r).fst.p.wide = i.l.p.wide ∧ (i.l.add i.r).fst.p.rule = i.l.p.rule ∧ (i.l.add i.r).fst.p.top = i.l.p.top ∧ (i.l.add i.r).fst.p.least = i.l.p.least ∧ (i.l.add i.r).fst.p.part = i.l.p.part ∧ mapE (i.l.add i.r).fst.left = mapE i.l.left ∧ mapE (i.l.add i.r).fst.inst = mapE i.l.inst ∧ iE (i.l.add i.r).fst.traded = iE i.l.traded ∧ iE (i.l.add i.r).fst.net = iE i.l.net ∧ AObj.fro (1 : Nat) (iE (i.l.add i.r).fst.p.months) = AObj.fro (1 : Nat) (iE i.l.p.months) ∧ AObj.fro (1 : Nat) (iE (i.l.add i.r).fst.p.settle) = AObj.fro (1 : Nat) (iE i.l.p.settle) ∧ True) (cnd (i.r.kind == (2 : Int)) (∃ (o : Unit), (i.l.add i.r).snd = (0 : Int) ∧ sb (i.l.add i.r).fst.p.code = sb i.l.p.code ∧ (i.l.add i.r).fst.p.tick = i.l.p.tick ∧ (i.l.add i.r).fst.p.low = i.l.p.low ∧ (i.l.add i.r).fst.p.high = i.l.p.high ∧ (i.l.add i.r).fst.p.wide = i.l.p.wide ∧ (i.l.add i.r).fst.p.rule = i.l.p.rule ∧ (i.l.add i.r).fst.p.top = i.l.p.top ∧ (i.l.add i.r).fst.p.least = i.l.p.least ∧ (i.l.add i.r).fst.p.part = i.l.p.part ∧ mapE (i.l.add i.r).fst.left = mapE i.l.left ∧ mapE (i.l.add i.r).fst.inst = mapE i.l.inst ∧ iE (i.l.add i.r).fst.traded = iE i.l.traded ∧ iE (i.l.add i.r).fst.net = iE i.l.net ∧ AObj.fro (1 : Nat) (iE (i.l.add i.r).fst.p.months) = AObj.fro (1 : Nat) (iE i.l.p.months) ∧ AObj.fro (1 : Nat) (iE (i.l.add i.r).fst.p.settle) = AObj.fro (1 : Nat) (iE i.l.p.settle) ∧ True) (∃ (i0 : Bool), ∃ (I : Bool → Prop), cnd (decide (i.r.inst ≥ (0 : Int))) (∃ (i' : Bool), i' = !decide (i.r.inst < (↑(iE i.l.traded).length : Int)) ∧ I i' ∧ Vladdr0 i = Vladdr0 i ∧ Vladdr1 i = Vladdr1 i ∧ Sx.AObj.map (mapE i.l.left) = Sx.AObj.map (mapE i.l.left) ∧ Sx.AObj.map (mapE i.l.inst) = Sx.AObj.map (mapE i.l.inst) ∧ AObj.own (2 : Nat) (1 : Nat) (iE i.l.traded) = AObj.own (2 : Nat) (1 : Nat) (iE i.l.traded) ∧ AObj.own (2 : Nat) (1 : Nat) (iE i.l.net) = AObj.own (2 : Nat) (1 : Nat) (iE i.l.net) ∧ AObj.fro (1 : Nat) (iE i.l.p.months) = AObj.fro (1 : Nat) (iE i.l.p.months) ∧ AObj.fro (1 : Nat) (iE i.l.p.settle) = AObj.fro (1 : Nat) (iE i.l.p.settle)) (∃ (i' : Bool), i' = !false ∧ I i' ∧ Vladdr0 i = Vladdr0 i ∧ Vladdr1 i = Vladdr1 i ∧ Sx.AObj.map (mapE i.l.left) = Sx.AObj.map (mapE i.l.left) ∧ Sx.AObj.map (mapE i.l.inst) = Sx.AObj.map (mapE i.l.inst) ∧ AObj.own (2 : Nat) (1 : Nat) (iE i.l.traded) = AObj.own (2 : Nat) (1 : Nat) (iE i.l.traded) ∧ AObj.own (2 : Nat) (1 : Nat) (iE i.l.net) = AObj.own (2 : Nat) (1 : Nat) (iE i.l.net) ∧ AObj.fro (1 : Nat) (iE i.l.p.months) = AObj.fro (1 : Nat) (iE i.l.p.months) ∧ AObj.fro (1 : Nat) (iE i.l.p.settle) = AObj.fro (1 : Nat) (iE i.l.p.settle)) ∧ ∀ (i_2 : Bool), I i_2 → cnd i_2 (∃ (o : Unit), (i.l.add i.r).snd = (20 : Int) ∧ sb (i.l.add i.r).fst.p.code = sb i.l.p.code ∧ (i.l.add i.r).fst.p.tick = i.l.p.tick ∧ (i.l.add i.r).fst.p.low = i.l.p.low ∧ (i.l.add i.r).fst.p.high = i.l.p.high ∧ (i.l.add i.r).fst.p.wide = i.l.p.wide ∧ (i.l.add i.r).fst.p.rule = i.l.p.rule ∧ (i.l.add i.r).fst.p.top = i.l.p.top ∧ (i.l.add i.r).fst.p.least = i.l.p.least ∧ (i.l.add i.r).fst.p.part = i.l.p.part ∧ mapE (i.l.add i.r).fst.left = mapE i.l.left ∧ mapE (i.l.add i.r).fst.inst = mapE i.l.inst ∧ iE (i.l.add i.r).fst.traded = iE i.l.traded ∧ iE (i.l.add i.r).fst.net = iE i.l.net ∧ AObj.fro (1 : Nat) (iE (i.l.add i.r).fst.p.months) = AObj.fro (1 : Nat) (iE i.l.p.months) ∧ AObj.fro (1 : Nat) (iE (i.l.add i.r).fst.p.settle) = AObj.fro (1 : Nat) (iE i.l.p.settle) ∧ True) (cnd (i.r.kind == (1 : Int)) ((∀ (p : Value × List D), p ∈ mapE i.l.left → like (Value.int IntKind.i64 i.r.id) p.fst = true) ∧ ∃ (b : Bool), ∃ (n : Int), (mget (Value.int IntKind.i64 i.r.id) (mapE i.l.left) = some [D.v (.int .i64 n)] ∧ b = true ∨ mget (Value.int IntKind.i64 i.r.id) (mapE i.l.left) = none ∧ [D.v (.int .i64 n)] = [D.v (.int .i64 0)] ∧ b = false) ∧ cnd b (∃ (o : Unit), (i.l.add i.r).snd = (25 : Int) ∧ sb (i.l.add i.r).fst.p.code = sb i.l.p.code ∧ (i.l.add i.r).fst.p.tick = i.l.p.tick ∧ (i.l.add i.r).fst.p.low = i.l.p.low ∧ (i.l.add i.r).fst.p.high = i.l.p.high ∧ (i.l.add i.r).fst.p.wide = i.l.p.wide ∧ (i.l.add i.r).fst.p.rule = i.l.p.rule ∧ (i.l.add i.r).fst.p.top = i.l.p.top ∧ (i.l.add i.r).fst.p.least = i.l.p.least ∧ (i.l.add i.r).fst.p.part = i.l.p.part ∧ mapE (i.l.add i.r).fst.left = mapE i.l.left ∧ mapE (i.l.add i.r).fst.inst = mapE i.l.inst ∧ iE (i.l.add i.r).fst.traded = iE i.l.traded ∧ iE (i.l.add i.r).fst.net = iE i.l.net ∧ AObj.fro (1 : Nat) (iE (i.l.add i.r).fst.p.months) = AObj.fro (1 : Nat) (iE i.l.p.months) ∧ AObj.fro (1 : Nat) (iE (i.l.add i.r).fst.p.settle) = AObj.fro (1 : Nat) (iE i.l.p.settle) ∧ True) (cnd (decide (i.r.qty < (1 : Int))) (∃ (o : Unit), (i.l.add i.r).snd = (24 : Int) ∧ sb (i.l.add i.r).fst.p.code = sb i.l.p.code ∧ (i.l.add i.r).fst.p.tick = i.l.p.tick ∧ (i.l.add i.r).fst.p.low = i.l.p.low ∧ (i.l.add i.r).fst.p.high = i.l.p.high ∧ (i.l.add i.r).fst.p.wide = i.l.p.wide ∧ (i.l.add i.r).fst.p.rule = i.l.p.rule ∧ (i.l.add i.r).fst.p.top = i.l.p.top ∧ (i.l.add i.r).fst.p.least = i.l.p.least ∧ (i.l.add i.r).fst.p.part = i.l.p.part ∧ mapE (i.l.add i.r).fst.left = mapE i.l.left ∧ mapE (i.l.add i.r).fst.inst = mapE i.l.inst ∧ iE (i.l.add i.r).fst.traded = iE i.l.traded ∧ iE (i.l.add i.r).fst.net = iE i.l.net ∧ AObj.fro (1 : Nat) (iE (i.l.add i.r).fst.p.months) = AObj.fro (1 : Nat) (iE i.l.p.months) ∧ AObj.fro (1 : Nat) (iE (i.l.add i.r).fst.p.settle) = AObj.fro (1 : Nat) (iE i.l.p.settle) ∧ True) (cnd (i.r.qty != i.r.left) (∃ (o : Unit), (i.l.add i.r).snd = (24 : Int) ∧ sb (i.l.add i.r).fst.p.code = sb i.l.p.code ∧ (i.l.add i.r).fst.p.tick = i.l.p.tick ∧ (i.l.add i.r).fst.p.low = i.l.p.low ∧ (i.l.add i.r).fst.p.high = i.l.p.high ∧ (i.l.add i.r).fst.p.wide = i.l.p.wide ∧ (i.l.add i.r).fst.p.rule = i.l.p.rule ∧ (i.l.add i.r).fst.p.top = i.l.p.top ∧ (i.l.add i.r).fst.p.least = i.l.p.least ∧ (i.l.add i.r).fst.p.part = i.l.p.part ∧ mapE (i.l.add i.r).fst.left = mapE i.l.left ∧ mapE (i.l.add i.r).fst.inst = mapE i.l.inst ∧ iE (i.l.add i.r).fst.traded = iE i.l.traded ∧ iE (i.l.add i.r).fst.net = iE i.l.net ∧ AObj.fro (1 : Nat) (iE (i.l.add i.r).fst.p.months) = AObj.fro (1 : Nat) (iE i.l.p.months) ∧ AObj.fro (1 : Nat) (iE (i.l.add i.r).fst.p.settle) = AObj.fro (1 : Nat) (iE i.l.p.settle) ∧ True) ((∀ (p : Value × List D), p ∈ mapE i.l.left → like (Value.int IntKind.i64 i.r.id) p.fst = true) ∧ ∃ (b : Bool), ∃ (n : Int), (mget (Value.int IntKind.i64 i.r.id) (mapE i.l.left) = some [D.v (.int .i64 n)] ∧ b = true ∨ mget (Value.int IntKind.i64 i.r.id) (mapE i.l.left) = none ∧ [D.v (.int .i64 n)] = [D.v (.int .i64 0)] ∧ b = false) ∧ ∀ (x : Int), i.r.inst = i.r.inst ∧ i.r.left = i.r.left ∧ i.r.id = i.r.id ∧ x = x ∧ (∀ (p : Value × List D), p ∈ mput (Value.int IntKind.i64 i.r.id) [D.v (.int .i64 n)] (mapE i.l.left) → like (Value.int IntKind.i64 i.r.id) p.fst = true) ∧ i.r.inst = i.r.inst ∧ i.r.id = i.r.id ∧ (∀ (p : Value × List D), p ∈ mapE i.l.inst → like (Value.int IntKind.i64 i.r.id) p.fst = true) ∧ ∃ (b : Bool), ∃ (n_1 : Int), (mget (Value.int IntKind.i64 i.r.id) (mapE i.l.inst) = some [D.v (.int .i64 n_1)] ∧ b = true ∨ mget (Value.int IntKind.i64 i.r.id) (mapE i.l.inst) = none ∧ [D.v (.int .i64 n_1)] = [D.v (.int .i64 0)] ∧ b = false) ∧ ∀ (x : Int), i.r.inst = i.r.inst ∧ x = x ∧ (∀ (p : Value × List D), p ∈ mput (Value.int IntKind.i64 i.r.id) [D.v (.int .i64 n_1)] (mapE i.l.inst) → like (Value.int IntKind.i64 i.r.id) p.fst = true) ∧ ∃ (o : Unit), (i.l.add i.r).snd = (0 : Int) ∧ sb (i.l.add i.r).fst.p.code = sb i.l.p.code ∧ (i.l.add i.r).fst.p.tick = i.l.p.tick ∧ (i.l.add i.r).fst.p.low = i.l.p.low ∧ (i.l.add i.r).fst.p.high = i.l.p.high ∧ (i.l.add i.r).fst.p.wide = i.l.p.wide ∧ (i.l.add i.r).fst.p.rule = i.l.p.rule ∧ (i.l.add i.r).fst.p.top = i.l.p.top ∧ (i.l.add i.r).fst.p.least = i.l.p.least ∧ (i.l.add i.r).fst.p.part = i.l.p.part ∧ mapE (i.l.add i.r).fst.left = mput (Value.int IntKind.i64 i.r.id) [D.v (.int .i64 i.r.left)] (mput (Value.int IntKind.i64 i.r.id) [D.v (.int .i64 n)] (mapE i.l.left)) ∧ mapE (i.l.add i.r).fst.inst = mput (Value.int IntKind.i64 i.r.id) [D.v (.int .i64 i.r.inst)] (mput (Value.int IntKind.i64 i.r.id) [D.v (.int .i64 n_1)] (mapE i.l.inst)) ∧ iE (i.l.add i.r).fst.traded = iE i.l.traded ∧ iE (i.l.add i.r).fst.net = iE i.l.net ∧ AObj.fro (1 : Nat) (iE (i.l.add i.r).fst.p.months) = AObj.fro (1 : Nat) (iE i.l.p.months) ∧ AObj.fro (1 : Nat) (iE (i.l.add i.r).fst.p.settle) = AObj.fro (1 : Nat) (iE i.l.p.settle) ∧ True)))) (∃ (i0 : Bool), ∃ (I : Bool → Prop), cnd (i.r.kind == (3 : Int)) ((∀ (p : Value × List D), p ∈ mapE i.l.inst → like (Value.int IntKind.i64 i.r.id) p.fst = true) ∧ ∃ (b : Bool), ∃ (n : Int), (mget (Value.int IntKind.i64 i.r.id) (mapE i.l.inst) = some [D.v (.int .i64 n)] ∧ b = true ∨ mget (Value.int IntKind.i64 i.r.id) (mapE i.l.inst) = none ∧ [D.v (.int .i64 n)] = [D.v (.int .i64 0)] ∧ b = false) ∧ ∃ (i_3 : LegI), sb i_3.p.code = sb i.l.p.code ∧ iE i_3.p.months = iE i.l.p.months ∧ i_3.p.tick = i.l.p.tick ∧ i_3.p.low = i.l.p.low ∧ i_3.p.high = i.l.p.high ∧ i_3.p.wide = i.l.p.wide ∧ i_3.p.rule = i.l.p.rule ∧ i_3.p.top = i.l.p.top ∧ i_3.p.least = i.l.p.least ∧ i_3.p.part = i.l.p.part ∧ iE i_3.p.settle = iE i.l.p.settle ∧ i_3.n = n ∧ (i_3.p.code.length ≤ (1099511627776 : Nat) ∧ i_3.p.months.length ≤ (1099511627776 : Nat) ∧ i_3.p.settle.length ≤ (1099511627776 : Nat)) ∧ ∀ (o : Unit), True → cnd b (cnd (i_3.p.legs i_3.n).snd.snd (cnd (i.r.inst == (i_3.p.legs i_3.n).fst) (∃ (i' : Bool), i' = true ∧ I i' ∧ Vladdr0 i = Vladdr0 i ∧ Vladdr1 i = Vladdr1 i ∧ Sx.AObj.map (mapE i.l.left) = Sx.AObj.map (mapE i.l.left) ∧ Sx.AObj.map (mapE i.l.inst) = Sx.AObj.map (mapE i.l.inst) ∧ AObj.own (2 : Nat) (1 : Nat) (iE i.l.traded) = AObj.own (2 : Nat) (1 : Nat) (iE i.l.traded) ∧ AObj.own (2 : Nat) (1 : Nat) (iE i.l.net) = AObj.own (2 : Nat) (1 : Nat) (iE i.l.net) ∧ AObj.fro (1 : Nat) (iE i.l.p.months) = AObj.fro (1 : Nat) (iE i.l.p.months) ∧ AObj.fro (1 : Nat) (iE i.l.p.settle) = AObj.fro (1 : Nat) (iE i.l.p.settle)) (∃ (i' : Bool), i' = (i.r.inst == (i_3.p.legs i_3.n).snd.fst) ∧ I i' ∧ Vladdr0 i = Vladdr0 i ∧ Vladdr1 i = Vladdr1 i ∧ Sx.AObj.map (mapE i.l.left) = Sx.AObj.map (mapE i.l.left) ∧ Sx.AObj.map (mapE i.l.inst) = Sx.AObj.map (mapE i.l.inst) ∧ AObj.own (2 : Nat) (1 : Nat) (iE i.l.traded) = AObj.own (2 : Nat) (1 : Nat) (iE i.l.traded) ∧ AObj.own (2 : Nat) (1 : Nat) (iE i.l.net) = AObj.own (2 : Nat) (1 : Nat) (iE i.l.net) ∧ AObj.fro (1 : Nat) (iE i.l.p.months) = AObj.fro (1 : Nat) (iE i.l.p.months) ∧ AObj.fro (1 : Nat) (iE i.l.p.settle) = AObj.fro (1 : Nat) (iE i.l.p.settle))) (∃ (i' : Bool), i' = false ∧ I i' ∧ Vladdr0 i = Vladdr0 i ∧ Vladdr1 i = Vladdr1 i ∧ Sx.AObj.map (mapE i.l.left) = Sx.AObj.map (mapE i.l.left) ∧ Sx.AObj.map (mapE i.l.inst) = Sx.AObj.map (mapE i.l.inst) ∧ AObj.own (2 : Nat) (1 : Nat) (iE i.l.traded) = AObj.own (2 : Nat) (1 : Nat) (iE i.l.traded) ∧ AObj.own (2 : Nat) (1 : Nat) (iE i.l.net) = AObj.own (2 : Nat) (1 : Nat) (iE i.l.net) ∧ AObj.fro (1 : Nat) (iE i.l.p.months) = AObj.fro (1 : Nat) (iE i.l.p.months) ∧ AObj.fro (1 : Nat) (iE i.l.p.settle) = AObj.fro (1 : Nat) (iE i.l.p.settle))) (∃ (i' : Bool), i' = false ∧ I i' ∧ Vladdr0 i = Vladdr0 i ∧ Vladdr1 i = Vladdr1 i ∧ Sx.AObj.map (mapE i.l.left) = Sx.AObj.map (mapE i.l.left) ∧ Sx.AObj.map (mapE i.l.inst) = Sx.AObj.map (mapE i.l.inst) ∧ AObj.own (2 : Nat) (1 : Nat) (iE i.l.traded) = AObj.own (2 : Nat) (1 : Nat) (iE i.l.traded) ∧ AObj.own (2 : Nat) (1 : Nat) (iE i.l.net) = AObj.own (2 : Nat) (1 : Nat) (iE i.l.net) ∧ AObj.fro (1 : Nat) (iE i.l.p.months) = AObj.fro (1 : Nat) (iE i.l.p.months) ∧ AObj.fro (1 : Nat) (iE i.l.p.settle) = AObj.fro (1 : Nat) (iE i.l.p.settle))) (∃ (i' : Bool), i' = false ∧ I i' ∧ Vladdr0 i = Vladdr0 i ∧ Vladdr1 i = Vladdr1 i ∧ Sx.AObj.map (mapE i.l.left) = Sx.AObj.map (mapE i.l.left) ∧ Sx.AObj.map (mapE i.l.inst) = Sx.AObj.map (mapE i.l.inst) ∧ AObj.own (2 : Nat) (1 : Nat) (iE i.l.traded) = AObj.own (2 : Nat) (1 : Nat) (iE i.l.traded) ∧ AObj.own (2 : Nat) (1 : Nat) (iE i.l.net) = AObj.own (2 : Nat) (1 : Nat) (iE i.l.net) ∧ AObj.fro (1 : Nat) (iE i.l.p.months) = AObj.fro (1 : Nat) (iE i.l.p.months) ∧ AObj.fro (1 : Nat) (iE i.l.p.settle) = AObj.fro (1 : Nat) (iE i.l.p.settle)) ∧ ∀ (i_3 : Bool), I i_3 → cnd i_3 (cnd (decide (i.r.qty < (1 : Int))) (∃ (o : Unit), (i.l.add i.r).snd = (24 : Int) ∧ sb (i.l.add i.r).fst.p.code = sb i.l.p.code ∧ (i.l.add i.r).fst.p.tick = i.l.p.tick ∧ (i.l.add i.r).fst.p.low = i.l.p.low ∧ (i.l.add i.r).fst.p.high = i.l.p.high ∧ (i.l.add i.r).fst.p.wide = i.l.p.wide ∧ (i.l.add i.r).fst.p.rule = i.l.p.rule ∧ (i.l.add i.r).fst.p.top = i.l.p.top ∧ (i.l.add i.r).fst.p.least = i.l.p.least ∧ (i.l.add i.r).fst.p.part = i.l.p.part ∧ mapE (i.l.add i.r).fst.left = mapE i.l.left ∧ mapE (i.l.add i.r).fst.inst = mapE i.l.inst ∧ iE (i.l.add i.r).fst.traded = iE i.l.traded ∧ iE (i.l.add i.r).fst.net = iE i.l.net ∧ AObj.fro (1 : Nat) (iE (i.l.add i.r).fst.p.months) = AObj.fro (1 : Nat) (iE i.l.p.months) ∧ AObj.fro (1 : Nat) (iE (i.l.add i.r).fst.p.settle) = AObj.fro (1 : Nat) (iE i.l.p.settle) ∧ True) (((0 : Int) ≤ i.r.inst ∧ i.r.inst < (↑(iE i.l.traded).length : Int)) ∧ ∃ (n : Int), elPart (iE i.l.traded) i.r.inst.toNat (0 : Nat) (1 : Nat) = some [D.v (.int .i64 n)] ∧ ((0 : Int) ≤ i.r.inst ∧ i.r.inst < (↑(iE i.l.traded).length : Int)) ∧ i.r.inst.toNat < (iE i.l.traded).length ∧ cnd (i.r.side == (1 : Int)) (((0 : Int) ≤ i.r.inst ∧ i.r.inst < (↑(iE i.l.net).length : Int)) ∧ ∃ (n_1 : Int), elPart (iE i.l.net) i.r.inst.toNat (0 : Nat) (1 : Nat) = some [D.v (.int .i64 n_1)] ∧ ((0 : Int) ≤ i.r.inst ∧ i.r.inst < (↑(iE i.l.net).length : Int)) ∧ i.r.inst.toNat < (iE i.l.net).length ∧ ∃ (o : Unit), (i.l.add i.r).snd = (0 : Int) ∧ sb (i.l.add i.r).fst.p.code = sb i.l.p.code ∧ (i.l.add i.r).fst.p.tick = i.l.p.tick ∧ (i.l.add i.r).fst.p.low = i.l.p.low ∧ (i.l.add i.r).fst.p.high = i.l.p.high ∧ (i.l.add i.r).fst.p.wide = i.l.p.wide ∧ (i.l.add i.r).fst.p.rule = i.l.p.rule ∧ (i.l.add i.r).fst.p.top = i.l.p.top ∧ (i.l.add i.r).fst.p.least = i.l.p.least ∧ (i.l.add i.r).fst.p.part = i.l.p.part ∧ mapE (i.l.add i.r).fst.left = mapE i.l.left ∧ mapE (i.l.add i.r).fst.inst = mapE i.l.inst ∧ iE (i.l.add i.r).fst.traded = elSet (iE i.l.traded) i.r.inst.toNat (0 : Nat) [D.v (.int .i64 (IntKind.i64.wrap (n + i.r.qty)))] ∧ iE (i.l.add i.r).fst.net = elSet (iE i.l.net) i.r.inst.toNat (0 : Nat) [D.v (.int .i64 (IntKind.i64.wrap (n_1 + i.r.qty)))] ∧ AObj.fro (1 : Nat) (iE (i.l.add i.r).fst.p.months) = AObj.fro (1 : Nat) (iE i.l.p.months) ∧ AObj.fro (1 : Nat) (iE (i.l.add i.r).fst.p.settle) = AObj.fro (1 : Nat) (iE i.l.p.settle) ∧ True) (cnd (i.r.side == (2 : Int)) (((0 : Int) ≤ i.r.inst ∧ i.r.inst < (↑(iE i.l.net).length : Int)) ∧ ∃ (n_1 : Int), elPart (iE i.l.net) i.r.inst.toNat (0 : Nat) (1 : Nat) = some [D.v (.int .i64 n_1)] ∧ ((0 : Int) ≤ i.r.inst ∧ i.r.inst < (↑(iE i.l.net).length : Int)) ∧ i.r.inst.toNat < (iE i.l.net).length ∧ ∃ (o : Unit), (i.l.add i.r).snd = (0 : Int) ∧ sb (i.l.add i.r).fst.p.code = sb i.l.p.code ∧ (i.l.add i.r).fst.p.tick = i.l.p.tick ∧ (i.l.add i.r).fst.p.low = i.l.p.low ∧ (i.l.add i.r).fst.p.high = i.l.p.high ∧ (i.l.add i.r).fst.p.wide = i.l.p.wide ∧ (i.l.add i.r).fst.p.rule = i.l.p.rule ∧ (i.l.add i.r).fst.p.top = i.l.p.top ∧ (i.l.add i.r).fst.p.least = i.l.p.least ∧ (i.l.add i.r).fst.p.part = i.l.p.part ∧ mapE (i.l.add i.r).fst.left = mapE i.l.left ∧ mapE (i.l.add i.r).fst.inst = mapE i.l.inst ∧ iE (i.l.add i.r).fst.traded = elSet (iE i.l.traded) i.r.inst.toNat (0 : Nat) [D.v (.int .i64 (IntKind.i64.wrap (n + i.r.qty)))] ∧ iE (i.l.add i.r).fst.net = elSet (iE i.l.net) i.r.inst.toNat (0 : Nat) [D.v (.int .i64 (IntKind.i64.wrap (n_1 - i.r.qty)))] ∧ AObj.fro (1 : Nat) (iE (i.l.add i.r).fst.p.months) = AObj.fro (1 : Nat) (iE i.l.p.months) ∧ AObj.fro (1 : Nat) (iE (i.l.add i.r).fst.p.settle) = AObj.fro (1 : Nat) (iE i.l.p.settle) ∧ True) (∃ (o : Unit), (i.l.add i.r).snd = (0 : Int) ∧ sb (i.l.add i.r).fst.p.code = sb i.l.p.code ∧ (i.l.add i.r).fst.p.tick = i.l.p.tick ∧ (i.l.add i.r).fst.p.low = i.l.p.low ∧ (i.l.add i.r).fst.p.high = i.l.p.high ∧ (i.l.add i.r).fst.p.wide = i.l.p.wide ∧ (i.l.add i.r).fst.p.rule = i.l.p.rule ∧ (i.l.add i.r).fst.p.top = i.l.p.top ∧ (i.l.add i.r).fst.p.least = i.l.p.least ∧ (i.l.add i.r).fst.p.part = i.l.p.part ∧ mapE (i.l.add i.r).fst.left = mapE i.l.left ∧ mapE (i.l.add i.r).fst.inst = mapE i.l.inst ∧ iE (i.l.add i.r).fst.traded = elSet (iE i.l.traded) i.r.inst.toNat (0 : Nat) [D.v (.int .i64 (IntKind.i64.wrap (n + i.r.qty)))] ∧ iE (i.l.add i.r).fst.net = iE i.l.net ∧ AObj.fro (1 : Nat) (iE (i.l.add i.r).fst.p.months) = AObj.fro (1 : Nat) (iE i.l.p.months) ∧ AObj.fro (1 : Nat) (iE (i.l.add i.r).fst.p.settle) = AObj.fro (1 : Nat) (iE i.l.p.settle) ∧ True)))) ((∀ (p : Value × List D), p ∈ mapE i.l.left → like (Value.int IntKind.i64 i.r.id) p.fst = true) ∧ ∃ (b : Bool), ∃ (n : Int), (mget (Value.int IntKind.i64 i.r.id) (mapE i.l.left) = some [D.v (.int .i64 n)] ∧ b = true ∨ mget (Value.int IntKind.i64 i.r.id) (mapE i.l.left) = none ∧ [D.v (.int .i64 n)] = [D.v (.int .i64 0)] ∧ b = false) ∧ cnd (!b) (∃ (o : Unit), (i.l.add i.r).snd = (26 : Int) ∧ sb (i.l.add i.r).fst.p.code = sb i.l.p.code ∧ (i.l.add i.r).fst.p.tick = i.l.p.tick ∧ (i.l.add i.r).fst.p.low = i.l.p.low ∧ (i.l.add i.r).fst.p.high = i.l.p.high ∧ (i.l.add i.r).fst.p.wide = i.l.p.wide ∧ (i.l.add i.r).fst.p.rule = i.l.p.rule ∧ (i.l.add i.r).fst.p.top = i.l.p.top ∧ (i.l.add i.r).fst.p.least = i.l.p.least ∧ (i.l.add i.r).fst.p.part = i.l.p.part ∧ mapE (i.l.add i.r).fst.left = mapE i.l.left ∧ mapE (i.l.add i.r).fst.inst = mapE i.l.inst ∧ iE (i.l.add i.r).fst.traded = iE i.l.traded ∧ iE (i.l.add i.r).fst.net = iE i.l.net ∧ AObj.fro (1 : Nat) (iE (i.l.add i.r).fst.p.months) = AObj.fro (1 : Nat) (iE i.l.p.months) ∧ AObj.fro (1 : Nat) (iE (i.l.add i.r).fst.p.settle) = AObj.fro (1 : Nat) (iE i.l.p.settle) ∧ True) (∃ (i0 : Bool), ∃ (I : Bool → Prop), cnd (i.r.kind == (3 : Int)) ((∀ (p : Value × List D), p ∈ mapE i.l.inst → like (Value.int IntKind.i64 i.r.id) p.fst = true) ∧ ∃ (b : Bool), ∃ (n : Int), (mget (Value.int IntKind.i64 i.r.id) (mapE i.l.inst) = some [D.v (.int .i64 n)] ∧ b = true ∨ mget (Value.int IntKind.i64 i.r.id) (mapE i.l.inst) = none ∧ [D.v (.int .i64 n)] = [D.v (.int .i64 0)] ∧ b = false) ∧ ∃ (i' : Bool), i' = (i.r.inst != n) ∧ I i' ∧ Vladdr0 i = Vladdr0 i ∧ Vladdr1 i = Vladdr1 i ∧ Sx.AObj.map (mapE i.l.left) = Sx.AObj.map (mapE i.l.left) ∧ Sx.AObj.map (mapE i.l.inst) = Sx.AObj.map (mapE i.l.inst) ∧ AObj.own (2 : Nat) (1 : Nat) (iE i.l.traded) = AObj.own (2 : Nat) (1 : Nat) (iE i.l.traded) ∧ AObj.own (2 : Nat) (1 : Nat) (iE i.l.net) = AObj.own (2 : Nat) (1 : Nat) (iE i.l.net) ∧ AObj.fro (1 : Nat) (iE i.l.p.months) = AObj.fro (1 : Nat) (iE i.l.p.months) ∧ AObj.fro (1 : Nat) (iE i.l.p.settle) = AObj.fro (1 : Nat) (iE i.l.p.settle)) (∃ (i' : Bool), i' = false ∧ I i' ∧ Vladdr0 i = Vladdr0 i ∧ Vladdr1 i = Vladdr1 i ∧ Sx.AObj.map (mapE i.l.left) = Sx.AObj.map (mapE i.l.left) ∧ Sx.AObj.map (mapE i.l.inst) = Sx.AObj.map (mapE i.l.inst) ∧ AObj.own (2 : Nat) (1 : Nat) (iE i.l.traded) = AObj.own (2 : Nat) (1 : Nat) (iE i.l.traded) ∧ AObj.own (2 : Nat) (1 : Nat) (iE i.l.net) = AObj.own (2 : Nat) (1 : Nat) (iE i.l.net) ∧ AObj.fro (1 : Nat) (iE i.l.p.months) = AObj.fro (1 : Nat) (iE i.l.p.months) ∧ AObj.fro (1 : Nat) (iE i.l.p.settle) = AObj.fro (1 : Nat) (iE i.l.p.settle)) ∧ ∀ (i_4 : Bool), I i_4 → cnd i_4 (∃ (o : Unit), (i.l.add i.r).snd = (20 : Int) ∧ sb (i.l.add i.r).fst.p.code = sb i.l.p.code ∧ (i.l.add i.r).fst.p.tick = i.l.p.tick ∧ (i.l.add i.r).fst.p.low = i.l.p.low ∧ (i.l.add i.r).fst.p.high = i.l.p.high ∧ (i.l.add i.r).fst.p.wide = i.l.p.wide ∧ (i.l.add i.r).fst.p.rule = i.l.p.rule ∧ (i.l.add i.r).fst.p.top = i.l.p.top ∧ (i.l.add i.r).fst.p.least = i.l.p.least ∧ (i.l.add i.r).fst.p.part = i.l.p.part ∧ mapE (i.l.add i.r).fst.left = mapE i.l.left ∧ mapE (i.l.add i.r).fst.inst = mapE i.l.inst ∧ iE (i.l.add i.r).fst.traded = iE i.l.traded ∧ iE (i.l.add i.r).fst.net = iE i.l.net ∧ AObj.fro (1 : Nat) (iE (i.l.add i.r).fst.p.months) = AObj.fro (1 : Nat) (iE i.l.p.months) ∧ AObj.fro (1 : Nat) (iE (i.l.add i.r).fst.p.settle) = AObj.fro (1 : Nat) (iE i.l.p.settle) ∧ True) (∃ (i0 : Bool), ∃ (I : Bool → Prop), cnd (i.r.kind == (3 : Int)) (cnd (decide (i.r.qty < (1 : Int))) (∃ (i' : Bool), i' = true ∧ I i' ∧ Vladdr0 i = Vladdr0 i ∧ Vladdr1 i = Vladdr1 i ∧ Sx.AObj.map (mapE i.l.left) = Sx.AObj.map (mapE i.l.left) ∧ Sx.AObj.map (mapE i.l.inst) = Sx.AObj.map (mapE i.l.inst) ∧ AObj.own (2 : Nat) (1 : Nat) (iE i.l.traded) = AObj.own (2 : Nat) (1 : Nat) (iE i.l.traded) ∧ AObj.own (2 : Nat) (1 : Nat) (iE i.l.net) = AObj.own (2 : Nat) (1 : Nat) (iE i.l.net) ∧ AObj.fro (1 : Nat) (iE i.l.p.months) = AObj.fro (1 : Nat) (iE i.l.p.months) ∧ AObj.fro (1 : Nat) (iE i.l.p.settle) = AObj.fro (1 : Nat) (iE i.l.p.settle)) (cnd (decide (i.r.qty > n)) (∃ (i' : Bool), i' = true ∧ I i' ∧ Vladdr0 i = Vladdr0 i ∧ Vladdr1 i = Vladdr1 i ∧ Sx.AObj.map (mapE i.l.left) = Sx.AObj.map (mapE i.l.left) ∧ Sx.AObj.map (mapE i.l.inst) = Sx.AObj.map (mapE i.l.inst) ∧ AObj.own (2 : Nat) (1 : Nat) (iE i.l.traded) = AObj.own (2 : Nat) (1 : Nat) (iE i.l.traded) ∧ AObj.own (2 : Nat) (1 : Nat) (iE i.l.net) = AObj.own (2 : Nat) (1 : Nat) (iE i.l.net) ∧ AObj.fro (1 : Nat) (iE i.l.p.months) = AObj.fro (1 : Nat) (iE i.l.p.months) ∧ AObj.fro (1 : Nat) (iE i.l.p.settle) = AObj.fro (1 : Nat) (iE i.l.p.settle)) (∃ (i' : Bool), i' = (i.r.left != IntKind.i64.wrap (n - i.r.qty)) ∧ I i' ∧ Vladdr0 i = Vladdr0 i ∧ Vladdr1 i = Vladdr1 i ∧ Sx.AObj.map (mapE i.l.left) = Sx.AObj.map (mapE i.l.left) ∧ Sx.AObj.map (mapE i.l.inst) = Sx.AObj.map (mapE i.l.inst) ∧ AObj.own (2 : Nat) (1 : Nat) (iE i.l.traded) = AObj.own (2 : Nat) (1 : Nat) (iE i.l.traded) ∧ AObj.own (2 : Nat) (1 : Nat) (iE i.l.net) = AObj.own (2 : Nat) (1 : Nat) (iE i.l.net) ∧ AObj.fro (1 : Nat) (iE i.l.p.months) = AObj.fro (1 : Nat) (iE i.l.p.months) ∧ AObj.fro (1 : Nat) (iE i.l.p.settle) = AObj.fro (1 : Nat) (iE i.l.p.settle)))) (∃ (i' : Bool), i' = false ∧ I i' ∧ Vladdr0 i = Vladdr0 i ∧ Vladdr1 i = Vladdr1 i ∧ Sx.AObj.map (mapE i.l.left) = Sx.AObj.map (mapE i.l.left) ∧ Sx.AObj.map (mapE i.l.inst) = Sx.AObj.map (mapE i.l.inst) ∧ AObj.own (2 : Nat) (1 : Nat) (iE i.l.traded) = AObj.own (2 : Nat) (1 : Nat) (iE i.l.traded) ∧ AObj.own (2 : Nat) (1 : Nat) (iE i.l.net) = AObj.own (2 : Nat) (1 : Nat) (iE i.l.net) ∧ AObj.fro (1 : Nat) (iE i.l.p.months) = AObj.fro (1 : Nat) (iE i.l.p.months) ∧ AObj.fro (1 : Nat) (iE i.l.p.settle) = AObj.fro (1 : Nat) (iE i.l.p.settle)) ∧ ∀ (i_5 : Bool), I i_5 → cnd i_5 (∃ (o : Unit), (i.l.add i.r).snd = (24 : Int) ∧ sb (i.l.add i.r).fst.p.code = sb i.l.p.code ∧ (i.l.add i.r).fst.p.tick = i.l.p.tick ∧ (i.l.add i.r).fst.p.low = i.l.p.low ∧ (i.l.add i.r).fst.p.high = i.l.p.high ∧ (i.l.add i.r).fst.p.wide = i.l.p.wide ∧ (i.l.add i.r).fst.p.rule = i.l.p.rule ∧ (i.l.add i.r).fst.p.top = i.l.p.top ∧ (i.l.add i.r).fst.p.least = i.l.p.least ∧ (i.l.add i.r).fst.p.part = i.l.p.part ∧ mapE (i.l.add i.r).fst.left = mapE i.l.left ∧ mapE (i.l.add i.r).fst.inst = mapE i.l.inst ∧ iE (i.l.add i.r).fst.traded = iE i.l.traded ∧ iE (i.l.add i.r).fst.net = iE i.l.net ∧ AObj.fro (1 : Nat) (iE (i.l.add i.r).fst.p.months) = AObj.fro (1 : Nat) (iE i.l.p.months) ∧ AObj.fro (1 : Nat) (iE (i.l.add i.r).fst.p.settle) = AObj.fro (1 : Nat) (iE i.l.p.settle) ∧ True) (∃ (i0 : Bool), ∃ (I : Bool → Prop), cnd (i.r.kind == (4 : Int)) (∃ (i' : Bool), i' = (i.r.qty != n) ∧ I i' ∧ Vladdr0 i = Vladdr0 i ∧ Vladdr1 i = Vladdr1 i ∧ Sx.AObj.map (mapE i.l.left) = Sx.AObj.map (mapE i.l.left) ∧ Sx.AObj.map (mapE i.l.inst) = Sx.AObj.map (mapE i.l.inst) ∧ AObj.own (2 : Nat) (1 : Nat) (iE i.l.traded) = AObj.own (2 : Nat) (1 : Nat) (iE i.l.traded) ∧ AObj.own (2 : Nat) (1 : Nat) (iE i.l.net) = AObj.own (2 : Nat) (1 : Nat) (iE i.l.net) ∧ AObj.fro (1 : Nat) (iE i.l.p.months) = AObj.fro (1 : Nat) (iE i.l.p.months) ∧ AObj.fro (1 : Nat) (iE i.l.p.settle) = AObj.fro (1 : Nat) (iE i.l.p.settle)) (∃ (i' : Bool), i' = false ∧ I i' ∧ Vladdr0 i = Vladdr0 i ∧ Vladdr1 i = Vladdr1 i ∧ Sx.AObj.map (mapE i.l.left) = Sx.AObj.map (mapE i.l.left) ∧ Sx.AObj.map (mapE i.l.inst) = Sx.AObj.map (mapE i.l.inst) ∧ AObj.own (2 : Nat) (1 : Nat) (iE i.l.traded) = AObj.own (2 : Nat) (1 : Nat) (iE i.l.traded) ∧ AObj.own (2 : Nat) (1 : Nat) (iE i.l.net) = AObj.own (2 : Nat) (1 : Nat) (iE i.l.net) ∧ AObj.fro (1 : Nat) (iE i.l.p.months) = AObj.fro (1 : Nat) (iE i.l.p.months) ∧ AObj.fro (1 : Nat) (iE i.l.p.settle) = AObj.fro (1 : Nat) (iE i.l.p.settle)) ∧ ∀ (i_6 : Bool), I i_6 → cnd i_6 (∃ (o : Unit), (i.l.add i.r).snd = (24 : Int) ∧ sb (i.l.add i.r).fst.p.code = sb i.l.p.code ∧ (i.l.add i.r).fst.p.tick = i.l.p.tick ∧ (i.l.add i.r).fst.p.low = i.l.p.low ∧ (i.l.add i.r).fst.p.high = i.l.p.high ∧ (i.l.add i.r).fst.p.wide = i.l.p.wide ∧ (i.l.add i.r).fst.p.rule = i.l.p.rule ∧ (i.l.add i.r).fst.p.top = i.l.p.top ∧ (i.l.add i.r).fst.p.least = i.l.p.least ∧ (i.l.add i.r).fst.p.part = i.l.p.part ∧ mapE (i.l.add i.r).fst.left = mapE i.l.left ∧ mapE (i.l.add i.r).fst.inst = mapE i.l.inst ∧ iE (i.l.add i.r).fst.traded = iE i.l.traded ∧ iE (i.l.add i.r).fst.net = iE i.l.net ∧ AObj.fro (1 : Nat) (iE (i.l.add i.r).fst.p.months) = AObj.fro (1 : Nat) (iE i.l.p.months) ∧ AObj.fro (1 : Nat) (iE (i.l.add i.r).fst.p.settle) = AObj.fro (1 : Nat) (iE i.l.p.settle) ∧ True) (∃ (i0 : Bool), ∃ (I : Bool → Prop), cnd (i.r.kind == (5 : Int)) (cnd (decide (i.r.qty < (0 : Int))) (∃ (i' : Bool), i' = true ∧ I i' ∧ Vladdr0 i = Vladdr0 i ∧ Vladdr1 i = Vladdr1 i ∧ Sx.AObj.map (mapE i.l.left) = Sx.AObj.map (mapE i.l.left) ∧ Sx.AObj.map (mapE i.l.inst) = Sx.AObj.map (mapE i.l.inst) ∧ AObj.own (2 : Nat) (1 : Nat) (iE i.l.traded) = AObj.own (2 : Nat) (1 : Nat) (iE i.l.traded) ∧ AObj.own (2 : Nat) (1 : Nat) (iE i.l.net) = AObj.own (2 : Nat) (1 : Nat) (iE i.l.net) ∧ AObj.fro (1 : Nat) (iE i.l.p.months) = AObj.fro (1 : Nat) (iE i.l.p.months) ∧ AObj.fro (1 : Nat) (iE i.l.p.settle) = AObj.fro (1 : Nat) (iE i.l.p.settle)) (cnd (decide (i.r.qty ≥ n)) (∃ (i' : Bool), i' = true ∧ I i' ∧ Vladdr0 i = Vladdr0 i ∧ Vladdr1 i = Vladdr1 i ∧ Sx.AObj.map (mapE i.l.left) = Sx.AObj.map (mapE i.l.left) ∧ Sx.AObj.map (mapE i.l.inst) = Sx.AObj.map (mapE i.l.inst) ∧ AObj.own (2 : Nat) (1 : Nat) (iE i.l.traded) = AObj.own (2 : Nat) (1 : Nat) (iE i.l.traded) ∧ AObj.own (2 : Nat) (1 : Nat) (iE i.l.net) = AObj.own (2 : Nat) (1 : Nat) (iE i.l.net) ∧ AObj.fro (1 : Nat) (iE i.l.p.months) = AObj.fro (1 : Nat) (iE i.l.p.months) ∧ AObj.fro (1 : Nat) (iE i.l.p.settle) = AObj.fro (1 : Nat) (iE i.l.p.settle)) (∃ (i' : Bool), i' = (i.r.left != IntKind.i64.wrap (n - i.r.qty)) ∧ I i' ∧ Vladdr0 i = Vladdr0 i ∧ Vladdr1 i = Vladdr1 i ∧ Sx.AObj.map (mapE i.l.left) = Sx.AObj.map (mapE i.l.left) ∧ Sx.AObj.map (mapE i.l.inst) = Sx.AObj.map (mapE i.l.inst) ∧ AObj.own (2 : Nat) (1 : Nat) (iE i.l.traded) = AObj.own (2 : Nat) (1 : Nat) (iE i.l.traded) ∧ AObj.own (2 : Nat) (1 : Nat) (iE i.l.net) = AObj.own (2 : Nat) (1 : Nat) (iE i.l.net) ∧ AObj.fro (1 : Nat) (iE i.l.p.months) = AObj.fro (1 : Nat) (iE i.l.p.months) ∧ AObj.fro (1 : Nat) (iE i.l.p.settle) = AObj.fro (1 : Nat) (iE i.l.p.settle)))) (∃ (i' : Bool), i' = false ∧ I i' ∧ Vladdr0 i = Vladdr0 i ∧ Vladdr1 i = Vladdr1 i ∧ Sx.AObj.map (mapE i.l.left) = Sx.AObj.map (mapE i.l.left) ∧ Sx.AObj.map (mapE i.l.inst) = Sx.AObj.map (mapE i.l.inst) ∧ AObj.own (2 : Nat) (1 : Nat) (iE i.l.traded) = AObj.own (2 : Nat) (1 : Nat) (iE i.l.traded) ∧ AObj.own (2 : Nat) (1 : Nat) (iE i.l.net) = AObj.own (2 : Nat) (1 : Nat) (iE i.l.net) ∧ AObj.fro (1 : Nat) (iE i.l.p.months) = AObj.fro (1 : Nat) (iE i.l.p.months) ∧ AObj.fro (1 : Nat) (iE i.l.p.settle) = AObj.fro (1 : Nat) (iE i.l.p.settle)) ∧ ∀ (i_7 : Bool), I i_7 → cnd i_7 (∃ (o : Unit), (i.l.add i.r).snd = (24 : Int) ∧ sb (i.l.add i.r).fst.p.code = sb i.l.p.code ∧ (i.l.add i.r).fst.p.tick = i.l.p.tick ∧ (i.l.add i.r).fst.p.low = i.l.p.low ∧ (i.l.add i.r).fst.p.high = i.l.p.high ∧ (i.l.add i.r).fst.p.wide = i.l.p.wide ∧ (i.l.add i.r).fst.p.rule = i.l.p.rule ∧ (i.l.add i.r).fst.p.top = i.l.p.top ∧ (i.l.add i.r).fst.p.least = i.l.p.least ∧ (i.l.add i.r).fst.p.part = i.l.p.part ∧ mapE (i.l.add i.r).fst.left = mapE i.l.left ∧ mapE (i.l.add i.r).fst.inst = mapE i.l.inst ∧ iE (i.l.add i.r).fst.traded = iE i.l.traded ∧ iE (i.l.add i.r).fst.net = iE i.l.net ∧ AObj.fro (1 : Nat) (iE (i.l.add i.r).fst.p.months) = AObj.fro (1 : Nat) (iE i.l.p.months) ∧ AObj.fro (1 : Nat) (iE (i.l.add i.r).fst.p.settle) = AObj.fro (1 : Nat) (iE i.l.p.settle) ∧ True) (cnd (i.r.kind == (3 : Int)) (((0 : Int) ≤ i.r.inst ∧ i.r.inst < (↑(iE i.l.traded).length : Int)) ∧ ∃ (n : Int), elPart (iE i.l.traded) i.r.inst.toNat (0 : Nat) (1 : Nat) = some [D.v (.int .i64 n)] ∧ ((0 : Int) ≤ i.r.inst ∧ i.r.inst < (↑(iE i.l.traded).length : Int)) ∧ i.r.inst.toNat < (iE i.l.traded).length ∧ cnd (i.r.side == (1 : Int)) (((0 : Int) ≤ i.r.inst ∧ i.r.inst < (↑(iE i.l.net).length : Int)) ∧ ∃ (n_1 : Int), elPart (iE i.l.net) i.r.inst.toNat (0 : Nat) (1 : Nat) = some [D.v (.int .i64 n_1)] ∧ ((0 : Int) ≤ i.r.inst ∧ i.r.inst < (↑(iE i.l.net).length : Int)) ∧ i.r.inst.toNat < (iE i.l.net).length ∧ (∀ (p : Value × List D), p ∈ mapE i.l.left → like (Value.int IntKind.i64 i.r.id) p.fst = true) ∧ cnd (i.r.left == (0 : Int)) ((∀ (p : Value × List D), p ∈ mput (Value.int IntKind.i64 i.r.id) [D.v (.int .i64 i.r.left)] (mapE i.l.left) → like (Value.int IntKind.i64 i.r.id) p.fst = true) ∧ ∃ (o : Unit), (i.l.add i.r).snd = (0 : Int) ∧ sb (i.l.add i.r).fst.p.code = sb i.l.p.code ∧ (i.l.add i.r).fst.p.tick = i.l.p.tick ∧ (i.l.add i.r).fst.p.low = i.l.p.low ∧ (i.l.add i.r).fst.p.high = i.l.p.high ∧ (i.l.add i.r).fst.p.wide = i.l.p.wide ∧ (i.l.add i.r).fst.p.rule = i.l.p.rule ∧ (i.l.add i.r).fst.p.top = i.l.p.top ∧ (i.l.add i.r).fst.p.least = i.l.p.least ∧ (i.l.add i.r).fst.p.part = i.l.p.part ∧ mapE (i.l.add i.r).fst.left = mdel (Value.int IntKind.i64 i.r.id) (mput (Value.int IntKind.i64 i.r.id) [D.v (.int .i64 i.r.left)] (mapE i.l.left)) ∧ mapE (i.l.add i.r).fst.inst = mapE i.l.inst ∧ iE (i.l.add i.r).fst.traded = elSet (iE i.l.traded) i.r.inst.toNat (0 : Nat) [D.v (.int .i64 (IntKind.i64.wrap (n + i.r.qty)))] ∧ iE (i.l.add i.r).fst.net = elSet (iE i.l.net) i.r.inst.toNat (0 : Nat) [D.v (.int .i64 (IntKind.i64.wrap (n_1 + i.r.qty)))] ∧ AObj.fro (1 : Nat) (iE (i.l.add i.r).fst.p.months) = AObj.fro (1 : Nat) (iE i.l.p.months) ∧ AObj.fro (1 : Nat) (iE (i.l.add i.r).fst.p.settle) = AObj.fro (1 : Nat) (iE i.l.p.settle) ∧ True) (∃ (o : Unit), (i.l.add i.r).snd = (0 : Int) ∧ sb (i.l.add i.r).fst.p.code = sb i.l.p.code ∧ (i.l.add i.r).fst.p.tick = i.l.p.tick ∧ (i.l.add i.r).fst.p.low = i.l.p.low ∧ (i.l.add i.r).fst.p.high = i.l.p.high ∧ (i.l.add i.r).fst.p.wide = i.l.p.wide ∧ (i.l.add i.r).fst.p.rule = i.l.p.rule ∧ (i.l.add i.r).fst.p.top = i.l.p.top ∧ (i.l.add i.r).fst.p.least = i.l.p.least ∧ (i.l.add i.r).fst.p.part = i.l.p.part ∧ mapE (i.l.add i.r).fst.left = mput (Value.int IntKind.i64 i.r.id) [D.v (.int .i64 i.r.left)] (mapE i.l.left) ∧ mapE (i.l.add i.r).fst.inst = mapE i.l.inst ∧ iE (i.l.add i.r).fst.traded = elSet (iE i.l.traded) i.r.inst.toNat (0 : Nat) [D.v (.int .i64 (IntKind.i64.wrap (n + i.r.qty)))] ∧ iE (i.l.add i.r).fst.net = elSet (iE i.l.net) i.r.inst.toNat (0 : Nat) [D.v (.int .i64 (IntKind.i64.wrap (n_1 + i.r.qty)))] ∧ AObj.fro (1 : Nat) (iE (i.l.add i.r).fst.p.months) = AObj.fro (1 : Nat) (iE i.l.p.months) ∧ AObj.fro (1 : Nat) (iE (i.l.add i.r).fst.p.settle) = AObj.fro (1 : Nat) (iE i.l.p.settle) ∧ True)) (cnd (i.r.side == (2 : Int)) (((0 : Int) ≤ i.r.inst ∧ i.r.inst < (↑(iE i.l.net).length : Int)) ∧ ∃ (n_1 : Int), elPart (iE i.l.net) i.r.inst.toNat (0 : Nat) (1 : Nat) = some [D.v (.int .i64 n_1)] ∧ ((0 : Int) ≤ i.r.inst ∧ i.r.inst < (↑(iE i.l.net).length : Int)) ∧ i.r.inst.toNat < (iE i.l.net).length ∧ (∀ (p : Value × List D), p ∈ mapE i.l.left → like (Value.int IntKind.i64 i.r.id) p.fst = true) ∧ cnd (i.r.left == (0 : Int)) ((∀ (p : Value × List D), p ∈ mput (Value.int IntKind.i64 i.r.id) [D.v (.int .i64 i.r.left)] (mapE i.l.left) → like (Value.int IntKind.i64 i.r.id) p.fst = true) ∧ ∃ (o : Unit), (i.l.add i.r).snd = (0 : Int) ∧ sb (i.l.add i.r).fst.p.code = sb i.l.p.code ∧ (i.l.add i.r).fst.p.tick = i.l.p.tick ∧ (i.l.add i.r).fst.p.low = i.l.p.low ∧ (i.l.add i.r).fst.p.high = i.l.p.high ∧ (i.l.add i.r).fst.p.wide = i.l.p.wide ∧ (i.l.add i.r).fst.p.rule = i.l.p.rule ∧ (i.l.add i.r).fst.p.top = i.l.p.top ∧ (i.l.add i.r).fst.p.least = i.l.p.least ∧ (i.l.add i.r).fst.p.part = i.l.p.part ∧ mapE (i.l.add i.r).fst.left = mdel (Value.int IntKind.i64 i.r.id) (mput (Value.int IntKind.i64 i.r.id) [D.v (.int .i64 i.r.left)] (mapE i.l.left)) ∧ mapE (i.l.add i.r).fst.inst = mapE i.l.inst ∧ iE (i.l.add i.r).fst.traded = elSet (iE i.l.traded) i.r.inst.toNat (0 : Nat) [D.v (.int .i64 (IntKind.i64.wrap (n + i.r.qty)))] ∧ iE (i.l.add i.r).fst.net = elSet (iE i.l.net) i.r.inst.toNat (0 : Nat) [D.v (.int .i64 (IntKind.i64.wrap (n_1 - i.r.qty)))] ∧ AObj.fro (1 : Nat) (iE (i.l.add i.r).fst.p.months) = AObj.fro (1 : Nat) (iE i.l.p.months) ∧ AObj.fro (1 : Nat) (iE (i.l.add i.r).fst.p.settle) = AObj.fro (1 : Nat) (iE i.l.p.settle) ∧ True) (∃ (o : Unit), (i.l.add i.r).snd = (0 : Int) ∧ sb (i.l.add i.r).fst.p.code = sb i.l.p.code ∧ (i.l.add i.r).fst.p.tick = i.l.p.tick ∧ (i.l.add i.r).fst.p.low = i.l.p.low ∧ (i.l.add i.r).fst.p.high = i.l.p.high ∧ (i.l.add i.r).fst.p.wide = i.l.p.wide ∧ (i.l.add i.r).fst.p.rule = i.l.p.rule ∧ (i.l.add i.r).fst.p.top = i.l.p.top ∧ (i.l.add i.r).fst.p.least = i.l.p.least ∧ (i.l.add i.r).fst.p.part = i.l.p.part ∧ mapE (i.l.add i.r).fst.left = mput (Value.int IntKind.i64 i.r.id) [D.v (.int .i64 i.r.left)] (mapE i.l.left) ∧ mapE (i.l.add i.r).fst.inst = mapE i.l.inst ∧ iE (i.l.add i.r).fst.traded = elSet (iE i.l.traded) i.r.inst.toNat (0 : Nat) [D.v (.int .i64 (IntKind.i64.wrap (n + i.r.qty)))] ∧ iE (i.l.add i.r).fst.net = elSet (iE i.l.net) i.r.inst.toNat (0 : Nat) [D.v (.int .i64 (IntKind.i64.wrap (n_1 - i.r.qty)))] ∧ AObj.fro (1 : Nat) (iE (i.l.add i.r).fst.p.months) = AObj.fro (1 : Nat) (iE i.l.p.months) ∧ AObj.fro (1 : Nat) (iE (i.l.add i.r).fst.p.settle) = AObj.fro (1 : Nat) (iE i.l.p.settle) ∧ True)) ((∀ (p : Value × List D), p ∈ mapE i.l.left → like (Value.int IntKind.i64 i.r.id) p.fst = true) ∧ cnd (i.r.left == (0 : Int)) ((∀ (p : Value × List D), p ∈ mput (Value.int IntKind.i64 i.r.id) [D.v (.int .i64 i.r.left)] (mapE i.l.left) → like (Value.int IntKind.i64 i.r.id) p.fst = true) ∧ ∃ (o : Unit), (i.l.add i.r).snd = (0 : Int) ∧ sb (i.l.add i.r).fst.p.code = sb i.l.p.code ∧ (i.l.add i.r).fst.p.tick = i.l.p.tick ∧ (i.l.add i.r).fst.p.low = i.l.p.low ∧ (i.l.add i.r).fst.p.high = i.l.p.high ∧ (i.l.add i.r).fst.p.wide = i.l.p.wide ∧ (i.l.add i.r).fst.p.rule = i.l.p.rule ∧ (i.l.add i.r).fst.p.top = i.l.p.top ∧ (i.l.add i.r).fst.p.least = i.l.p.least ∧ (i.l.add i.r).fst.p.part = i.l.p.part ∧ mapE (i.l.add i.r).fst.left = mdel (Value.int IntKind.i64 i.r.id) (mput (Value.int IntKind.i64 i.r.id) [D.v (.int .i64 i.r.left)] (mapE i.l.left)) ∧ mapE (i.l.add i.r).fst.inst = mapE i.l.inst ∧ iE (i.l.add i.r).fst.traded = elSet (iE i.l.traded) i.r.inst.toNat (0 : Nat) [D.v (.int .i64 (IntKind.i64.wrap (n + i.r.qty)))] ∧ iE (i.l.add i.r).fst.net = iE i.l.net ∧ AObj.fro (1 : Nat) (iE (i.l.add i.r).fst.p.months) = AObj.fro (1 : Nat) (iE i.l.p.months) ∧ AObj.fro (1 : Nat) (iE (i.l.add i.r).fst.p.settle) = AObj.fro (1 : Nat) (iE i.l.p.settle) ∧ True) (∃ (o : Unit), (i.l.add i.r).snd = (0 : Int) ∧ sb (i.l.add i.r).fst.p.code = sb i.l.p.code ∧ (i.l.add i.r).fst.p.tick = i.l.p.tick ∧ (i.l.add i.r).fst.p.low = i.l.p.low ∧ (i.l.add i.r).fst.p.high = i.l.p.high ∧ (i.l.add i.r).fst.p.wide = i.l.p.wide ∧ (i.l.add i.r).fst.p.rule = i.l.p.rule ∧ (i.l.add i.r).fst.p.top = i.l.p.top ∧ (i.l.add i.r).fst.p.least = i.l.p.least ∧ (i.l.add i.r).fst.p.part = i.l.p.part ∧ mapE (i.l.add i.r).fst.left = mput (Value.int IntKind.i64 i.r.id) [D.v (.int .i64 i.r.left)] (mapE i.l.left) ∧ mapE (i.l.add i.r).fst.inst = mapE i.l.inst ∧ iE (i.l.add i.r).fst.traded = elSet (iE i.l.traded) i.r.inst.toNat (0 : Nat) [D.v (.int .i64 (IntKind.i64.wrap (n + i.r.qty)))] ∧ iE (i.l.add i.r).fst.net = iE i.l.net ∧ AObj.fro (1 : Nat) (iE (i.l.add i.r).fst.p.months) = AObj.fro (1 : Nat) (iE i.l.p.months) ∧ AObj.fro (1 : Nat) (iE (i.l.add i.r).fst.p.settle) = AObj.fro (1 : Nat) (iE i.l.p.settle) ∧ True)))) (cnd (i.r.kind == (4 : Int)) ((∀ (p : Value × List D), p ∈ mapE i.l.left → like (Value.int IntKind.i64 i.r.id) p.fst = true) ∧ (∀ (p : Value × List D), p ∈ mput (Value.int IntKind.i64 i.r.id) [D.v (.int .i64 0)] (mapE i.l.left) → like (Value.int IntKind.i64 i.r.id) p.fst = true) ∧ ∃ (o : Unit), (i.l.add i.r).snd = (0 : Int) ∧ sb (i.l.add i.r).fst.p.code = sb i.l.p.code ∧ (i.l.add i.r).fst.p.tick = i.l.p.tick ∧ (i.l.add i.r).fst.p.low = i.l.p.low ∧ (i.l.add i.r).fst.p.high = i.l.p.high ∧ (i.l.add i.r).fst.p.wide = i.l.p.wide ∧ (i.l.add i.r).fst.p.rule = i.l.p.rule ∧ (i.l.add i.r).fst.p.top = i.l.p.top ∧ (i.l.add i.r).fst.p.least = i.l.p.least ∧ (i.l.add i.r).fst.p.part = i.l.p.part ∧ mapE (i.l.add i.r).fst.left = mdel (Value.int IntKind.i64 i.r.id) (mput (Value.int IntKind.i64 i.r.id) [D.v (.int .i64 0)] (mapE i.l.left)) ∧ mapE (i.l.add i.r).fst.inst = mapE i.l.inst ∧ iE (i.l.add i.r).fst.traded = iE i.l.traded ∧ iE (i.l.add i.r).fst.net = iE i.l.net ∧ AObj.fro (1 : Nat) (iE (i.l.add i.r).fst.p.months) = AObj.fro (1 : Nat) (iE i.l.p.months) ∧ AObj.fro (1 : Nat) (iE (i.l.add i.r).fst.p.settle) = AObj.fro (1 : Nat) (iE i.l.p.settle) ∧ True) ((∀ (p : Value × List D), p ∈ mapE i.l.left → like (Value.int IntKind.i64 i.r.id) p.fst = true) ∧ cnd (i.r.left == (0 : Int)) ((∀ (p : Value × List D), p ∈ mput (Value.int IntKind.i64 i.r.id) [D.v (.int .i64 i.r.left)] (mapE i.l.left) → like (Value.int IntKind.i64 i.r.id) p.fst = true) ∧ ∃ (o : Unit), (i.l.add i.r).snd = (0 : Int) ∧ sb (i.l.add i.r).fst.p.code = sb i.l.p.code ∧ (i.l.add i.r).fst.p.tick = i.l.p.tick ∧ (i.l.add i.r).fst.p.low = i.l.p.low ∧ (i.l.add i.r).fst.p.high = i.l.p.high ∧ (i.l.add i.r).fst.p.wide = i.l.p.wide ∧ (i.l.add i.r).fst.p.rule = i.l.p.rule ∧ (i.l.add i.r).fst.p.top = i.l.p.top ∧ (i.l.add i.r).fst.p.least = i.l.p.least ∧ (i.l.add i.r).fst.p.part = i.l.p.part ∧ mapE (i.l.add i.r).fst.left = mdel (Value.int IntKind.i64 i.r.id) (mput (Value.int IntKind.i64 i.r.id) [D.v (.int .i64 i.r.left)] (mapE i.l.left)) ∧ mapE (i.l.add i.r).fst.inst = mapE i.l.inst ∧ iE (i.l.add i.r).fst.traded = iE i.l.traded ∧ iE (i.l.add i.r).fst.net = iE i.l.net ∧ AObj.fro (1 : Nat) (iE (i.l.add i.r).fst.p.months) = AObj.fro (1 : Nat) (iE i.l.p.months) ∧ AObj.fro (1 : Nat) (iE (i.l.add i.r).fst.p.settle) = AObj.fro (1 : Nat) (iE i.l.p.settle) ∧ True) (∃ (o : Unit), (i.l.add i.r).snd = (0 : Int) ∧ sb (i.l.add i.r).fst.p.code = sb i.l.p.code ∧ (i.l.add i.r).fst.p.tick = i.l.p.tick ∧ (i.l.add i.r).fst.p.low = i.l.p.low ∧ (i.l.add i.r).fst.p.high = i.l.p.high ∧ (i.l.add i.r).fst.p.wide = i.l.p.wide ∧ (i.l.add i.r).fst.p.rule = i.l.p.rule ∧ (i.l.add i.r).fst.p.top = i.l.p.top ∧ (i.l.add i.r).fst.p.least = i.l.p.least ∧ (i.l.add i.r).fst.p.part = i.l.p.part ∧ mapE (i.l.add i.r).fst.left = mput (Value.int IntKind.i64 i.r.id) [D.v (.int .i64 i.r.left)] (mapE i.l.left) ∧ mapE (i.l.add i.r).fst.inst = mapE i.l.inst ∧ iE (i.l.add i.r).fst.traded = iE i.l.traded ∧ iE (i.l.add i.r).fst.net = iE i.l.net ∧ AObj.fro (1 : Nat) (iE (i.l.add i.r).fst.p.months) = AObj.fro (1 : Nat) (iE i.l.p.months) ∧ AObj.fro (1 : Nat) (iE (i.l.add i.r).fst.p.settle) = AObj.fro (1 : Nat) (iE i.l.p.settle) ∧ True)))))))))))))
theorem eqladd (i : LgR) : Vladd i = walk Try.prog ([(54, legsC)]) 1 (laddJ) ([]) [0] Try.f9 (Try.f9.body.getD .skip) (laddC.pat i) (laddC.pre i) (laddC.alts i) := by kernel_rfl

theorem byladd (hG : GOk Try.prog ([(54, legsC)])) (h : ∀ (i : LgR), laddC.cnd i → Vladd i) : laddC.ok Try.prog 9 := ok_of_walk mixed ([(54, legsC)]) hG 1 (fun (i : LgR) => laddJ) (fun (i : LgR) => []) [0] Try.func9 (by kernel_rfl) (by kernel_rfl) (by kernel_rfl) (fun _ => by kernel_rfl) (fun (i : LgR) hc => Eq.mp (eqladd i) (h i hc))

@[reducible] def Vreportsr0 (i : RpI) : AObj := Sx.AObj.cells [V.d (D.v (Value.string (sb i.p.code))), V.own (0 : Nat), V.d (D.v (.int .i64 i.p.tick)), V.d (D.v (.int .i64 i.p.low)), V.d (D.v (.int .i64 i.p.high)), V.d (D.v (.int .i64 i.p.wide)), V.d (D.v (.int .i64 i.p.rule)), V.d (D.v (.int .i64 i.p.top)), V.d (D.v (.int .i64 i.p.least)), V.d (D.v (.int .i64 i.p.part)), V.own ((0 : Nat) + (1 : Nat))] (25 : Nat)
def Vreports (i : RpI) : Prop :=
  ∃ (i_1 : Prd), sb i_1.code = sb i.p.code ∧ iE i_1.months = iE i.p.months ∧ i_1.tick = i.p.tick ∧ i_1.low = i.p.low ∧ i_1.high = i.p.high ∧ i_1.wide = i.p.wide ∧ i_1.rule = i.p.rule ∧ i_1.top = i.p.top ∧ i_1.least = i.p.least ∧ i_1.part = i.p.part ∧ iE i_1.settle = iE i.p.settle ∧ (i_1.code.length ≤ (1099511627776 : Nat) ∧ i_1.months.length ≤ (1099511627776 : Nat) ∧ i_1.settle.length ≤ (1099511627776 : Nat)) ∧ (∀ (o : Unit), i_1.check = (0 : Int) → ∃ (i0 : Nat), (↑i0 : Int) = (0 : Int) ∧ AObj.adt Ledger (7 : Nat) LedgerU ((ledger0 i.p).addAll (List.take i0 i.l)).fst = AObj.adt Ledger (7 : Nat) LedgerU (ledger0 i_1) ∧ ∃ (I : Nat → Prop), ∃ (μ : Nat → Nat), I i0 ∧ ∀ (i_2 : Nat), I i_2 → cnd (decide ((↑i_2 : Int) < (↑(List.map repE i.l).length : Int))) (((0 : Int) ≤ (↑i_2 : Int) ∧ (↑i_2 : Int) < (↑(List.map repE i.l).length : Int)) ∧ ∃ (n : Int), ∃ (n_1 : Int), ∃ (n_2 : Int), ∃ (n_3 : Int), ∃ (n_4 : Int), ∃ (n_5 : Int), ∃ (n_6 : Int), ∃ (n_7 : Int), elPart (List.map repE i.l) (↑i_2 : Int).toNat (0 : Nat) (8 : Nat) = some [D.v (.int .i64 n), D.v (.int .i64 n_1), D.v (.int .i64 n_2), D.v (.int .i64 n_3), D.v (.int .i64 n_4), D.v (.int .i64 n_5), D.v (.int .i64 n_6), D.v (.int .i64 n_7)] ∧ ∃ (i_3 : LgR), i_3.r.kind = n ∧ i_3.r.id = n_1 ∧ i_3.r.inst = n_2 ∧ i_3.r.side = n_3 ∧ i_3.r.price = n_4 ∧ i_3.r.qty = n_5 ∧ i_3.r.left = n_6 ∧ i_3.r.why = n_7 ∧ AObj.adt Ledger (7 : Nat) LedgerU i_3.l = AObj.adt Ledger (7 : Nat) LedgerU ((ledger0 i.p).addAll (List.take i_2 i.l)).fst ∧ ((i_3.l.traded.length ≤ (1000000 : Nat) ∧ i_3.l.net.length = i_3.l.traded.length) ∧ i_3.l.p.code.length ≤ (1099511627776 : Nat) ∧ i_3.l.p.months.length ≤ (1099511627776 : Nat) ∧ i_3.l.p.settle.length ≤ (1099511627776 : Nat)) ∧ ∀ (o : Unit), True → cnd ((i_3.l.add i_3.r).snd != (0 : Int)) (∃ (o : Unit), reportsF i.p i.l = (i_3.l.add i_3.r).snd ∧ True) (∃ (i' : Nat), (↑i' : Int) = IntKind.i64.wrap ((↑i_2 : Int) + (1 : Int)) ∧ AObj.adt Ledger (7 : Nat) LedgerU ((ledger0 i.p).addAll (List.take i' i.l)).fst = AObj.adt Ledger (7 : Nat) LedgerU (i_3.l.add i_3.r).fst ∧ I i' ∧ μ i' < μ i_2 ∧ Vreportsr0 i = Vreportsr0 i ∧ AObj.fro (1 : Nat) (iE i.p.settle) = AObj.fro (1 : Nat) (iE i.p.settle) ∧ AObj.fro (1 : Nat) (iE i.p.months) = AObj.fro (1 : Nat) (iE i.p.months))) (∃ (i0 : Nat), (↑i0 : Int) = (0 : Int) ∧ ∃ (I : Nat → Prop), ∃ (μ : Nat → Nat), I i0 ∧ ∀ (i_3 : Nat), I i_3 → cnd (decide ((↑i_3 : Int) < (↑(iE i.p.months).length : Int))) (∃ (i_4 : LgN), i_4.n = (↑i_3 : Int) ∧ AObj.adt Ledger (7 : Nat) LedgerU i_4.l = AObj.adt Ledger (7 : Nat) LedgerU ((ledger0 i.p).addAll (List.take i_2 i.l)).fst ∧ (i_4.l.traded.length ≤ (1000000 : Nat) ∧ i_4.l.net.length = i_4.l.traded.length) ∧ ∀ (o : Unit), True → cnd (i_4.l.at i_4.l.net i_4.n != (0 : Int)) (∃ (o : Unit), reportsF i.p i.l = (21 : Int) ∧ True) (∃ (i' : Nat), (↑i' : Int) = IntKind.i64.wrap ((↑i_3 : Int) + (1 : Int)) ∧ I i' ∧ μ i' < μ i_3 ∧ AObj.adt Ledger (7 : Nat) LedgerU i_4.l = AObj.adt Ledger (7 : Nat) LedgerU ((ledger0 i.p).addAll (List.take i_2 i.l)).fst ∧ Vreportsr0 i = Vreportsr0 i ∧ AObj.fro (1 : Nat) (iE i.p.settle) = AObj.fro (1 : Nat) (iE i.p.settle) ∧ AObj.fro (1 : Nat) (iE i.p.months) = AObj.fro (1 : Nat) (iE i.p.months))) (∃ (o : Unit), reportsF i.p i.l = (0 : Int) ∧ True))) ∧ ∀ (o : Unit), i_1.check ≠ (0 : Int) → cnd (i_1.check != (0 : Int)) (∃ (o : Unit), reportsF i.p i.l = i_1.check ∧ True) (∃ (i0 : Nat), False)
theorem eqreports (i : RpI) : Vreports i = walk Try.prog ([(7, newLC), (9, laddC), (12, lnetC)]) 0 ([]) (reportsA i) [] Try.f25 (Try.f25.body.getD .skip) (reportsC.pat i) (reportsC.pre i) (reportsC.alts i) := by kernel_rfl

theorem byreports (hG : GOk Try.prog ([(7, newLC), (9, laddC), (12, lnetC)])) (h : ∀ (i : RpI), reportsC.cnd i → Vreports i) : reportsC.ok Try.prog 25 := ok_of_walk mixed ([(7, newLC), (9, laddC), (12, lnetC)]) hG 0 (fun (i : RpI) => []) (fun (i : RpI) => reportsA i) [] Try.func25 (by kernel_rfl) (by kernel_rfl) (by kernel_rfl) (fun _ => by kernel_rfl) (fun (i : RpI) hc => Eq.mp (eqreports i) (h i hc))

def Vknown25 (u : Unit) : Prop :=
  ∃ (i : Int), i = (1 : Int) ∧ True ∧ ∀ (o : Unit), True → ∃ (i_1 : Prd), sb i_1.code = sb [(67 : UInt8), (76 : UInt8)] ∧ iE i_1.months = iE [(320 : Int), (321 : Int), (323 : Int)] ∧ i_1.tick = (5 : Int) ∧ i_1.low = (0 : Int) ∧ i_1.high = (1000 : Int) ∧ i_1.wide = (200 : Int) ∧ i_1.rule = i ∧ i_1.top = (4 : Int) ∧ i_1.least = (2 : Int) ∧ i_1.part = (40 : Int) ∧ iE i_1.settle = iE [(500 : Int), (505 : Int), (490 : Int)] ∧ (i_1.code.length ≤ (1099511627776 : Nat) ∧ i_1.months.length ≤ (1099511627776 : Nat) ∧ i_1.settle.length ≤ (1099511627776 : Nat)) ∧ (∀ (o : Unit), i_1.check = (0 : Int) → ∃ (i_2 : RpI), sb i_2.p.code = sb [(67 : UInt8), (76 : UInt8)] ∧ iE i_2.p.months = iE [(320 : Int), (321 : Int), (323 : Int)] ∧ i_2.p.tick = (5 : Int) ∧ i_2.p.low = (0 : Int) ∧ i_2.p.high = (1000 : Int) ∧ i_2.p.wide = (200 : Int) ∧ i_2.p.rule = i ∧ i_2.p.top = (4 : Int) ∧ i_2.p.least = (2 : Int) ∧ i_2.p.part = (40 : Int) ∧ iE i_2.p.settle = iE [(500 : Int), (505 : Int), (490 : Int)] ∧ List.map repE i_2.l = [[D.v (.int .i64 3), D.v (.int .i64 1), D.v (.int .i64 0), D.v (.int .i64 1), D.v (.int .i64 0), D.v (.int .i64 1), D.v (.int .i64 0), D.v (.int .i64 0)]] ∧ ((i_2.p.code.length ≤ (1099511627776 : Nat) ∧ i_2.p.months.length ≤ (1099511627776 : Nat) ∧ i_2.p.settle.length ≤ (1099511627776 : Nat)) ∧ i_2.l.length ≤ (1099511627776 : Nat)) ∧ ∀ (o : Unit), True → ∃ (i_3 : RpI), sb i_3.p.code = sb [(67 : UInt8), (76 : UInt8)] ∧ iE i_3.p.months = iE [(320 : Int), (321 : Int), (323 : Int)] ∧ i_3.p.tick = (5 : Int) ∧ i_3.p.low = (0 : Int) ∧ i_3.p.high = (1000 : Int) ∧ i_3.p.wide = (200 : Int) ∧ i_3.p.rule = i ∧ i_3.p.top = (4 : Int) ∧ i_3.p.least = (2 : Int) ∧ i_3.p.part = (40 : Int) ∧ iE i_3.p.settle = iE [(500 : Int), (505 : Int), (490 : Int)] ∧ List.map repE i_3.l = [] ∧ ((i_3.p.code.length ≤ (1099511627776 : Nat) ∧ i_3.p.months.length ≤ (1099511627776 : Nat) ∧ i_3.p.settle.length ≤ (1099511627776 : Nat)) ∧ i_3.l.length ≤ (1099511627776 : Nat)) ∧ ∀ (o : Unit), True → cnd (reportsF i_3.p i_3.l == (0 : Int)) (cnd (reportsF i_2.p i_2.l == (26 : Int)) (∃ (i_4 : Mkt), AObj.adt Mkt (5 : Nat) MktU i_4 = AObj.adt Mkt (5 : Nat) MktU (Mkt.mk i_1 (state0 i_1) []) ∧ (i_4.s.books.length ≤ (1000000 : Nat) ∧ ∀ (b : Book), b ∈ i_4.s.books → (b.a.slots.length ≤ (1000000 : Nat) ∧ b.a.queues.length ≤ (1000000 : Nat)) ∧ b.buys.length ≤ (1000000 : Nat) ∧ b.sells.length ≤ (1000000 : Nat) ∧ b.spare.length ≤ (1000000 : Nat)) ∧ ∀ (o : Unit), True → (sb [(67 : UInt8), (76 : UInt8)] = sb [(67 : UInt8), (76 : UInt8)] ∧ True ∧ (5 : Int) = (5 : Int) ∧ (0 : Int) = (0 : Int) ∧ (1000 : Int) = (1000 : Int) ∧ (200 : Int) = (200 : Int) ∧ i = i ∧ (4 : Int) = (4 : Int) ∧ (2 : Int) = (2 : Int) ∧ (40 : Int) = (40 : Int) ∧ True ∧ True) ∧ ((∃ (i_5 : BkI), sb i_5.p.code = sb [(67 : UInt8), (76 : UInt8)] ∧ iE i_5.p.months = iE [(320 : Int), (321 : Int), (323 : Int)] ∧ i_5.p.tick = (5 : Int) ∧ i_5.p.low = (0 : Int) ∧ i_5.p.high = (1000 : Int) ∧ i_5.p.wide = (200 : Int) ∧ i_5.p.rule = i ∧ i_5.p.top = (4 : Int) ∧ i_5.p.least = (2 : Int) ∧ i_5.p.part = (40 : Int) ∧ iE i_5.p.settle = iE [(500 : Int), (505 : Int), (490 : Int)] ∧ AObj.adt MSt (5 : Nat) StateU i_5.s = AObj.adt MSt (5 : Nat) StateU i_4.s ∧ ((i_5.p.code.length ≤ (1099511627776 : Nat) ∧ i_5.p.months.length ≤ (1099511627776 : Nat) ∧ i_5.p.settle.length ≤ (1099511627776 : Nat)) ∧ (i_5.s.books.length ≤ (1000000 : Nat) ∧ ∀ (b : Book), b ∈ i_5.s.books → ∀ (q : Queue), q ∈ b.a.queues → (-9223372036854775808 : Int) ≤ q.count ∧ q.count ≤ (9223372036854775807 : Int)) ∧ i_5.s.tops.length ≤ (1000000 : Nat) ∧ ∀ (t : Top), t ∈ i_5.s.tops → ((-9223372036854775808 : Int) ≤ t.p1 ∧ t.p1 ≤ (9223372036854775807 : Int)) ∧ (-9223372036854775808 : Int) ≤ t.p2 ∧ t.p2 ≤ (9223372036854775807 : Int)) ∧ ∀ (o : Unit), True → cnd (booksErr i_5.p i_5.s.tops == (0 : Int)) ((∃ (i_6 : BkI), sb i_6.p.code = sb [(67 : UInt8), (76 : UInt8)] ∧ iE i_6.p.months = iE [(320 : Int), (321 : Int), (323 : Int)] ∧ i_6.p.tick = (5 : Int) ∧ i_6.p.low = (0 : Int) ∧ i_6.p.high = (1000 : Int) ∧ i_6.p.wide = (200 : Int) ∧ i_6.p.rule = i ∧ i_6.p.top = (4 : Int) ∧ i_6.p.least = (2 : Int) ∧ i_6.p.part = (40 : Int) ∧ iE i_6.p.settle = iE [(500 : Int), (505 : Int), (490 : Int)] ∧ False) ∨ ∃ (i_6 : Prd), sb i_6.code = sb [(67 : UInt8), (76 : UInt8)] ∧ iE i_6.months = iE [(320 : Int), (321 : Int), (323 : Int)] ∧ i_6.tick = (5 : Int) ∧ i_6.low = (0 : Int) ∧ i_6.high = (1000 : Int) ∧ i_6.wide = (200 : Int) ∧ i_6.rule = i ∧ i_6.top = (4 : Int) ∧ i_6.least = (2 : Int) ∧ i_6.part = (40 : Int) ∧ iE i_6.settle = iE [(500 : Int), (505 : Int), (490 : Int)] ∧ True ∧ (i_6.code.length ≤ (1099511627776 : Nat) ∧ i_6.months.length ≤ (1099511627776 : Nat) ∧ i_6.settle.length ≤ (1099511627776 : Nat)) ∧ ∀ (o : Unit), True → ∃ (o : Unit), true = ((1 : Int) == (1 : Int)) ∧ True) (∃ (o : Unit), true = false ∧ True)) ∨ ∃ (i_5 : Prd), sb i_5.code = sb [(67 : UInt8), (76 : UInt8)] ∧ iE i_5.months = iE [(320 : Int), (321 : Int), (323 : Int)] ∧ i_5.tick = (5 : Int) ∧ i_5.low = (0 : Int) ∧ i_5.high = (1000 : Int) ∧ i_5.wide = (200 : Int) ∧ i_5.rule = i ∧ i_5.top = (4 : Int) ∧ i_5.least = (2 : Int) ∧ i_5.part = (40 : Int) ∧ iE i_5.settle = iE [(500 : Int), (505 : Int), (490 : Int)] ∧ False)) (∃ (o : Unit), true = false ∧ True)) (∃ (o : Unit), true = false ∧ True)) ∧ ∀ (o : Unit), i_1.check ≠ (0 : Int) → ∃ (o : Unit), true = false ∧ True
theorem eqknown25 (u : Unit) : Vknown25 u = walk Try.prog ([(6, threeC), (36, newMC), (25, reportsC), (37, stateC), (22, booksC), (22, booksNilC)]) 0 ([]) ([]) [] Try.f13 (Try.f13.body.getD .skip) (known25C.pat u) (known25C.pre u) (known25C.alts u) := by kernel_rfl

theorem byknown25 (hG : GOk Try.prog ([(6, threeC), (36, newMC), (25, reportsC), (37, stateC), (22, booksC), (22, booksNilC)])) (h : ∀ (u : Unit), known25C.cnd u → Vknown25 u) : known25C.ok Try.prog 13 := ok_of_walk mixed ([(6, threeC), (36, newMC), (25, reportsC), (37, stateC), (22, booksC), (22, booksNilC)]) hG 0 (fun (u : Unit) => []) (fun (u : Unit) => []) [] Try.func13 (by kernel_rfl) (by kernel_rfl) (by kernel_rfl) (fun _ => by kernel_rfl) (fun (u : Unit) hc => Eq.mp (eqknown25 u) (h u hc))

end Sx

namespace Sx
set_option linter.unusedVariables false
set_option linter.unusedSimpArgs false
set_option maxRecDepth 100000
open Go Cv Go.Proofs

theorem like_mapE (l : List (Int × Int)) (k : Int) : ∀ (p : Value × List D), p ∈ mapE l → like (Value.int IntKind.i64 k) p.1 = true := fun p hp => like_map l k p hp
theorem mput_map (k v : Int) : ∀ l, mput (Value.int IntKind.i64 k) [D.v (.int .i64 v)] (mapE l) = mapE (aput k v l)
  | [] => rfl
  | (a, b) :: l => by
    have ih := mput_map k v l
    show (bif (keq .i64 .i64 && decide (k = a)) then _ else _ :: mput _ _ (mapE l)) = _
    rw [ih, aput]
    by_cases h : k = a
    · subst h; simp [keq, mapE]
    · simp [h, mapE]
theorem mdel_map (k : Int) : ∀ l, mdel (Value.int IntKind.i64 k) (mapE l) = mapE (adel k l)
  | [] => rfl
  | (a, b) :: l => by
    have ih := mdel_map k l
    show (bif (keq .i64 .i64 && decide (k = a)) then mapE l else _ :: mdel _ (mapE l)) = _
    rw [ih, adel]
    by_cases h : k = a
    · subst h; simp [keq]
    · simp [h, mapE]
theorem lk_map (l : List (Int × Int)) (k : Int) : mget (Value.int IntKind.i64 k) (mapE l) = some [D.v (.int .i64 ((aget l k).getD 0))] ∧ (aget l k).isSome = true ∨ mget (Value.int IntKind.i64 k) (mapE l) = none ∧ [D.v (.int .i64 ((aget l k).getD 0))] = [D.v (.int .i64 0)] ∧ (aget l k).isSome = false := by
  rw [mget_map]
  cases aget l k with
  | none => exact .inr ⟨rfl, rfl, rfl⟩
  | some v => exact .inl ⟨rfl, rfl⟩
theorem aput_aput (k v n : Int) : ∀ l, aput k v (aput k n l) = aput k v l
  | [] => by simp [aput]
  | (a, b) :: l => by
    have ih := aput_aput k v n l
    by_cases h : k = a
    · subst h; simp [aput]
    · simp [aput, h, ih]
theorem elSet_iE (x : Int) : ∀ (l : List Int) (n : Nat), elSet (iE l) n 0 [D.v (.int .i64 x)] = iE (l.set n x)
  | [], n => by cases n <;> rfl
  | a :: l, 0 => rfl
  | a :: l, n + 1 => by
    have ih := elSet_iE x l n
    simp only [elSet, iE, List.map_cons, List.modify_succ_cons, List.set_cons_succ] at ih ⊢
    rw [ih]
theorem own_get {l : List Int} {n : Int} (h : 0 ≤ n ∧ n < (l.length : Int)) : elPart (iE l) n.toNat 0 1 = some [D.v (.int .i64 (l.getD n.toNat 0))] := by
  obtain ⟨v, hv⟩ := getI (l := l) (i := n.toNat) (by omega)
  rw [List.getD_eq_getElem?_getD, hv]
  exact elI hv

theorem beq_dec1 (a b : Int) : (a == b) = decide (a = b) := by
  by_cases h : a = b
  · subst h; simp
  · simp [h]
theorem bne_dec1 (a b : Int) : (a != b) = decide (a ≠ b) := by
  by_cases h : a = b
  · subst h; simp
  · simp [h]

theorem vladd (i : LgR) (h : laddC.cnd i) : Vladd i := by
  obtain ⟨⟨h1, h2⟩, hs⟩ : i.l.fit := h
  have lk := like_mapE i.l.left i.r.id
  have lk2 := like_mapE i.l.inst i.r.id
  have lk3 := like_mapE (aput i.r.id i.r.left i.l.left) i.r.id
  have lk4 := like_mapE (aput i.r.id 0 i.l.left) i.r.id
  unfold Vladd
  simp only [iE_len, mput_map, mdel_map, elSet_iE]
  refine ⟨true, fun b => b = i.r.badK, Cv.cnd.mk (fun c => ⟨true, rfl, ?_, by (repeat' (first | exact trivial | exact rfl | apply And.intro))⟩) (fun c => ⟨_, rfl, ?_, by (repeat' (first | exact trivial | exact rfl | apply And.intro))⟩), fun b hb => ?_⟩
  · simp only [Rep.badK, c, Bool.true_or]
  · simp only [Rep.badK, c, Bool.false_or]
  subst hb
  refine Cv.cnd.mk (fun hb => ?_) (fun hb => ?_)
  · have ha : i.l.add i.r = (i.l, 31) := by simp only [Ledger.add, hb, if_true]
    simp only [ha]; (repeat' (first | exact rfl | exact trivial | assumption | apply And.intro | (refine fun (_ : Unit) (_ : True) => ?_) | (refine Exists.intro () ?_) | omega | (dsimp only; omega)))
  refine Cv.cnd.mk (fun k2 => ?_) (fun k2 => ?_)
  · have k2 : i.r.kind = 2 := by simpa using k2
    have ha : i.l.add i.r = (i.l, 0) := by simp only [Ledger.add, hb, k2, if_true, Bool.false_eq_true, if_false]
    simp only [ha]; (repeat' (first | exact rfl | exact trivial | assumption | apply And.intro | (refine fun (_ : Unit) (_ : True) => ?_) | (refine Exists.intro () ?_) | omega | (dsimp only; omega)))
  have k2 : ¬ i.r.kind = 2 := by simpa using k2
  refine ⟨true, fun b => b = !i.l.isB i.r.inst, Cv.cnd.mk (fun c => ⟨_, rfl, ?_, by (repeat' (first | exact trivial | exact rfl | apply And.intro))⟩) (fun c => ⟨_, rfl, ?_, by (repeat' (first | exact trivial | exact rfl | apply And.intro))⟩), fun b hb => ?_⟩
  · have c : 0 ≤ i.r.inst := by simpa using c
    simp only [Ledger.isB, decide_eq_true c, Bool.true_and]
  · have c : ¬ 0 ≤ i.r.inst := by simpa using c
    simp only [Ledger.isB, decide_eq_false c, Bool.false_and]
  subst hb
  refine Cv.cnd.mk (fun hi => ?_) (fun hi => ?_)
  · have hi : i.l.isB i.r.inst = false := by simpa using hi
    have ha : i.l.add i.r = (i.l, 20) := by simp only [Ledger.add, hb, k2, hi, if_true, Bool.false_eq_true, if_false]
    simp only [ha]; (repeat' (first | exact rfl | exact trivial | assumption | apply And.intro | (refine fun (_ : Unit) (_ : True) => ?_) | (refine Exists.intro () ?_) | omega | (dsimp only; omega)))
  have hi : i.l.isB i.r.inst = true := by simpa using hi
  have hin : 0 ≤ i.r.inst ∧ i.r.inst < (i.l.traded.length : Int) := by simpa [Ledger.isB] using hi
  have hin2 : 0 ≤ i.r.inst ∧ i.r.inst < (i.l.net.length : Int) := by rw [h2]; exact hin
  refine Cv.cnd.mk (fun k1 => ?_) (fun k1 => ?_)
  · have k1 : i.r.kind = 1 := by simpa using k1
    have e0 : i.l.add i.r = i.l.acc i.r := by simp only [Ledger.add, hb, k1, hi, if_true, Bool.false_eq_true, if_false, reduceCtorEq, show ¬ (1 : Int) = 2 by decide, show ¬ (true = false) by decide]
    refine ⟨lk, (aget i.l.left i.r.id).isSome, (aget i.l.left i.r.id).getD 0, lk_map _ _, Cv.cnd.mk (fun c => ?_) (fun c => ?_)⟩
    · have ha : i.l.add i.r = (i.l, 25) := by rw [e0, Ledger.acc, if_pos c]
      simp only [ha]; (repeat' (first | exact rfl | exact trivial | assumption | apply And.intro | (refine fun (_ : Unit) (_ : True) => ?_) | (refine Exists.intro () ?_) | omega | (dsimp only; omega)))
    · refine Cv.cnd.mk (fun d => ?_) (fun d => ?_)
      · have d : i.r.qty < 1 := by simpa using d
        have ha : i.l.add i.r = (i.l, 24) := by rw [e0, Ledger.acc, if_neg (by rw [c]; decide), if_pos (.inl d)]
        simp only [ha]; (repeat' (first | exact rfl | exact trivial | assumption | apply And.intro | (refine fun (_ : Unit) (_ : True) => ?_) | (refine Exists.intro () ?_) | omega | (dsimp only; omega)))
      have d : ¬ i.r.qty < 1 := by simpa using d
      refine Cv.cnd.mk (fun e => ?_) (fun e => ?_)
      · have e : i.r.qty ≠ i.r.left := by simpa using e
        have ha : i.l.add i.r = (i.l, 24) := by rw [e0, Ledger.acc, if_neg (by rw [c]; decide), if_pos (.inr e)]
        simp only [ha]; (repeat' (first | exact rfl | exact trivial | assumption | apply And.intro | (refine fun (_ : Unit) (_ : True) => ?_) | (refine Exists.intro () ?_) | omega | (dsimp only; omega)))
      have e : i.r.qty = i.r.left := by simpa using e
      have ha : i.l.add i.r = ({ i.l with left := aput i.r.id i.r.left i.l.left, inst := aput i.r.id i.r.inst i.l.inst }, 0) := by rw [e0, Ledger.acc, if_neg (by rw [c]; decide), if_neg (by rintro (h | h); exact d h; exact h e)]
      refine ⟨lk, (aget i.l.left i.r.id).isSome, (aget i.l.left i.r.id).getD 0, lk_map _ _, fun x => ⟨trivial, trivial, trivial, trivial, like_mapE _ _, trivial, trivial, lk2, (aget i.l.inst i.r.id).isSome, (aget i.l.inst i.r.id).getD 0, lk_map _ _, fun y => ⟨trivial, trivial, like_mapE _ _, ?_⟩⟩⟩
      simp only [ha, aput_aput]; (repeat' (first | exact rfl | exact trivial | assumption | apply And.intro | (refine fun (_ : Unit) (_ : True) => ?_) | (refine Exists.intro () ?_) | omega | (dsimp only; omega)))
  have k1 : ¬ i.r.kind = 1 := by simpa using k1
  refine ⟨true, fun b => b = i.l.isLeg i.r, Cv.cnd.mk (fun k3 => ?_) (fun k3 => ⟨_, rfl, ?_, by (repeat' (first | exact trivial | exact rfl | apply And.intro))⟩), fun b hl => ?_⟩
  · have k3 : i.r.kind = 3 := by simpa using k3
    refine ⟨lk2, (aget i.l.inst i.r.id).isSome, (aget i.l.inst i.r.id).getD 0, lk_map _ _, ⟨i.l.p, i.l.own i.r.id⟩, rfl, rfl, rfl, rfl, rfl, rfl, rfl, rfl, rfl, rfl, rfl, rfl, hs, fun _ _ => ?_⟩
    refine Cv.cnd.mk (fun c => Cv.cnd.mk (fun d => Cv.cnd.mk (fun e => ⟨_, rfl, ?_, by (repeat' (first | exact trivial | exact rfl | apply And.intro))⟩) (fun e => ⟨_, rfl, ?_, by (repeat' (first | exact trivial | exact rfl | apply And.intro))⟩)) (fun d => ⟨_, rfl, ?_, by (repeat' (first | exact trivial | exact rfl | apply And.intro))⟩)) (fun c => ⟨_, rfl, ?_, by (repeat' (first | exact trivial | exact rfl | apply And.intro))⟩)
    · have e : i.r.inst = (i.l.p.legs (i.l.own i.r.id)).1 := by simpa using e
      have d : (i.l.p.legs (i.l.own i.r.id)).2.2 = true := d
      simp only [Ledger.isLeg, k3, Ledger.legB, c, d, decide_eq_true e, decide_true, Bool.true_and, Bool.true_or]
    · have e : ¬ i.r.inst = (i.l.p.legs (i.l.own i.r.id)).1 := by simpa using e
      have d : (i.l.p.legs (i.l.own i.r.id)).2.2 = true := d
      simp only [Ledger.isLeg, k3, Ledger.legB, c, d, decide_eq_false e, decide_true, Bool.true_and, Bool.false_or]
      exact beq_dec1 _ _
    · have d : (i.l.p.legs (i.l.own i.r.id)).2.2 = false := d
      simp only [Ledger.isLeg, k3, Ledger.legB, c, d, decide_true, Bool.true_and, Bool.false_and]
    · simp only [Ledger.isLeg, k3, Ledger.legB, c, decide_true, Bool.true_and, Bool.false_and]
  · have k3 : ¬ i.r.kind = 3 := by simpa using k3
    simp only [Ledger.isLeg, decide_eq_false k3, Bool.false_and]
  subst hl
  refine Cv.cnd.mk (fun hl => ?_) (fun hl => ?_)
  · refine Cv.cnd.mk (fun c => ?_) (fun c => ?_)
    · have c : i.r.qty < 1 := by simpa using c
      have ha : i.l.add i.r = (i.l, 24) := by simp only [Ledger.add, hb, k2, hi, k1, hl, c, if_true, Bool.false_eq_true, if_false, Bool.true_eq_false]
      simp only [ha]; (repeat' (first | exact rfl | exact trivial | assumption | apply And.intro | (refine fun (_ : Unit) (_ : True) => ?_) | (refine Exists.intro () ?_) | omega | (dsimp only; omega)))
    have c : ¬ i.r.qty < 1 := by simpa using c
    have ha : i.l.add i.r = (i.l.trade i.r, 0) := by simp only [Ledger.add, hb, k2, hi, k1, hl, c, if_true, Bool.false_eq_true, if_false, Bool.true_eq_false]
    refine ⟨hin, _, own_get hin, hin, by omega, Cv.cnd.mk (fun s1 => ⟨hin2, _, own_get hin2, hin2, by omega, ?_⟩) (fun s1 => Cv.cnd.mk (fun s2 => ⟨hin2, _, own_get hin2, hin2, by omega, ?_⟩) (fun s2 => ?_))⟩
    · have s1 : i.r.side = 1 := by simpa using s1
      simp only [ha, Ledger.trade, addAt, s1, if_true]; (repeat' (first | exact rfl | exact trivial | assumption | apply And.intro | (refine fun (_ : Unit) (_ : True) => ?_) | (refine Exists.intro () ?_) | omega | (dsimp only; omega)))
    · have s1 : ¬ i.r.side = 1 := by simpa using s1
      have s2 : i.r.side = 2 := by simpa using s2
      simp only [ha, Ledger.trade, addAt, subAt, s2, if_true, show ¬ (2 : Int) = 1 by decide, if_false]; (repeat' (first | exact rfl | exact trivial | assumption | apply And.intro | (refine fun (_ : Unit) (_ : True) => ?_) | (refine Exists.intro () ?_) | omega | (dsimp only; omega)))
    · have s1 : ¬ i.r.side = 1 := by simpa using s1
      have s2 : ¬ i.r.side = 2 := by simpa using s2
      simp only [ha, Ledger.trade, addAt, s1, s2, if_false]; (repeat' (first | exact rfl | exact trivial | assumption | apply And.intro | (refine fun (_ : Unit) (_ : True) => ?_) | (refine Exists.intro () ?_) | omega | (dsimp only; omega)))
  refine ⟨lk, (aget i.l.left i.r.id).isSome, (aget i.l.left i.r.id).getD 0, lk_map _ _, Cv.cnd.mk (fun c => ?_) (fun c => ?_)⟩
  · have c : aget i.l.left i.r.id = none := by simpa using c
    have ha : i.l.add i.r = (i.l, 26) := by simp only [Ledger.add, hb, k2, hi, k1, hl, c, if_true, Bool.false_eq_true, if_false, Bool.true_eq_false]
    simp only [ha]; (repeat' (first | exact rfl | exact trivial | assumption | apply And.intro | (refine fun (_ : Unit) (_ : True) => ?_) | (refine Exists.intro () ?_) | omega | (dsimp only; omega)))
  obtain ⟨left, hleft⟩ : ∃ n, aget i.l.left i.r.id = some n := Option.isSome_iff_exists.1 (by simpa using c)
  have hadd : i.l.add i.r = if i.l.e1 i.r = true then (i.l, 20) else if i.r.e2 left = true then (i.l, 24) else if i.r.e3 left = true then (i.l, 24) else if i.r.e4 left = true then (i.l, 24) else (i.l.done i.r, 0) := by
    simp only [Ledger.add, hb, k2, hi, k1, hl, hleft, Bool.false_eq_true, if_false, Bool.true_eq_false]
  simp only [hleft, Option.getD_some]
  refine ⟨true, fun b => b = i.l.e1 i.r, Cv.cnd.mk (fun k3 => ⟨lk2, (aget i.l.inst i.r.id).isSome, (aget i.l.inst i.r.id).getD 0, lk_map _ _, _, rfl, ?_, by (repeat' (first | exact trivial | exact rfl | apply And.intro))⟩) (fun k3 => ⟨_, rfl, ?_, by (repeat' (first | exact trivial | exact rfl | apply And.intro))⟩), fun b e1 => ?_⟩
  · have k3 : i.r.kind = 3 := by simpa using k3
    simp only [Ledger.e1, k3, decide_true, Bool.true_and, Ledger.own]
    exact bne_dec1 _ _
  · have k3 : ¬ i.r.kind = 3 := by simpa using k3
    simp only [Ledger.e1, decide_eq_false k3, Bool.false_and]
  subst e1
  refine Cv.cnd.mk (fun e1 => ?_) (fun e1 => ?_)
  · have ha : i.l.add i.r = (i.l, 20) := by rw [hadd, if_pos e1]
    simp only [ha]; (repeat' (first | exact rfl | exact trivial | assumption | apply And.intro | (refine fun (_ : Unit) (_ : True) => ?_) | (refine Exists.intro () ?_) | omega | (dsimp only; omega)))
  have e1 : ¬ i.l.e1 i.r = true := by simpa using e1
  refine ⟨true, fun b => b = i.r.e2 left, Cv.cnd.mk (fun k3 => Cv.cnd.mk (fun c => ⟨_, rfl, ?_, by (repeat' (first | exact trivial | exact rfl | apply And.intro))⟩) (fun c => Cv.cnd.mk (fun d => ⟨_, rfl, ?_, by (repeat' (first | exact trivial | exact rfl | apply And.intro))⟩) (fun d => ⟨_, rfl, ?_, by (repeat' (first | exact trivial | exact rfl | apply And.intro))⟩))) (fun k3 => ⟨_, rfl, ?_, by (repeat' (first | exact trivial | exact rfl | apply And.intro))⟩), fun b e2 => ?_⟩
  · have k3 : i.r.kind = 3 := by simpa using k3
    simp only [Rep.e2, k3, c, decide_true, Bool.true_and, Bool.true_or]
  · have k3 : i.r.kind = 3 := by simpa using k3
    simp only [Rep.e2, k3, c, d, decide_true, Bool.true_and, Bool.true_or, Bool.false_or]
  · have k3 : i.r.kind = 3 := by simpa using k3
    simp only [Rep.e2, k3, c, d, decide_true, Bool.true_and, Bool.false_or]
    exact bne_dec1 _ _
  · have k3 : ¬ i.r.kind = 3 := by simpa using k3
    simp only [Rep.e2, decide_eq_false k3, Bool.false_and]
  subst e2
  refine Cv.cnd.mk (fun e2 => ?_) (fun e2 => ?_)
  · have ha : i.l.add i.r = (i.l, 24) := by rw [hadd, if_neg e1, if_pos e2]
    simp only [ha]; (repeat' (first | exact rfl | exact trivial | assumption | apply And.intro | (refine fun (_ : Unit) (_ : True) => ?_) | (refine Exists.intro () ?_) | omega | (dsimp only; omega)))
  have e2 : ¬ i.r.e2 left = true := by simpa using e2
  refine ⟨true, fun b => b = i.r.e3 left, Cv.cnd.mk (fun k3 => ⟨_, rfl, ?_, by (repeat' (first | exact trivial | exact rfl | apply And.intro))⟩) (fun k3 => ⟨_, rfl, ?_, by (repeat' (first | exact trivial | exact rfl | apply And.intro))⟩), fun b e3 => ?_⟩
  · have k3 : i.r.kind = 4 := by simpa using k3
    simp only [Rep.e3, k3, decide_true, Bool.true_and]
    exact bne_dec1 _ _
  · have k3 : ¬ i.r.kind = 4 := by simpa using k3
    simp only [Rep.e3, decide_eq_false k3, Bool.false_and]
  subst e3
  refine Cv.cnd.mk (fun e3 => ?_) (fun e3 => ?_)
  · have ha : i.l.add i.r = (i.l, 24) := by rw [hadd, if_neg e1, if_neg e2, if_pos e3]
    simp only [ha]; (repeat' (first | exact rfl | exact trivial | assumption | apply And.intro | (refine fun (_ : Unit) (_ : True) => ?_) | (refine Exists.intro () ?_) | omega | (dsimp only; omega)))
  have e3 : ¬ i.r.e3 left = true := by simpa using e3
  refine ⟨true, fun b => b = i.r.e4 left, Cv.cnd.mk (fun k3 => Cv.cnd.mk (fun c => ⟨_, rfl, ?_, by (repeat' (first | exact trivial | exact rfl | apply And.intro))⟩) (fun c => Cv.cnd.mk (fun d => ⟨_, rfl, ?_, by (repeat' (first | exact trivial | exact rfl | apply And.intro))⟩) (fun d => ⟨_, rfl, ?_, by (repeat' (first | exact trivial | exact rfl | apply And.intro))⟩))) (fun k3 => ⟨_, rfl, ?_, by (repeat' (first | exact trivial | exact rfl | apply And.intro))⟩), fun b e4 => ?_⟩
  · have k3 : i.r.kind = 5 := by simpa using k3
    simp only [Rep.e4, k3, c, decide_true, Bool.true_and, Bool.true_or]
  · have k3 : i.r.kind = 5 := by simpa using k3
    simp only [Rep.e4, k3, c, d, decide_true, Bool.true_and, Bool.true_or, Bool.false_or]
  · have k3 : i.r.kind = 5 := by simpa using k3
    simp only [Rep.e4, k3, c, d, decide_true, Bool.true_and, Bool.false_or]
    exact bne_dec1 _ _
  · have k3 : ¬ i.r.kind = 5 := by simpa using k3
    simp only [Rep.e4, decide_eq_false k3, Bool.false_and]
  subst e4
  refine Cv.cnd.mk (fun e4 => ?_) (fun e4 => ?_)
  · have ha : i.l.add i.r = (i.l, 24) := by rw [hadd, if_neg e1, if_neg e2, if_neg e3, if_pos e4]
    simp only [ha]; (repeat' (first | exact rfl | exact trivial | assumption | apply And.intro | (refine fun (_ : Unit) (_ : True) => ?_) | (refine Exists.intro () ?_) | omega | (dsimp only; omega)))
  have e4 : ¬ i.r.e4 left = true := by simpa using e4
  have ha : i.l.add i.r = (i.l.done i.r, 0) := by rw [hadd, if_neg e1, if_neg e2, if_neg e3, if_neg e4]
  clear hadd
  refine Cv.cnd.mk (fun k3 => ?_) (fun k3 => ?_)
  · have k3 : i.r.kind = 3 := by simpa using k3
    have hd : i.l.done i.r = (i.l.trade i.r).close i.r.id i.r.left := by rw [Ledger.done, if_pos k3]
    rw [hd] at ha
    refine ⟨hin, _, own_get hin, hin, by omega, Cv.cnd.mk (fun s1 => ⟨hin2, _, own_get hin2, hin2, by omega, lk, Cv.cnd.mk (fun c => ⟨lk3, ?_⟩) (fun c => ?_)⟩) (fun s1 => Cv.cnd.mk (fun s2 => ⟨hin2, _, own_get hin2, hin2, by omega, lk, Cv.cnd.mk (fun c => ⟨lk3, ?_⟩) (fun c => ?_)⟩) (fun s2 => ⟨lk, Cv.cnd.mk (fun c => ⟨lk3, ?_⟩) (fun c => ?_)⟩))⟩
    all_goals first | have s1 : i.r.side = 1 := (by simpa using s1) | have s1 : ¬ i.r.side = 1 := (by simpa using s1)
    all_goals first | have c : i.r.left = 0 := (by simpa using c) | have c : ¬ i.r.left = 0 := (by simpa using c)
    all_goals first | have s2 : i.r.side = 2 := (by simpa using s2) | have s2 : ¬ i.r.side = 2 := (by simpa using s2) | skip
    all_goals (simp only [ha, Ledger.close, Ledger.trade, addAt, subAt, s1, c, if_true, if_false]; (try simp only [s2, if_true, if_false]); (repeat' (first | exact rfl | exact trivial | assumption | apply And.intro | (refine fun (_ : Unit) (_ : True) => ?_) | (refine Exists.intro () ?_) | omega | (dsimp only; omega))))
  have k3 : ¬ i.r.kind = 3 := by simpa using k3
  refine Cv.cnd.mk (fun k4 => ?_) (fun k4 => ?_)
  · have k4 : i.r.kind = 4 := by simpa using k4
    have hd : i.l.done i.r = i.l.close i.r.id 0 := by rw [Ledger.done, if_neg k3, if_pos k4]
    rw [hd] at ha
    simp only [ha, Ledger.close, if_true]; (repeat' (first | exact rfl | exact trivial | assumption | apply And.intro | (refine fun (_ : Unit) (_ : True) => ?_) | (refine Exists.intro () ?_) | omega | (dsimp only; omega)))
  have k4 : ¬ i.r.kind = 4 := by simpa using k4
  have hd : i.l.done i.r = i.l.close i.r.id i.r.left := by rw [Ledger.done, if_neg k3, if_neg k4]
  rw [hd] at ha
  refine ⟨lk, Cv.cnd.mk (fun c => ⟨lk3, ?_⟩) (fun c => ?_)⟩
  · have c : i.r.left = 0 := by simpa using c
    simp only [ha, Ledger.close, c, if_true]; (repeat' (first | exact rfl | exact trivial | assumption | apply And.intro | (refine fun (_ : Unit) (_ : True) => ?_) | (refine Exists.intro () ?_) | omega | (dsimp only; omega)))
  · have c : ¬ i.r.left = 0 := by simpa using c
    simp only [ha, Ledger.close, c, if_false]; (repeat' (first | exact rfl | exact trivial | assumption | apply And.intro | (refine fun (_ : Unit) (_ : True) => ?_) | (refine Exists.intro () ?_) | omega | (dsimp only; omega)))
theorem ladd_ok : laddC.ok Try.prog 9 := byladd (gokc legs_ok gok0) vladd

end Sx

namespace Sx
set_option linter.unusedVariables false
set_option linter.unusedSimpArgs false
set_option maxRecDepth 100000
open Go Cv Go.Proofs

theorem addAt_len (l : List Int) (n : Nat) (x : Int) : (addAt l n x).length = l.length := by simp [addAt]
theorem subAt_len (l : List Int) (n : Nat) (x : Int) : (subAt l n x).length = l.length := by simp [subAt]
theorem Ledger.trade_fit {l : Ledger} (h : l.fit) (r : Rep) : (l.trade r).fit := by
  obtain ⟨⟨h1, h2⟩, h3⟩ := h
  refine ⟨⟨by rw [Ledger.trade]; dsimp only; rw [addAt_len]; exact h1, ?_⟩, h3⟩
  rw [Ledger.trade]; dsimp only
  rw [addAt_len]
  split
  · rw [addAt_len]; exact h2
  · split
    · rw [subAt_len]; exact h2
    · exact h2
theorem Ledger.add_fit {l : Ledger} (h : l.fit) (r : Rep) : (l.add r).1.fit := by
  have ht := Ledger.trade_fit h r
  unfold Ledger.add Ledger.acc
  repeat' split
  all_goals first | exact h | exact ht | skip
  all_goals (unfold Ledger.done Ledger.close; repeat' split)
  all_goals first | exact h | exact ht
theorem addAll_fit : ∀ {xs : List Rep} {l : Ledger}, l.fit → (l.addAll xs).1.fit
  | [], l, h => h
  | r :: xs, l, h => by
    rw [Ledger.addAll]
    split
    · exact Ledger.add_fit h r
    · exact addAll_fit (Ledger.add_fit h r)
theorem addAll_app : ∀ (a b : List Rep) (l : Ledger), l.addAll (a ++ b) = if (l.addAll a).2 ≠ 0 then l.addAll a else (l.addAll a).1.addAll b
  | [], b, l => by simp [Ledger.addAll]
  | r :: a, b, l => by
    rw [List.cons_append, Ledger.addAll, Ledger.addAll]
    by_cases h : (l.add r).2 = 0
    · simp only [h, ne_eq, not_true_eq_false, if_false]
      exact addAll_app a b _
    · rw [if_pos h, if_pos h, if_pos h]
theorem addAll_one (r : Rep) (l : Ledger) : l.addAll [r] = l.add r := by
  rw [Ledger.addAll]
  split
  · rfl
  · rename_i h
    have h : (l.add r).2 = 0 := by simpa using h
    rw [Ledger.addAll, ← h]
theorem addAll_succ {xs : List Rep} {j : Nat} {r : Rep} (hr : xs[j]? = some r) {l : Ledger} (h : (l.addAll (xs.take j)).2 = 0) : l.addAll (xs.take (j + 1)) = (l.addAll (xs.take j)).1.add r := by
  rw [List.take_add_one, hr, Option.toList_some, addAll_app, if_neg (by simp [h]), addAll_one]
theorem addAll_stop {xs : List Rep} {j : Nat} {r : Rep} (hr : xs[j]? = some r) {l : Ledger} (h : (l.addAll (xs.take j)).2 = 0) (he : ((l.addAll (xs.take j)).1.add r).2 ≠ 0) : l.addAll xs = (l.addAll (xs.take j)).1.add r := by
  have e := addAll_succ hr h
  have e2 := addAll_app (xs.take (j + 1)) (xs.drop (j + 1)) l
  rw [List.take_append_drop] at e2
  rw [e2, if_pos (by rw [e]; exact he), e]
theorem ledger0_fit {p : Prd} (h : p.small) : (ledger0 p).fit := by
  have := count_le p
  exact ⟨⟨by simp only [ledger0, List.length_replicate]; omega, by simp only [ledger0, List.length_replicate]⟩, h⟩
theorem elRp {l : List Rep} {k : Nat} {r : Rep} (h : l[k]? = some r) : elPart (l.map repE) k 0 8 = some [D.v (.int .i64 r.kind), .v (.int .i64 r.id), .v (.int .i64 r.inst), .v (.int .i64 r.side), .v (.int .i64 r.price), .v (.int .i64 r.qty), .v (.int .i64 r.left), .v (.int .i64 r.why)] := elA h (by simp [repE]) rfl

theorem vreports (i : RpI) (h : reportsC.cnd i) : Vreports i := by
  obtain ⟨hs, hlen⟩ : i.p.small ∧ i.l.length ≤ 1099511627776 := h
  have hs' := hs
  obtain ⟨h1, h2, h3⟩ := hs'
  unfold Vreports
  simp only [iE_len, List.length_map]
  refine ⟨i.p, ?_⟩
  (repeat' (first | exact rfl | exact trivial | assumption | apply And.intro | (refine fun (_ : Unit) (_ : True) => ?_) | (refine Exists.intro () ?_) | omega | (dsimp only; omega)))
  · intro _ c
    have c : i.p.check = 0 := c
    generalize hL : ledger0 i.p = L
    have hf : L.fit := hL ▸ ledger0_fit hs
    have e0 : reportsF i.p i.l = if (L.addAll i.l).2 ≠ 0 then (L.addAll i.l).2 else if (List.range i.p.months.length).any (fun n => decide ((L.addAll i.l).1.at (L.addAll i.l).1.net n ≠ 0)) then 21 else 0 := by
      rw [reportsF, if_neg (by simp [c]), hL]
    refine ⟨0, rfl, by rw [List.take_zero]; rfl, fun j => j ≤ i.l.length ∧ (L.addAll (i.l.take j)).2 = 0, fun j => i.l.length - j, ⟨by omega, rfl⟩, ?_⟩
    rintro j ⟨g1, g2⟩
    refine cndD (fun hlt => ?_) (fun hlt => ?_)
    · obtain ⟨r, hr⟩ := getI (l := i.l) (i := j) (by omega)
      refine ⟨⟨by omega, by omega⟩, r.kind, r.id, r.inst, r.side, r.price, r.qty, r.left, r.why, elRp hr, ⟨(L.addAll (i.l.take j)).1, r⟩, rfl, rfl, rfl, rfl, rfl, rfl, rfl, rfl, rfl, addAll_fit hf, fun _ _ => ?_⟩
      dsimp only
      refine Cv.cnd.mk (fun e => ⟨(), ?_, trivial⟩) (fun e => ⟨j + 1, ?_, ?_, ⟨by omega, ?_⟩, by omega, by (repeat' (first | exact trivial | exact rfl | apply And.intro))⟩)
      · have e : ((L.addAll (i.l.take j)).1.add r).2 ≠ 0 := by simpa using e
        rw [e0, addAll_stop hr g2 e, if_pos e]
      · rw [w64 (by omega)]; rfl
      · rw [addAll_succ hr g2]
      · rw [addAll_succ hr g2]; simpa using e
    · have ej : i.l.take j = i.l := List.take_of_length_le (by omega)
      rw [ej] at g2 ⊢
      have hfit := addAll_fit hf (xs := i.l)
      generalize L.addAll i.l = X at *
      have e1 : reportsF i.p i.l = if (List.range i.p.months.length).any (fun n => decide (X.1.at X.1.net n ≠ 0)) then 21 else 0 := by
        rw [e0, if_neg (by simp [g2])]
      refine ⟨0, rfl, fun k => k ≤ i.p.months.length ∧ ∀ m < k, X.1.at X.1.net m = 0, fun k => i.p.months.length - k, ⟨by omega, fun m hm => by omega⟩, ?_⟩
      rintro k ⟨g3, g4⟩
      refine cndD (fun hlt => ⟨⟨X.1, k⟩, rfl, rfl, hfit.1, fun _ _ => ?_⟩) (fun hlt => ⟨(), ?_, trivial⟩)
      · dsimp only
        refine Cv.cnd.mk (fun e => ⟨(), ?_, trivial⟩) (fun e => ⟨k + 1, ?_, ⟨by omega, fun m hm => ?_⟩, by omega, rfl, by (repeat' (first | exact trivial | exact rfl | apply And.intro))⟩)
        · rw [e1, if_pos (any_true (k := k) (by omega) (by simpa using e))]
        · rw [w64 (by omega)]; rfl
        · rcases Nat.lt_or_ge m k with h | h
          · exact g4 m h
          · obtain rfl : m = k := by omega
            simpa using e
      · rw [e1, if_neg (by
          rw [Bool.not_eq_true]
          exact any_false fun m hm => by simpa using g4 m (by omega))]
  · intro _ c
    refine Cv.cnd.mk (fun e => ⟨(), ?_, trivial⟩) (fun e => absurd (by simpa using e) c)
    rw [reportsF, if_pos c]
theorem reports_ok : reportsC.ok Try.prog 25 := byreports (gokc newL_ok (gokc ladd_ok (gokc lnet_ok gok0))) vreports

theorem three_check : (three 1).check = 0 := by decide +kernel
theorem three_small (n : Int) : (three n).small := ⟨by simp [three], by simp [three], by simp [three]⟩
theorem vknown25 (u : Unit) (h : known25C.cnd u) : Vknown25 u := by
  unfold Vknown25
  refine ⟨1, rfl, trivial, fun _ _ => ⟨three 1, rfl, rfl, rfl, rfl, rfl, rfl, rfl, rfl, rfl, rfl, rfl, three_small 1, fun _ _ => ?_, fun _ c => absurd three_check c⟩⟩
  refine ⟨⟨three 1, [⟨3, 1, 0, 1, 0, 1, 0, 0⟩]⟩, rfl, rfl, rfl, rfl, rfl, rfl, rfl, rfl, rfl, rfl, rfl, rfl, ⟨three_small 1, by simp⟩, fun _ _ => ?_⟩
  refine ⟨⟨three 1, []⟩, rfl, rfl, rfl, rfl, rfl, rfl, rfl, rfl, rfl, rfl, rfl, rfl, ⟨three_small 1, by simp⟩, fun _ _ => ?_⟩
  have r1 : reportsF (three 1) [] = 0 := by decide +kernel
  have r2 : reportsF (three 1) [⟨3, 1, 0, 1, 0, 1, 0, 0⟩] = 26 := by decide +kernel
  dsimp only
  rw [r1, r2]
  have hst : (state0 (three 1)).small := ⟨by decide +kernel, by decide +kernel⟩
  have hcnt : (state0 (three 1)).cntOk := ⟨by decide +kernel, by decide +kernel⟩
  have htop : topsOk (state0 (three 1)).tops := ⟨by decide +kernel, by decide +kernel⟩
  have r3 : booksErr (three 1) (state0 (three 1)).tops = 0 := by decide +kernel
  refine Cv.cnd.mk (fun _ => Cv.cnd.mk (fun _ => ⟨⟨three 1, state0 (three 1), []⟩, rfl, hst, fun _ _ => ⟨by (repeat' (first | exact trivial | exact rfl | apply And.intro)), ?_⟩⟩) (fun e => absurd e (by decide))) (fun e => absurd e (by decide))
  refine .inl ⟨⟨three 1, state0 (three 1)⟩, rfl, rfl, rfl, rfl, rfl, rfl, rfl, rfl, rfl, rfl, rfl, rfl, ⟨three_small 1, hcnt, htop⟩, fun _ _ => ?_⟩
  dsimp only
  rw [r3]
  refine Cv.cnd.mk (fun _ => .inr ⟨three 1, rfl, rfl, rfl, rfl, rfl, rfl, rfl, rfl, rfl, rfl, rfl, trivial, three_small 1, fun _ _ => ⟨(), rfl, trivial⟩⟩) (fun e => absurd e (by decide))
theorem known25_ok : known25C.ok Try.prog 13 := byknown25 (gokc three_ok (gokc newM_ok (gokc reports_ok (gokc state_ok (gokc books_ok (gokc booksNil_ok gok0)))))) vknown25

theorem within_bd {n lo hi : Int} (h : lo ≤ hi) : lo ≤ within n lo hi ∧ within n lo hi ≤ hi := by
  rw [within]
  have h1 := Int.emod_nonneg n (show hi - lo + 1 ≠ 0 by omega)
  have h2 := Int.emod_lt_of_pos n (show 0 < hi - lo + 1 by omega)
  omega


end Sx

