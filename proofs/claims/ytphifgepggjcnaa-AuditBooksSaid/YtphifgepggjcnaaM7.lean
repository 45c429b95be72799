/- Texts of ours, one behind the other: a walk that the kernel reckons, and contracts of functions. No condition. -/
import Derived.Test.YtphifgepggjcnaaM6

namespace Sx
set_option linter.unusedVariables false
set_option linter.unusedSimpArgs false
set_option maxRecDepth 100000
open Go Cv Go.Proofs

theorem vr3prod (s : List UInt8) (h : r3prodC.cnd s) : Vr3prod s := by
  have h : s.length ≤ 1099511627776 := h
  have hr := runes_len s
  unfold Vr3prod
  refine ⟨(0, 0), rfl, rfl, rfl, fun x => x.1 ≤ s.length ∧ x.2 + (runesP s x.1).length = (runes s).length ∧ (runes s).all great = ((runesP s x.1).all fun y => great y.2), fun x => s.length - x.1, ⟨by omega, by rw [runes, List.length_map]; simp, by rw [runes, List.all_map]; rfl⟩, ?_⟩
  rintro ⟨p, n⟩ ⟨h1, h2, h3⟩
  dsimp only at h1 h2 h3 ⊢
  refine Cv.cnd.mk (fun hp => ?_) (fun hp => ?_)
  · have hp : p < s.length := by simpa [Nat.blt_eq] using hp
    have hw := decode_w s hp
    rw [runesP_step hp, List.length_cons] at h2
    rw [runesP_step hp, List.all_cons] at h3
    generalize hc : (Utf8.decode (sb s) p).1 = c at h2 h3 ⊢
    generalize hww : (Utf8.decode (sb s) p).2 = w at h2 h3 hw ⊢
    dsimp only at h3
    have g0 : ∀ b : Bool, (b = true → great c = true) → (b = false → great c = false) → b = great c := fun b e1 e2 => by cases b <;> simp_all
    refine ⟨true, fun b => b = !great c, ?_, fun b hb => ?_⟩
    · refine cndD (fun c1 => cndD (fun c2 => ⟨_, rfl, ?_, by (repeat' (first | exact trivial | exact rfl | apply And.intro))⟩) (fun c2 => cndD (fun c3 => cndD (fun c4 => ⟨_, rfl, ?_, by (repeat' (first | exact trivial | exact rfl | apply And.intro))⟩) (fun c4 => ⟨_, rfl, ?_, by (repeat' (first | exact trivial | exact rfl | apply And.intro))⟩)) (fun c3 => ⟨_, rfl, ?_, by (repeat' (first | exact trivial | exact rfl | apply And.intro))⟩))) (fun c1 => cndD (fun c3 => cndD (fun c4 => ⟨_, rfl, ?_, by (repeat' (first | exact trivial | exact rfl | apply And.intro))⟩) (fun c4 => ⟨_, rfl, ?_, by (repeat' (first | exact trivial | exact rfl | apply And.intro))⟩)) (fun c3 => ⟨_, rfl, ?_, by (repeat' (first | exact trivial | exact rfl | apply And.intro))⟩))
      all_goals congr 1
      all_goals refine g0 _ (fun e => ?_) (fun e => ?_)
      all_goals first | (simp [great] at *; done) | (simp [great] at *; omega)
    · subst hb
      refine Cv.cnd.mk (fun e => ⟨(), ?_, trivial⟩) (fun e => ⟨(p + w, n + 1), ?_, rfl, rfl, ⟨hw.2, by (first | omega | (dsimp only; omega)), ?_⟩, by (first | omega | (dsimp only; omega)), trivial⟩)
      · have e : great c = false := by simpa using e
        rw [symOk, h3, e]; rfl
      · rw [w64 (by omega)]; rfl
      · have e : great c = true := by simpa using e
        rw [h3, e]; rfl
  · have hp : s.length ≤ p := by have := blt_f hp; simpa using this
    rw [runesP_end hp] at h2 h3
    have h3 : (runes s).all great = true := h3
    have hn : n = (runes s).length := by simpa using h2
    have hne : (s = []) ↔ (runes s).length = 0 := by
      constructor
      · intro e; subst e; rfl
      · intro e
        cases s with
        | nil => rfl
        | cons b l =>
          rw [runes, List.length_map, runesP_step (by simp)] at e
          simp at e
    refine cndD (fun c => ⟨(), ?_, trivial⟩) (fun c => ⟨(), ?_, trivial⟩)
    · have : ¬ s = [] := by rw [hne]; omega
      rw [symOk, h3, decide_eq_true this, hn]
      simp only [Bool.true_and]
      congr 1
      simp only [eq_iff_iff]; omega
    · have : s = [] := by rw [hne]; omega
      rw [symOk, this]; rfl
theorem r3prod_ok : r3prodC.ok Try.prog 63 := byr3prod gok0 vr3prod

/-! ### Least and greatest -/
theorem foldl_min_le : ∀ (l : List Int) (a : Int), l.foldl min a ≤ a ∧ ∀ x ∈ l, l.foldl min a ≤ x
  | [], a => ⟨Int.le_refl _, by simp⟩
  | b :: l, a => by
    obtain ⟨h1, h2⟩ := foldl_min_le l (min a b)
    rw [List.foldl_cons]
    refine ⟨by omega, fun x hx => ?_⟩
    rcases List.mem_cons.1 hx with rfl | hx
    · omega
    · exact h2 x hx
theorem foldl_max_le : ∀ (l : List Int) (a : Int), a ≤ l.foldl max a ∧ ∀ x ∈ l, x ≤ l.foldl max a
  | [], a => ⟨Int.le_refl _, by simp⟩
  | b :: l, a => by
    obtain ⟨h1, h2⟩ := foldl_max_le l (max a b)
    rw [List.foldl_cons]
    refine ⟨by omega, fun x hx => ?_⟩
    rcases List.mem_cons.1 hx with rfl | hx
    · omega
    · exact h2 x hx
theorem foldl_min_mem : ∀ (l : List Int) (a : Int), l.foldl min a = a ∨ l.foldl min a ∈ l
  | [], a => .inl rfl
  | b :: l, a => by
    rw [List.foldl_cons]
    rcases foldl_min_mem l (min a b) with h | h
    · rcases Int.le_total a b with e | e
      · left; rw [h]; omega
      · right; rw [h, show min a b = b by omega]; exact List.mem_cons_self
    · exact .inr (List.mem_cons_of_mem _ h)
theorem foldl_max_mem : ∀ (l : List Int) (a : Int), l.foldl max a = a ∨ l.foldl max a ∈ l
  | [], a => .inl rfl
  | b :: l, a => by
    rw [List.foldl_cons]
    rcases foldl_max_mem l (max a b) with h | h
    · rcases Int.le_total a b with e | e
      · right; rw [h, show max a b = b by omega]; exact List.mem_cons_self
      · left; rw [h]; omega
    · exact .inr (List.mem_cons_of_mem _ h)
theorem minL_le {l : List Int} {x : Int} (h : x ∈ l) : minL l ≤ x := by
  cases l with
  | nil => cases h
  | cons a l =>
    rw [minL, List.tail_cons, List.headD_cons]
    rcases List.mem_cons.1 h with rfl | h
    · exact (foldl_min_le l x).1
    · exact (foldl_min_le l a).2 x h
theorem le_maxL {l : List Int} {x : Int} (h : x ∈ l) : x ≤ maxL l := by
  cases l with
  | nil => cases h
  | cons a l =>
    rw [maxL, List.tail_cons, List.headD_cons]
    rcases List.mem_cons.1 h with rfl | h
    · exact (foldl_max_le l x).1
    · exact (foldl_max_le l a).2 x h
theorem minL_mem {l : List Int} (h : l ≠ []) : minL l ∈ l := by
  cases l with
  | nil => exact absurd rfl h
  | cons a l =>
    rw [minL, List.tail_cons, List.headD_cons]
    rcases foldl_min_mem l a with h | h
    · rw [h]; exact List.mem_cons_self
    · exact List.mem_cons_of_mem _ h
theorem maxL_mem {l : List Int} (h : l ≠ []) : maxL l ∈ l := by
  cases l with
  | nil => exact absurd rfl h
  | cons a l =>
    rw [maxL, List.tail_cons, List.headD_cons]
    rcases foldl_max_mem l a with h | h
    · rw [h]; exact List.mem_cons_self
    · exact List.mem_cons_of_mem _ h

theorem vr5check (p : Prd) (h : r5checkC.cnd p) : Vr5check p := by
  obtain ⟨h1, h2, h3⟩ : p.small := h
  unfold Vr5check
  simp only [iE_len]
  refine ⟨p.code, rfl, h1, fun _ _ => Cv.cnd.mk (fun c1 => ⟨(), by rw [Prd.check, if_pos c1], trivial⟩) fun c1 => ?_⟩
  have c1 : symOk p.code = true := by simpa using c1
  have e1 : p.check = if !monthsOk p.months then 1 else if !ticksOk p then 22 else if bandBad p then 23 else if settleBad p then 1 else if ruleBad p then 31 else if qtyBad p then 24 else 0 := by
    rw [Prd.check, if_neg (by simp [c1])]
  refine ⟨true, fun b => b = (decide (p.months.length < 2) || decide (p.months.length > 6)), cndD (fun c => ⟨true, rfl, ?_, by (repeat' (first | exact trivial | exact rfl | apply And.intro))⟩) (fun c => ⟨_, rfl, ?_, by (repeat' (first | exact trivial | exact rfl | apply And.intro))⟩), fun b hb => ?_⟩
  · rw [decide_eq_true (show p.months.length < 2 by omega)]; rfl
  · rw [decide_eq_false (show ¬ p.months.length < 2 by omega), Bool.false_or]
    congr 1; simp only [eq_iff_iff]; omega
  subst hb
  refine Cv.cnd.mk (fun c2 => ?_) (fun c2 => ?_)
  · have : monthsOk p.months = false := by
      simp only [Bool.or_eq_true, decide_eq_true_eq] at c2
      rw [monthsOk]
      rcases c2 with c2 | c2
      · rw [decide_eq_false (show ¬ 2 ≤ p.months.length by omega)]; simp
      · rw [decide_eq_false (show ¬ p.months.length ≤ 6 by omega)]; simp
    exact ⟨(), by rw [e1, if_pos (by rw [this]; rfl)], trivial⟩
  have c2 : 2 ≤ p.months.length ∧ p.months.length ≤ 6 := by
    simp only [Bool.or_eq_false_iff, decide_eq_false_iff_not] at c2; omega
  have em : monthsOk p.months = (List.range p.months.length).all (monthAt p.months) := by
    rw [monthsOk, decide_eq_true c2.1, decide_eq_true c2.2]; simp
  refine ⟨0, rfl, fun j => j ≤ p.months.length ∧ ∀ k < j, monthAt p.months k = true, fun j => p.months.length - j, ⟨by omega, fun k hk => by omega⟩, ?_⟩
  rintro j ⟨g1, g2⟩
  refine cndD (fun hj => ?_) (fun hj => ?_)
  · obtain ⟨m, hm⟩ := getI (l := p.months) (i := j) (by omega)
    have hmj : p.months.getD j 0 = m := getD_of hm
    refine ⟨true, fun b => b = !monthAt p.months j, ⟨⟨by omega, by omega⟩, m, elI hm, cndD (fun c => ⟨true, rfl, ?_, by (repeat' (first | exact trivial | exact rfl | apply And.intro))⟩) (fun c => ⟨⟨by omega, by omega⟩, m, elI hm, cndD (fun d => ⟨true, rfl, ?_, by (repeat' (first | exact trivial | exact rfl | apply And.intro))⟩) (fun d => cndD (fun e => ?_) (fun e => ⟨false, rfl, ?_, by (repeat' (first | exact trivial | exact rfl | apply And.intro))⟩))⟩)⟩, fun b hb => ?_⟩
    · rw [monthAt, hmj, decide_eq_false (show ¬ 0 ≤ m by omega)]; rfl
    · rw [monthAt, hmj, decide_eq_false (show ¬ m ≤ 1199 by omega)]; simp
    · obtain ⟨m', hm'⟩ := getI (l := p.months) (i := j - 1) (by omega)
      rw [w64 (by omega), show ((j : Int) - 1).toNat = j - 1 by omega]
      refine ⟨⟨by omega, by omega⟩, m', elI hm', ⟨by omega, by omega⟩, m, elI hm, _, rfl, ?_, by (repeat' (first | exact trivial | exact rfl | apply And.intro))⟩
      rw [monthAt, hmj, getD_of hm', decide_eq_true (show 0 ≤ m by omega), decide_eq_true (show m ≤ 1199 by omega), decide_eq_false (show ¬ j = 0 by omega)]
      simp only [Bool.true_and, Bool.false_or]
      by_cases hlt : m' < m
      · rw [decide_eq_true hlt, decide_eq_false (by omega)]; rfl
      · rw [decide_eq_false hlt, decide_eq_true (by omega)]; rfl
    · rw [monthAt, hmj, decide_eq_true (show 0 ≤ m by omega), decide_eq_true (show m ≤ 1199 by omega), decide_eq_true (show j = 0 by omega)]; rfl
    · subst hb
      refine Cv.cnd.mk (fun c => ⟨(), ?_, trivial⟩) (fun c => ⟨j + 1, by rw [w64 (by omega)]; rfl, ⟨by omega, fun k hk => ?_⟩, by (first | omega | (dsimp only; omega)), by (repeat' (first | exact trivial | exact rfl | apply And.intro))⟩)
      · have c : monthAt p.months j = false := by simpa using c
        rw [e1, if_pos (by rw [em, all_false (k := j) (by omega) c]; rfl)]
      · have c : monthAt p.months j = true := by simpa using c
        rcases Nat.lt_or_ge k j with h | h
        · exact g2 k h
        · obtain rfl : k = j := by omega
          exact c
  have em : monthsOk p.months = true := by rw [em]; exact all_true fun k hk => g2 k (by omega)
  have e2 : p.check = if !ticksOk p then 22 else if bandBad p then 23 else if settleBad p then 1 else if ruleBad p then 31 else if qtyBad p then 24 else 0 := by
    rw [e1, if_neg (by simp [em])]
  have et : ticksOk p = ((decide (1 ≤ p.tick) && decide (p.tick ≤ 1000) && !offB p.tick p.low && !offB p.tick p.high && !offB p.tick p.wide) && !p.settle.any (offB p.tick)) := rfl
  refine ⟨true, fun b => b = !(decide (1 ≤ p.tick) && decide (p.tick ≤ 1000) && !offB p.tick p.low && !offB p.tick p.high && !offB p.tick p.wide), cndD (fun d1 => ⟨true, rfl, ?_, by (repeat' (first | exact trivial | exact rfl | apply And.intro))⟩) (fun d1 => cndD (fun d2 => ⟨true, rfl, ?_, by (repeat' (first | exact trivial | exact rfl | apply And.intro))⟩) (fun d2 => ⟨trivial, by omega, Cv.cnd.mk (fun d3 => ⟨true, rfl, ?_, by (repeat' (first | exact trivial | exact rfl | apply And.intro))⟩) (fun d3 => ⟨trivial, by omega, Cv.cnd.mk (fun d4 => ⟨true, rfl, ?_, by (repeat' (first | exact trivial | exact rfl | apply And.intro))⟩) (fun d4 => ⟨trivial, by omega, _, rfl, ?_, by (repeat' (first | exact trivial | exact rfl | apply And.intro))⟩)⟩)⟩)), fun b hb => ?_⟩
  · rw [decide_eq_false (show ¬ 1 ≤ p.tick by omega)]; rfl
  · rw [decide_eq_false (show ¬ p.tick ≤ 1000 by omega)]; simp
  · have d3 : offB p.tick p.low = true := d3
    rw [d3]; simp
  · have d4 : offB p.tick p.high = true := d4
    rw [d4]; simp
  · have d3 : offB p.tick p.low = false := d3
    have d4 : offB p.tick p.high = false := d4
    rw [d3, d4, decide_eq_true (show 1 ≤ p.tick by omega), decide_eq_true (show p.tick ≤ 1000 by omega)]
    show offB p.tick p.wide = _
    simp
  subst hb
  refine Cv.cnd.mk (fun c3 => ?_) (fun c3 => ?_)
  · have c3 : (decide (1 ≤ p.tick) && decide (p.tick ≤ 1000) && !offB p.tick p.low && !offB p.tick p.high && !offB p.tick p.wide) = false := by
      rw [Bool.not_eq_true'] at c3
      exact c3
    exact ⟨(), by rw [e2, if_pos (by rw [et, c3]; rfl)], trivial⟩
  have c3 : (decide (1 ≤ p.tick) && decide (p.tick ≤ 1000) && !offB p.tick p.low && !offB p.tick p.high && !offB p.tick p.wide) = true := by simpa using c3
  have ht1 : 1 ≤ p.tick := by
    simp only [Bool.and_eq_true, decide_eq_true_eq] at c3; exact c3.1.1.1.1
  rw [c3, Bool.true_and] at et
  refine ⟨0, rfl, fun j => j ≤ p.settle.length ∧ ∀ k < j, ∀ x, p.settle[k]? = some x → offB p.tick x = false, fun j => p.settle.length - j, ⟨by omega, fun k hk => by omega⟩, ?_⟩
  rintro j ⟨g1, g2⟩
  refine cndD (fun hj => ?_) (fun hj => ?_)
  · obtain ⟨m, hm⟩ := getI (l := p.settle) (i := j) (by omega)
    refine ⟨⟨by omega, by omega⟩, m, elI hm, trivial, by omega, Cv.cnd.mk (fun c => ⟨(), ?_, trivial⟩) (fun c => ⟨j + 1, by rw [w64 (by omega)]; rfl, ⟨by omega, fun k hk x hx => ?_⟩, by (first | omega | (dsimp only; omega)), by (repeat' (first | exact trivial | exact rfl | apply And.intro))⟩)⟩
    · have c : offB p.tick m = true := c
      have : p.settle.any (offB p.tick) = true := by rw [List.any_eq_true]; exact ⟨m, List.mem_of_getElem? hm, c⟩
      rw [e2, if_pos (by rw [et, this]; rfl)]
    · rcases Nat.lt_or_ge k j with h | h
      · exact g2 k h x hx
      · obtain rfl : k = j := by omega
        rw [hm] at hx; cases hx; exact c
  have et : ticksOk p = true := by
    rw [et]
    have : p.settle.any (offB p.tick) = false := by
      rw [List.any_eq_false]
      intro x hx
      obtain ⟨k, hk⟩ := List.getElem?_of_mem hx
      rw [g2 k (by have := (List.getElem?_eq_some_iff.1 hk).1; omega) x hk]; simp
    rw [this]; rfl
  have e3 : p.check = if bandBad p then 23 else if settleBad p then 1 else if ruleBad p then 31 else if qtyBad p then 24 else 0 := by
    rw [e2, if_neg (by simp [et])]
  refine ⟨true, fun b => b = bandBad p, cndD (fun d1 => ⟨true, rfl, ?_, by (repeat' (first | exact trivial | exact rfl | apply And.intro))⟩) (fun d1 => cndD (fun d2 => ⟨true, rfl, ?_, by (repeat' (first | exact trivial | exact rfl | apply And.intro))⟩) (fun d2 => cndD (fun d3 => ⟨true, rfl, ?_, by (repeat' (first | exact trivial | exact rfl | apply And.intro))⟩) (fun d3 => cndD (fun d4 => ⟨true, rfl, ?_, by (repeat' (first | exact trivial | exact rfl | apply And.intro))⟩) (fun d4 => ⟨_, rfl, ?_, by (repeat' (first | exact trivial | exact rfl | apply And.intro))⟩)))), fun b hb => ?_⟩
  · simp [bandBad, d1]
  · simp [bandBad, d2]
  · simp [bandBad, d3]
  · simp [bandBad, d4]
  · rw [w64 (by omega)]; simp [bandBad, d1, d2, d3, d4]
  subst hb
  refine Cv.cnd.mk (fun c4 => ⟨(), by rw [e3, if_pos c4], trivial⟩) (fun c4 => ?_)
  have e4 : p.check = if settleBad p then 1 else if ruleBad p then 31 else if qtyBad p then 24 else 0 := by
    rw [e3, if_neg (by simp [c4])]
  refine Cv.cnd.mk (fun d6 => ⟨(), ?_, trivial⟩) (fun d6 => ?_)
  · have d6 : ¬ (p.settle.length : Int) = p.months.length := by simpa using d6
    rw [e4, if_pos (by simp [settleBad]; omega)]
  have d6 : p.settle.length = p.months.length := by
    have : (p.settle.length : Int) = p.months.length := by simpa using d6
    omega
  have hne : p.settle ≠ [] := by intro e; rw [e] at d6; simp at d6; omega
  refine ⟨0, rfl, fun j => j ≤ p.settle.length ∧ ∀ k < j, ∀ x, p.settle[k]? = some x → p.low ≤ x ∧ x ≤ p.high, fun j => p.settle.length - j, ⟨by omega, fun k hk => by omega⟩, ?_⟩
  rintro j ⟨g3, g4⟩
  refine cndD (fun hj => ?_) (fun hj => ?_)
  · obtain ⟨m, hm⟩ := getI (l := p.settle) (i := j) (by omega)
    have hmm := List.mem_of_getElem? hm
    refine ⟨true, fun b => b = (decide (m < p.low) || decide (m > p.high)), ⟨⟨by omega, by omega⟩, m, elI hm, cndD (fun c => ⟨true, rfl, ?_, by (repeat' (first | exact trivial | exact rfl | apply And.intro))⟩) (fun c => ⟨⟨by omega, by omega⟩, m, elI hm, _, rfl, ?_, by (repeat' (first | exact trivial | exact rfl | apply And.intro))⟩)⟩, fun b hb => ?_⟩
    · rw [decide_eq_true c]; rfl
    · rw [decide_eq_false c, Bool.false_or]
    · subst hb
      refine Cv.cnd.mk (fun c => ⟨(), ?_, trivial⟩) (fun c => ⟨j + 1, by rw [w64 (by omega)]; rfl, ⟨by omega, fun k hk x hx => ?_⟩, by (first | omega | (dsimp only; omega)), by (repeat' (first | exact trivial | exact rfl | apply And.intro))⟩)
      · have l1 := minL_le hmm
        have l2 := le_maxL hmm
        rw [e4, if_pos (by
          simp only [Bool.or_eq_true, decide_eq_true_eq] at c
          simp only [settleBad, Bool.or_eq_true, decide_eq_true_eq]
          rcases c with c | c
          · left; right; omega
          · right; omega)]
      · rcases Nat.lt_or_ge k j with h | h
        · exact g4 k h x hx
        · obtain rfl : k = j := by omega
          rw [hm] at hx; cases hx
          simp only [Bool.or_eq_false_iff, decide_eq_false_iff_not] at c
          omega
  have hset : settleBad p = false := by
    have all : ∀ x ∈ p.settle, p.low ≤ x ∧ x ≤ p.high := fun x hx => by
      obtain ⟨k, hk⟩ := List.getElem?_of_mem hx
      exact g4 k (by have := (List.getElem?_eq_some_iff.1 hk).1; omega) x hk
    have a1 := all _ (minL_mem hne)
    have a2 := all _ (maxL_mem hne)
    simp only [settleBad, Bool.or_eq_false_iff, decide_eq_false_iff_not]
    omega
  have e5 : p.check = if ruleBad p then 31 else if qtyBad p then 24 else 0 := by
    rw [e4, if_neg (by simp [hset])]
  refine ⟨true, fun b => b = ruleBad p, cndD (fun d1 => ⟨true, rfl, ?_, by (repeat' (first | exact trivial | exact rfl | apply And.intro))⟩) (fun d1 => ⟨_, rfl, ?_, by (repeat' (first | exact trivial | exact rfl | apply And.intro))⟩), fun b hb => ?_⟩
  · simp [ruleBad, d1]
  · simp [ruleBad, d1]
  subst hb
  refine Cv.cnd.mk (fun c6 => ⟨(), by rw [e5, if_pos c6], trivial⟩) (fun c6 => ?_)
  have e6 : p.check = if qtyBad p then 24 else 0 := by rw [e5, if_neg (by simp [c6])]
  refine ⟨true, fun b => b = qtyBad p, cndD (fun d1 => ⟨true, rfl, ?_, by (repeat' (first | exact trivial | exact rfl | apply And.intro))⟩) (fun d1 => cndD (fun d2 => ⟨true, rfl, ?_, by (repeat' (first | exact trivial | exact rfl | apply And.intro))⟩) (fun d2 => cndD (fun d3 => ⟨true, rfl, ?_, by (repeat' (first | exact trivial | exact rfl | apply And.intro))⟩) (fun d3 => cndD (fun d4 => ⟨true, rfl, ?_, by (repeat' (first | exact trivial | exact rfl | apply And.intro))⟩) (fun d4 => cndD (fun d5 => ⟨true, rfl, ?_, by (repeat' (first | exact trivial | exact rfl | apply And.intro))⟩) (fun d5 => ⟨_, rfl, ?_, by (repeat' (first | exact trivial | exact rfl | apply And.intro))⟩))))), fun b hb => ?_⟩
  · simp [qtyBad, d1]
  · simp [qtyBad, d2]
  · simp [qtyBad, d3]
  · simp [qtyBad, d4]
  · simp [qtyBad, d5]
  · simp [qtyBad, d1, d2, d3, d4, d5]
  subst hb
  exact Cv.cnd.mk (fun c7 => ⟨(), by rw [e6, if_pos c7], trivial⟩) (fun c7 => ⟨(), by rw [e6, if_neg (by simp [c7])], trivial⟩)
theorem r5check_ok : r5checkC.ok Try.prog 43 := byr5check (gokc r3prod_ok gok0) vr5check

theorem count_def {p : Prd} (h : p.check = 0) : p.count = p.months.length + p.months.length * (p.months.length - 1) / 2 := by rw [Prd.count, if_pos h]
theorem count_zero {p : Prd} (h : p.check ≠ 0) : p.count = 0 := by rw [Prd.count, if_neg h]
theorem vr5count (p : Prd) (h : r5countC.cnd p) : Vr5count p := by
  have hs : p.small := h
  unfold Vr5count
  simp only [iE_len]
  refine ⟨p, rfl, rfl, rfl, rfl, rfl, rfl, rfl, rfl, rfl, rfl, rfl, hs, fun _ _ => Cv.cnd.mk (fun c => ⟨(), ?_, trivial⟩) (fun c => ⟨trivial, by decide, (), ?_, trivial⟩)⟩
  · rw [count_zero (by simpa using c)]; rfl
  · have c : p.check = 0 := by simpa using c
    have m6 := (check0 c).m6
    have m2 := (check0 c).m2
    rw [count_def c]
    generalize p.months.length = n at *
    have : n = 2 ∨ n = 3 ∨ n = 4 ∨ n = 5 ∨ n = 6 := by omega
    rcases this with rfl | rfl | rfl | rfl | rfl <;> decide
theorem r5count_ok : r5countC.ok Try.prog 19 := byr5count (gokc r5check_ok gok0) vr5count

theorem legs_fin : ∀ n ≤ 6, ∀ a < n, ∀ b < n - 1 - a, legsFrom n (firstOf n a + b) n 0 = ((a : Int), ((a + 1 + b : Nat) : Int), true) ∧ firstOf n a + b < n + n * (n - 1) / 2 ∧ n ≤ firstOf n a + b := by decide
theorem first_fin : ∀ n ≤ 6, firstOf n n = n + n * (n - 1) / 2 := by decide
theorem legs_sp {p : Prd} (h : p.check = 0) {a b : Nat} (ha : a < p.months.length) (hb : b < p.months.length - 1 - a) : p.legs ((firstOf p.months.length a + b : Nat) : Int) = ((a : Int), ((a + 1 + b : Nat) : Int), true) := by
  obtain ⟨h1, h2, h3⟩ := legs_fin _ (check0 h).m6 a ha b hb
  rw [Prd.legs, if_neg (by rw [count_def h]; omega), if_neg (by omega), Int.toNat_natCast]
  exact h1
theorem vr5legs (i : LegI) (h : r5legsC.cnd i) : Vr5legs i := by
  have hs : i.p.small := h
  unfold Vr5legs
  simp only [iE_len]
  refine ⟨i.p, rfl, rfl, rfl, rfl, rfl, rfl, rfl, rfl, rfl, rfl, rfl, hs, fun _ _ => Cv.cnd.mk (fun c => ?_) (fun c => cndD (fun c1 => ?_) (fun c1 => cndD (fun c2 => ?_) (fun c2 => ?_)))⟩
  · rw [Prd.legs, if_pos (by rw [count_zero (by simpa using c)]; omega)]; (repeat' (first | exact rfl | exact trivial | assumption | apply And.intro | (refine fun (_ : Unit) (_ : True) => ?_) | (refine Exists.intro () ?_) | omega | (dsimp only; omega)))
  · rw [Prd.legs, if_pos (.inl c1)]; (repeat' (first | exact rfl | exact trivial | assumption | apply And.intro | (refine fun (_ : Unit) (_ : True) => ?_) | (refine Exists.intro () ?_) | omega | (dsimp only; omega)))
  · have c : i.p.check = 0 := by simpa using c
    rw [Prd.legs, if_neg (by rw [count_def c]; omega), if_pos c2]; (repeat' (first | exact rfl | exact trivial | assumption | apply And.intro | (refine fun (_ : Unit) (_ : True) => ?_) | (refine Exists.intro () ?_) | omega | (dsimp only; omega)))
  · have c : i.p.check = 0 := by simpa using c
    have m6 := (check0 c).m6
    obtain ⟨k, hk⟩ : ∃ k : Nat, i.n = k := ⟨i.n.toNat, by omega⟩
    have sp := fun (a b : Nat) ha hb => legs_sp (p := i.p) c (a := a) (b := b) ha hb
    have fe := first_fin _ m6
    have out : i.p.count ≤ k → i.p.legs (k : Int) = (0, 0, false) := fun e => by rw [Prd.legs, if_pos (by omega)]
    rw [count_def c, ← fe] at out
    rw [hk] at c2 ⊢
    generalize hn : i.p.months.length = n at *
    refine ⟨0, rfl, rfl, fun m => m ≤ n ∧ firstOf n m ≤ k, fun m => n - m, ⟨by omega, by show n ≤ k; omega⟩, ?_⟩
    rintro m ⟨g1, g2⟩
    have hf := first_bd m6 g1
    refine cndD (fun c4 => ?_) (fun c4 => ?_)
    · refine ⟨(m, 0), rfl, rfl, by rw [w64 (by omega)]; simp, fun x => x.1 = m ∧ x.2 ≤ n - 1 - m ∧ firstOf n m + x.2 ≤ k, fun x => n - 1 - m - x.2, ⟨rfl, by (first | omega | (dsimp only; omega)), by (first | omega | (dsimp only; omega))⟩, ?_⟩
      rintro ⟨a, b⟩ ⟨g3, g4, g5⟩
      dsimp only at g3 g4 g5 ⊢
      subst g3
      refine cndD (fun c5 => Cv.cnd.mk (fun e => ?_) (fun e => ?_)) (fun c5 => ?_)
      · have e : ((firstOf n a + b : Nat) : Int) = (k : Int) := by simpa using e
        have := sp a b (by omega) (by omega)
        rw [e] at this
        rw [this]; (repeat' (first | exact rfl | exact trivial | assumption | apply And.intro | (refine fun (_ : Unit) (_ : True) => ?_) | (refine Exists.intro () ?_) | omega | (dsimp only; omega)))
      · have e : ¬ ((firstOf n a + b : Nat) : Int) = (k : Int) := by simpa using e
        refine ⟨(a, b + 1), ?_, rfl, ?_, ⟨rfl, by (first | omega | (dsimp only; omega)), by (first | omega | (dsimp only; omega))⟩, by (first | omega | (dsimp only; omega)), by (repeat' (first | exact trivial | exact rfl | apply And.intro))⟩
        · rw [w64 (by omega)]; dsimp only; omega
        · rw [w64 (by omega)]; dsimp only; omega
      · refine ⟨a + 1, ?_, by rw [w64 (by omega)]; rfl, ⟨by omega, ?_⟩, by (first | omega | (dsimp only; omega)), by (repeat' (first | exact trivial | exact rfl | apply And.intro))⟩
        · rw [firstOf]; omega
        · rw [firstOf]; omega
    · obtain rfl : m = n := by omega
      rw [out g2]; (repeat' (first | exact rfl | exact trivial | assumption | apply And.intro | (refine fun (_ : Unit) (_ : True) => ?_) | (refine Exists.intro () ?_) | omega | (dsimp only; omega)))
theorem r5legs_ok : r5legsC.ok Try.prog 20 := byr5legs (gokc r5check_ok gok0) vr5legs

theorem legs_single {p : Prd} (h : p.check = 0) {i : Int} (h0 : 0 ≤ i) (h1 : i < p.count) : (p.legs i).2.2 = decide ((p.months.length : Int) ≤ i) := by
  by_cases hl : i < p.months.length
  · rw [Prd.legs, if_neg (by omega), if_pos hl, decide_eq_false (by omega)]
  · have m6 := (check0 h).m6
    rw [decide_eq_true (by omega), Prd.legs, if_neg (by omega), if_neg hl]
    rw [count_def h] at h1
    obtain ⟨k, rfl⟩ : ∃ k : Nat, i = k := ⟨i.toNat, by omega⟩
    have fin : ∀ n ≤ 6, ∀ k < n + n * (n - 1) / 2, n ≤ k → (legsFrom n k n 0).2.2 = true := by decide
    exact fin _ m6 k (by omega) (by omega)
theorem vr5price (i : SprI) (h : r5priceC.cnd i) : Vr5price i := by
  have hs : i.p.small := h
  unfold Vr5price
  refine ⟨i.p, rfl, rfl, rfl, rfl, rfl, rfl, rfl, rfl, rfl, rfl, rfl, hs, fun _ _ => Cv.cnd.mk (fun c => ⟨(), ?_, trivial⟩) (fun c => ?_)⟩
  · rw [Prd.price, if_pos (count_zero (by simpa using c))]
  have c : i.p.check = 0 := by simpa using c
  have ok := check0 c
  have m2 := ok.m2
  have hc := count_def c
  have hcz : ¬ i.p.count = 0 := by omega
  have t1 := ok.t1
  have b1 := ok.b1
  have b2 := ok.b2
  have b3 := ok.b3
  have b4 := ok.b4
  have b5 := ok.b5
  refine ⟨true, fun b => b = (decide (i.a < 0) || decide ((i.p.count : Int) ≤ i.a)), cndD (fun d => ⟨true, rfl, by rw [decide_eq_true d]; rfl, by (repeat' (first | exact trivial | exact rfl | apply And.intro))⟩) (fun d => ⟨i.p, rfl, rfl, rfl, rfl, rfl, rfl, rfl, rfl, rfl, rfl, rfl, hs, fun _ _ => ⟨_, rfl, by rw [decide_eq_false d]; rfl, by (repeat' (first | exact trivial | exact rfl | apply And.intro))⟩⟩), fun b hb => ?_⟩
  subst hb
  refine Cv.cnd.mk (fun d => ⟨(), ?_, trivial⟩) (fun d => ⟨rfl, by omega, Cv.cnd.mk (fun e => ⟨(), ?_, trivial⟩) (fun e => ?_)⟩)
  · simp only [Bool.or_eq_true, decide_eq_true_eq] at d
    rw [Prd.price, if_neg hcz, if_pos d]
  · simp only [Bool.or_eq_false_iff, decide_eq_false_iff_not] at d
    rw [Prd.price, if_neg hcz, if_neg (by omega), if_pos (show offB i.p.tick i.b = true from e)]
  simp only [Bool.or_eq_false_iff, decide_eq_false_iff_not] at d
  have hl := legs_single c (i := i.a) (by omega) (by omega)
  have ep : i.p.price i.a i.b = if i.b < (if (i.p.months.length : Int) ≤ i.a then -i.p.wide else i.p.low) ∨ (if (i.p.months.length : Int) ≤ i.a then i.p.wide else i.p.high) < i.b then 23 else 0 := by
    rw [Prd.price, if_neg hcz, if_neg (by omega), if_neg (by rw [show offB i.p.tick i.b = false from e]; decide)]
  refine ⟨⟨i.p, i.a⟩, rfl, rfl, rfl, rfl, rfl, rfl, rfl, rfl, rfl, rfl, rfl, rfl, hs, fun _ _ => ?_⟩
  dsimp only
  rw [hl, ep, w64 (x := 0 - i.p.wide) (by omega)]
  clear ep hl
  refine ⟨true, fun b => b = decide (i.b < (if (i.p.months.length : Int) ≤ i.a then -i.p.wide else i.p.low) ∨ (if (i.p.months.length : Int) ≤ i.a then i.p.wide else i.p.high) < i.b), cndD (fun s => ?_) (fun s => ?_), fun b hb => ?_⟩
  · rw [if_pos s, if_pos s, decide_eq_true s]
    refine cndD (fun x => ⟨true, rfl, (decide_eq_true (by omega)).symm, by (repeat' (first | exact trivial | exact rfl | apply And.intro))⟩) (fun x => cndD (fun y => ⟨true, rfl, (decide_eq_true (by omega)).symm, by (repeat' (first | exact trivial | exact rfl | apply And.intro))⟩) (fun y => Cv.cnd.mk (fun z => absurd z (by decide)) (fun _ => ⟨false, rfl, (decide_eq_false (by omega)).symm, by (repeat' (first | exact trivial | exact rfl | apply And.intro))⟩)))
  · rw [if_neg s, if_neg s, decide_eq_false s]
    refine Cv.cnd.mk (fun _ => cndD (fun x => ⟨true, rfl, (decide_eq_true (by omega)).symm, by (repeat' (first | exact trivial | exact rfl | apply And.intro))⟩) (fun x => ⟨_, rfl, ?_, by (repeat' (first | exact trivial | exact rfl | apply And.intro))⟩)) (fun z => absurd z (by decide))
    congr 1; simp only [eq_iff_iff]; omega
  · subst hb
    exact cndD (fun x => ⟨(), by rw [if_pos x], trivial⟩) (fun x => ⟨(), by rw [if_neg x], trivial⟩)
theorem r5price_ok : r5priceC.ok Try.prog 21 := byr5price (gokc r5check_ok (gokc r5count_ok (gokc r5legs_ok gok0))) vr5price

/-! ### A right product -/
theorem kTick_bd (x : Prd) : 1 ≤ kTick x ∧ kTick x ≤ 10 := by
  have := within_bd (n := x.tick) (lo := 0) (hi := 9) (by omega)
  rw [kTick]; omega
theorem kN_bd (x : Prd) : 2 ≤ kN x ∧ kN x ≤ 5 := by
  have := within_bd (n := (x.months.length : Int)) (lo := 0) (hi := 3) (by omega)
  rw [kN]; omega
theorem mul_bd {a b m n : Int} (ha : 0 ≤ a ∧ a ≤ m) (hb : 0 ≤ b ∧ b ≤ n) : 0 ≤ a * b ∧ a * b ≤ m * n := by
  refine ⟨Int.mul_nonneg ha.1 hb.1, ?_⟩
  exact Int.le_trans (Int.mul_le_mul_of_nonneg_right ha.2 hb.1) (Int.mul_le_mul_of_nonneg_left hb.2 (by omega))
theorem kMonths_succ (j : Nat) : iE (kMonths (j + 1)) = iE (kMonths j) ++ [[D.v (.int .i64 (10 * (j : Int) + 3))]] := by
  rw [kMonths, List.range_succ, List.map_append, iE, List.map_append]; rfl
theorem kSettle_succ (t : Int) (j : Nat) : iE (kSettle t (j + 1)) = iE (kSettle t j) ++ [[D.v (.int .i64 (t * (10 + (j : Int))))]] := by
  rw [kSettle, List.range_succ, List.map_append, iE, List.map_append]; rfl
theorem kMonths_len (j : Nat) : (kMonths j).length = j := by simp [kMonths]
theorem kSettle_len (t : Int) (j : Nat) : (kSettle t j).length = j := by simp [kSettle]

theorem vkprod (x : Prd) (h : kprodC.cnd x) : Vkprod x := by
  obtain ⟨h1, h2, h3, h4, h5, h6, h7⟩ : x.raw := h
  have hw : -1000000 ≤ (0 : Int) := by decide
  have bt := within_bd (n := x.tick) (lo := 0) (hi := 9) (by omega)
  have bw := within_bd (n := x.wide) (lo := 0) (hi := 60) (by omega)
  have br := within_bd (n := x.rule) (lo := 0) (hi := 2) (by omega)
  have bl := within_bd (n := x.least) (lo := 0) (hi := 4) (by omega)
  have bn := within_bd (n := (x.months.length : Int)) (lo := 0) (hi := 3) (by omega)
  have kt := kTick_bd x
  have kn := kN_bd x
  have w1 : IntKind.i64.wrap (1 + within x.tick 0 9) = kTick x := w64 (by omega)
  have w2 : IntKind.i64.wrap (-20 * IntKind.i64.wrap (1 + within x.tick 0 9)) = -20 * kTick x := by rw [w1]; exact w64 (by omega)
  have w3 : IntKind.i64.wrap (100 * IntKind.i64.wrap (1 + within x.tick 0 9)) = 100 * kTick x := by rw [w1]; exact w64 (by omega)
  have w4 : IntKind.i64.wrap (1 + within x.rule 0 2) = 1 + within x.rule 0 2 := w64 (by omega)
  have w5 : IntKind.i64.wrap (1 + within x.least 0 4) = 1 + within x.least 0 4 := w64 (by omega)
  have w6 : IntKind.i64.wrap (2 + within x.months.length 0 3) = kN x := w64 (by omega)
  have mb := mul_bd (a := kTick x) (b := 5 + within x.wide 0 60) (m := 10) (n := 65) (by omega) (by omega)
  have w7 : IntKind.i64.wrap (IntKind.i64.wrap (1 + within x.tick 0 9) * IntKind.i64.wrap (5 + within x.wide 0 60)) = kTick x * (5 + within x.wide 0 60) := by
    rw [w1, w64 (x := 5 + within x.wide 0 60) (by omega)]; exact w64 (by omega)
  unfold Vkprod
  simp only [iE_len]
  refine ⟨⟨x.months.length, 0, 3⟩, rfl, rfl, rfl, ⟨⟨by dsimp only; omega, by dsimp only; omega⟩, by dsimp only; omega, by dsimp only; omega, by dsimp only; omega⟩, fun _ _ => ⟨⟨x.tick, 0, 9⟩, rfl, rfl, rfl, ⟨h1, by dsimp only; omega, by dsimp only; omega, by dsimp only; omega⟩, fun _ _ => ?_⟩⟩
  dsimp only
  refine ⟨(), fun _ => True, ?_, fun _ _ => ?_⟩
  · repeat' (first | exact trivial | exact rfl | exact w1.symm | exact w2.symm | exact w3.symm | exact w4.symm | exact w5.symm | apply And.intro | refine ⟨⟨x.rule, 0, 2⟩, rfl, rfl, rfl, ⟨h3, by dsimp only; omega, by dsimp only; omega, by dsimp only; omega⟩, fun _ _ => ?_⟩ | refine ⟨⟨x.top, 0, 9⟩, rfl, rfl, rfl, ⟨h4, by dsimp only; omega, by dsimp only; omega, by dsimp only; omega⟩, fun _ _ => ?_⟩ | refine ⟨⟨x.least, 0, 4⟩, rfl, rfl, rfl, ⟨h5, by dsimp only; omega, by dsimp only; omega, by dsimp only; omega⟩, fun _ _ => ?_⟩ | refine ⟨⟨x.part, 0, 100⟩, rfl, rfl, rfl, ⟨h6, by dsimp only; omega, by dsimp only; omega, by dsimp only; omega⟩, fun _ _ => ?_⟩ | refine ⟨(), ?_⟩)
  · refine ⟨⟨x.wide, 0, 60⟩, rfl, rfl, rfl, ⟨h2, by dsimp only; omega, by dsimp only; omega, by dsimp only; omega⟩, fun _ _ => ?_⟩
    dsimp only
    rw [w7, w6]
    refine ⟨0, by (first | exact rfl | exact trivial), by (first | exact rfl | exact trivial), by (first | exact rfl | exact trivial), by (first | exact rfl | exact trivial), by (first | exact rfl | exact trivial), by (first | exact rfl | exact trivial), by (first | exact rfl | exact trivial), by (first | exact rfl | exact trivial), by (first | exact rfl | exact trivial), by (first | exact rfl | exact trivial), by (first | exact rfl | exact trivial), by (first | exact rfl | exact trivial), fun j => j ≤ (kN x).toNat, fun j => (kN x).toNat - j, by omega, ?_⟩
    intro j hj
    rw [kMonths_len, kSettle_len]
    refine cndD (fun c => ⟨by omega, by omega, j + 1, by rw [w64 (by omega)]; rfl, by (first | exact rfl | exact trivial), by (first | exact rfl | exact trivial), by (first | exact rfl | exact trivial), by (first | exact rfl | exact trivial), by (first | exact rfl | exact trivial), by (first | exact rfl | exact trivial), by (first | exact rfl | exact trivial), by (first | exact rfl | exact trivial), by (first | exact rfl | exact trivial), ?_, ?_, by (first | omega | (dsimp only; omega)), by (first | omega | (dsimp only; omega)), by (repeat' (first | exact trivial | exact rfl | apply And.intro))⟩) (fun c => ⟨(), ?_⟩)
    · rw [kMonths_succ, w64 (x := 10 * (j : Int)) (by omega), w64 (by omega)]
    · have mj := mul_bd (a := kTick x) (b := 10 + (j : Int)) (m := 10) (n := 20) (by omega) (by omega)
      rw [kSettle_succ, w1, w64 (x := 10 + (j : Int)) (by omega), w64 (by omega)]
    · have e : (kN x).toNat = j := by omega
      rw [e]; (repeat' (first | exact trivial | exact rfl | apply And.intro))
theorem kprod_ok : kprodC.ok Try.prog 14 := bykprod (gokc within_ok gok0) vkprod

end Sx

namespace Sx
set_option linter.unusedVariables false
set_option maxRecDepth 100000
open Go Cv Go.Proofs

structure Cmd where
  kind : Int
  id : Int
  inst : Int
  side : Int
  price : Int
  qty : Int
  least : Int
  time : Int
  label : List UInt8
  deriving DecidableEq
@[reducible] def Cmd.cells (c : Cmd) : List V := [i64V c.kind, i64V c.id, i64V c.inst, i64V c.side, i64V c.price, i64V c.qty, i64V c.least, i64V c.time, sV c.label]
@[reducible] def cmdV (c : Cmd) : V := .agg c.cells
def cmdE (c : Cmd) : List D := [.v (.int .i64 c.kind), .v (.int .i64 c.id), .v (.int .i64 c.inst), .v (.int .i64 c.side), .v (.int .i64 c.price), .v (.int .i64 c.qty), .v (.int .i64 c.least), .v (.int .i64 c.time), .v (.string (sb c.label))]
def cmd0 : Cmd := ⟨0, 0, 0, 0, 0, 0, 0, 0, []⟩
@[reducible] def Cmd.raw (c : Cmd) : Prop := i64r c.kind ∧ i64r c.id ∧ i64r c.inst ∧ i64r c.side ∧ i64r c.price ∧ i64r c.qty ∧ i64r c.least ∧ i64r c.time
structure TmI where
  p : Prd
  c : Cmd
  i : Int
def tmKind (c : Cmd) : Int := if 4 < 1 + within c.kind 0 8 then 1 else 1 + within c.kind 0 8
/-- What all commands have. -/
def tmHead (t : TmI) : Cmd := ⟨tmKind t.c, 1 + within t.c.id 0 30, within t.c.inst 0 (t.p.count - 1), 1 + within t.c.side 0 1, t.p.tick * within t.c.price 0 9, 1 + within t.c.qty 0 11, 0, 0, []⟩
def tmTime (c : Cmd) : Int := if c.time.tmod 5 = 3 then 3 else if c.time.tmod 5 = 2 then 2 else 1
def tmLeast (c : Cmd) (q : Int) : Int := if c.least.tmod 4 = 1 then within c.least 0 q else 0
def tame (t : TmI) : Cmd :=
  let h := tmHead t
  if h.kind = 1 then { h with id := t.i + 1, time := tmTime t.c, least := tmLeast t.c h.qty, price := if (t.p.legs h.inst).2.2 = true then h.price - 4 * t.p.tick else h.price + 8 * t.p.tick }
  else { h with price := if h.kind = 4 then h.price + 5 * t.p.tick else h.price, side := 0, inst := 0 }
def tameC : Con := con1 TmI (fun t => [prdV t.p, cmdV t.c, i64V t.i]) (fun _ => []) (fun t => t.p.check = 0 ∧ t.p.small ∧ t.c.raw ∧ 0 ≤ t.i ∧ t.i ≤ 1000000) (fun t => cmdV (tame t)) (fun _ => [])
def cj (k : Nat) : Nat × SAnn := (k, { ι := Cmd, slots := fun _ => [(7, .nm 0 0)], slots0 := fun _ => [(7, .nm 0 0)], rows0 := fun c => [.cells c.cells 46], rows := fun c => [.cells c.cells 46] })
def tameJ : List (Nat × SAnn) := [cj 14, cj 54, cj 62, cj 70]

/-! ### Books that are refused -/
structure AbI where
  x : Prd
  l : List Cmd
def abCmd (i : AbI) (j : Nat) : Cmd := tame ⟨kprod i.x, i.l.getD j cmd0, j⟩
def abStep (i : AbI) (s : MSt) (j : Nat) : MSt := if (abCmd i j).kind = 1 then (MSt.addF ⟨s, (abCmd i j).inst, (abCmd i j).id, decide ((abCmd i j).side = 2), (abCmd i j).price, (abCmd i j).qty⟩).1 else s
def abS (i : AbI) (j : Nat) : MSt := (List.range j).foldl (abStep i) (state0 (kprod i.x))
def abT (i : AbI) : List Top := (abS i (min i.l.length 30)).tops
def Top.pr (t : Top) (s : Nat) : Int := if s = 0 then t.p1 else t.p2
def Top.hs (t : Top) (s : Nat) : Bool := if s = 0 then t.has1 else t.has2
def crossAt (T : List Top) (k : Nat) : Bool := (T.getD k top0).has1 && ((T.getD k top0).has2 && decide ((T.getD k top0).p1 ≥ (T.getD k top0).p2))
/-- Three of a spread and its months could trade, from this side of the near one. -/
def meetSd (p : Prd) (T : List Top) (k s : Nat) : Bool :=
  let a := T.getD (p.legs k).1.toNat top0
  let b := T.getD (p.legs k).2.1.toNat top0
  let c := T.getD k top0
  a.hs s && b.hs (1 - s) && c.hs (1 - s) && (if s = 0 then decide (a.pr s - b.pr (1 - s) ≥ c.pr (1 - s)) else decide (a.pr s - b.pr (1 - s) ≤ c.pr (1 - s))) &&
    (decide (p.price k (a.pr s - b.pr (1 - s)) = 0) || decide (p.price (p.legs k).1 (c.pr (1 - s) + b.pr (1 - s)) = 0) || decide (p.price (p.legs k).2.1 (a.pr s - c.pr (1 - s)) = 0))
def meetAt (p : Prd) (T : List Top) (k : Nat) : Bool := (p.legs k).2.2 && (meetSd p T k 0 || meetSd p T k 1)
def abC : Con := con1 AbI (fun i => [prdV i.x, roV 9 (i.l.map cmdE)]) (fun _ => []) (fun i => i.x.raw ∧ (∀ c ∈ i.l, c.raw) ∧ i.l.length ≤ 9223372036854775807) (fun _ => boolV true) (fun _ => [])
def abA (i : AbI) : List SAnn := [
  { ι := Nat, slots := fun j => [(6, .nm 0 0), (8, i64V j)], rows := fun j => [StateR (abS i j)] },
  { ι := Nat, slots := fun k => [(11, boolV ((List.range k).any (crossAt (abT i)))), (12, boolV ((List.range k).any (meetAt (kprod i.x) (abT i)))), (13, i64V k)], rows := fun _ => [] },
  { ι := Unit, slots := fun _ => [], rows := fun _ => [], un := 4 }]
structure B2 where
  a : Bool
  b : Bool
def abJ : List (Nat × SAnn) := [(24, bj 45), (72, bj 11), (15, { ι := B2, slots := fun x => [(11, boolV x.a), (12, boolV x.b)], rows := fun _ => [] }), (100, bj 157), (108, bj 22), (112, bj 23), (23, bj 12)]

end Sx

namespace Sx
set_option linter.unusedVariables false
set_option maxRecDepth 100000
open Go Cv Go.Proofs
@[reducible] def Vtamer0  : AObj := Sx.AObj.cells (Sx.V.agg [V.d (D.v (.int .i64 0)), V.d (D.v (.int .i64 0)), V.d (D.v (.int .i64 0)), V.d (D.v (.int .i64 0)), V.d (D.v (.int .i64 0)), V.d (D.v (.int .i64 0)), V.d (D.v (.int .i64 0)), V.d (D.v (.int .i64 0)), V.d (D.v (Value.string (ByteArray.mk #[])))]).cl (46 : Nat)
@[reducible] def Vtamer1 (t : TmI) : AObj := Sx.AObj.cells [V.d (D.v (.int .i64 t.c.kind)), V.d (D.v (.int .i64 t.c.id)), V.d (D.v (.int .i64 t.c.inst)), V.d (D.v (.int .i64 t.c.side)), V.d (D.v (.int .i64 t.c.price)), V.d (D.v (.int .i64 t.c.qty)), V.d (D.v (.int .i64 t.c.least)), V.d (D.v (.int .i64 t.c.time)), V.d (D.v (Value.string (sb t.c.label)))] (46 : Nat)
@[reducible] def Vtamer2 (t : TmI) : AObj := Sx.AObj.cells [V.d (D.v (Value.string (sb t.p.code))), V.own (0 : Nat), V.d (D.v (.int .i64 t.p.tick)), V.d (D.v (.int .i64 t.p.low)), V.d (D.v (.int .i64 t.p.high)), V.d (D.v (.int .i64 t.p.wide)), V.d (D.v (.int .i64 t.p.rule)), V.d (D.v (.int .i64 t.p.top)), V.d (D.v (.int .i64 t.p.least)), V.d (D.v (.int .i64 t.p.part)), V.own ((0 : Nat) + (1 : Nat))] (25 : Nat)
def Vtame (t : TmI) : Prop :=
  ∃ (i : WiI), i.n = t.c.kind ∧ i.lo = (0 : Int) ∧ i.hi = (8 : Int) ∧ (((-9223372036854775808 : Int) ≤ i.n ∧ i.n ≤ (9223372036854775807 : Int)) ∧ (-1000000 : Int) ≤ i.lo ∧ i.lo ≤ i.hi ∧ i.hi ≤ (1000000 : Int)) ∧ ∀ (o : Unit), True → ∃ (i_1 : WiI), i_1.n = t.c.id ∧ i_1.lo = (0 : Int) ∧ i_1.hi = (30 : Int) ∧ (((-9223372036854775808 : Int) ≤ i_1.n ∧ i_1.n ≤ (9223372036854775807 : Int)) ∧ (-1000000 : Int) ≤ i_1.lo ∧ i_1.lo ≤ i_1.hi ∧ i_1.hi ≤ (1000000 : Int)) ∧ ∀ (o : Unit), True → ∃ (i0 : Cmd), i0.kind = IntKind.i64.wrap ((1 : Int) + within i.n i.lo i.hi) ∧ i0.id = IntKind.i64.wrap ((1 : Int) + within i_1.n i_1.lo i_1.hi) ∧ i0.inst = (0 : Int) ∧ i0.side = (0 : Int) ∧ i0.price = (0 : Int) ∧ i0.qty = (0 : Int) ∧ i0.least = (0 : Int) ∧ i0.time = (0 : Int) ∧ sb i0.label = ByteArray.mk #[] ∧ ∃ (I : Cmd → Prop), cnd (decide (i0.kind > (4 : Int))) (∃ (i' : Cmd), i'.kind = (1 : Int) ∧ i'.id = i0.id ∧ i'.inst = i0.inst ∧ i'.side = i0.side ∧ i'.price = i0.price ∧ i'.qty = i0.qty ∧ i'.least = i0.least ∧ i'.time = i0.time ∧ sb i'.label = sb i0.label ∧ I i' ∧ Vtamer0 = Vtamer0 ∧ Vtamer1 t = Vtamer1 t ∧ Vtamer2 t = Vtamer2 t ∧ AObj.fro (1 : Nat) (iE t.p.settle) = AObj.fro (1 : Nat) (iE t.p.settle) ∧ AObj.fro (1 : Nat) (iE t.p.months) = AObj.fro (1 : Nat) (iE t.p.months)) (∃ (i' : Cmd), i'.kind = i0.kind ∧ i'.id = i0.id ∧ i'.inst = i0.inst ∧ i'.side = i0.side ∧ i'.price = i0.price ∧ i'.qty = i0.qty ∧ i'.least = i0.least ∧ i'.time = i0.time ∧ sb i'.label = sb i0.label ∧ I i' ∧ Vtamer0 = Vtamer0 ∧ Vtamer1 t = Vtamer1 t ∧ Vtamer2 t = Vtamer2 t ∧ AObj.fro (1 : Nat) (iE t.p.settle) = AObj.fro (1 : Nat) (iE t.p.settle) ∧ AObj.fro (1 : Nat) (iE t.p.months) = AObj.fro (1 : Nat) (iE t.p.months)) ∧ ∀ (i : Cmd), I i → ∃ (i_2 : Prd), sb i_2.code = sb t.p.code ∧ iE i_2.months = iE t.p.months ∧ i_2.tick = t.p.tick ∧ i_2.low = t.p.low ∧ i_2.high = t.p.high ∧ i_2.wide = t.p.wide ∧ i_2.rule = t.p.rule ∧ i_2.top = t.p.top ∧ i_2.least = t.p.least ∧ i_2.part = t.p.part ∧ iE i_2.settle = iE t.p.settle ∧ (i_2.code.length ≤ (1099511627776 : Nat) ∧ i_2.months.length ≤ (1099511627776 : Nat) ∧ i_2.settle.length ≤ (1099511627776 : Nat)) ∧ ∀ (o : Unit), True → ∃ (i_3 : WiI), i_3.n = t.c.inst ∧ i_3.lo = (0 : Int) ∧ i_3.hi = IntKind.i64.wrap ((↑i_2.count : Int) - (1 : Int)) ∧ (((-9223372036854775808 : Int) ≤ i_3.n ∧ i_3.n ≤ (9223372036854775807 : Int)) ∧ (-1000000 : Int) ≤ i_3.lo ∧ i_3.lo ≤ i_3.hi ∧ i_3.hi ≤ (1000000 : Int)) ∧ ∀ (o : Unit), True → ∃ (i_4 : WiI), i_4.n = t.c.side ∧ i_4.lo = (0 : Int) ∧ i_4.hi = (1 : Int) ∧ (((-9223372036854775808 : Int) ≤ i_4.n ∧ i_4.n ≤ (9223372036854775807 : Int)) ∧ (-1000000 : Int) ≤ i_4.lo ∧ i_4.lo ≤ i_4.hi ∧ i_4.hi ≤ (1000000 : Int)) ∧ ∀ (o : Unit), True → ∃ (i_5 : WiI), i_5.n = t.c.qty ∧ i_5.lo = (0 : Int) ∧ i_5.hi = (11 : Int) ∧ (((-9223372036854775808 : Int) ≤ i_5.n ∧ i_5.n ≤ (9223372036854775807 : Int)) ∧ (-1000000 : Int) ≤ i_5.lo ∧ i_5.lo ≤ i_5.hi ∧ i_5.hi ≤ (1000000 : Int)) ∧ ∀ (o : Unit), True → ∃ (i_6 : WiI), i_6.n = t.c.price ∧ i_6.lo = (0 : Int) ∧ i_6.hi = (9 : Int) ∧ (((-9223372036854775808 : Int) ≤ i_6.n ∧ i_6.n ≤ (9223372036854775807 : Int)) ∧ (-1000000 : Int) ≤ i_6.lo ∧ i_6.lo ≤ i_6.hi ∧ i_6.hi ≤ (1000000 : Int)) ∧ ∀ (o : Unit), True → t.p.tick = t.p.tick ∧ cnd (i.kind == (1 : Int)) (∃ (i0 : Cmd), i0.kind = i.kind ∧ i0.id = IntKind.i64.wrap (t.i + (1 : Int)) ∧ i0.inst = within i_3.n i_3.lo i_3.hi ∧ i0.side = IntKind.i64.wrap ((1 : Int) + within i_4.n i_4.lo i_4.hi) ∧ i0.price = IntKind.i64.wrap (t.p.tick * within i_6.n i_6.lo i_6.hi) ∧ i0.qty = IntKind.i64.wrap ((1 : Int) + within i_5.n i_5.lo i_5.hi) ∧ i0.least = i.least ∧ i0.time = (1 : Int) ∧ sb i0.label = sb i.label ∧ ∃ (I : Cmd → Prop), (IntKind.i64 = IntKind.i64 ∧ (5 : Int) ≠ (0 : Int) ∧ cnd (t.c.time.tmod (5 : Int) == (2 : Int)) (∃ (i' : Cmd), i'.kind = i0.kind ∧ i'.id = i0.id ∧ i'.inst = i0.inst ∧ i'.side = i0.side ∧ i'.price = i0.price ∧ i'.qty = i0.qty ∧ i'.least = i0.least ∧ i'.time = (2 : Int) ∧ sb i'.label = sb i0.label ∧ I i' ∧ Vtamer0 = Vtamer0 ∧ Vtamer1 t = Vtamer1 t ∧ Vtamer2 t = Vtamer2 t ∧ AObj.fro (1 : Nat) (iE t.p.settle) = AObj.fro (1 : Nat) (iE t.p.settle) ∧ AObj.fro (1 : Nat) (iE t.p.months) = AObj.fro (1 : Nat) (iE t.p.months)) (∃ (i' : Cmd), i'.kind = i0.kind ∧ i'.id = i0.id ∧ i'.inst = i0.inst ∧ i'.side = i0.side ∧ i'.price = i0.price ∧ i'.qty = i0.qty ∧ i'.least = i0.least ∧ i'.time = i0.time ∧ sb i'.label = sb i0.label ∧ I i' ∧ Vtamer0 = Vtamer0 ∧ Vtamer1 t = Vtamer1 t ∧ Vtamer2 t = Vtamer2 t ∧ AObj.fro (1 : Nat) (iE t.p.settle) = AObj.fro (1 : Nat) (iE t.p.settle) ∧ AObj.fro (1 : Nat) (iE t.p.months) = AObj.fro (1 : Nat) (iE t.p.months))) ∧ ∀ (i : Cmd), I i → ∃ (i0 : Cmd), i0.kind = i.kind ∧ i0.id = i.id ∧ i0.inst = i.inst ∧ i0.side = i.side ∧ i0.price = i.price ∧ i0.qty = i.qty ∧ i0.least = i.least ∧ i0.time = i.time ∧ sb i0.label = sb i.label ∧ ∃ (I : Cmd → Prop), (IntKind.i64 = IntKind.i64 ∧ (5 : Int) ≠ (0 : Int) ∧ cnd (t.c.time.tmod (5 : Int) == (3 : Int)) (∃ (i' : Cmd), i'.kind = i0.kind ∧ i'.id = i0.id ∧ i'.inst = i0.inst ∧ i'.side = i0.side ∧ i'.price = i0.price ∧ i'.qty = i0.qty ∧ i'.least = i0.least ∧ i'.time = (3 : Int) ∧ sb i'.label = sb i0.label ∧ I i' ∧ Vtamer0 = Vtamer0 ∧ Vtamer1 t = Vtamer1 t ∧ Vtamer2 t = Vtamer2 t ∧ AObj.fro (1 : Nat) (iE t.p.settle) = AObj.fro (1 : Nat) (iE t.p.settle) ∧ AObj.fro (1 : Nat) (iE t.p.months) = AObj.fro (1 : Nat) (iE t.p.months)) (∃ (i' : Cmd), i'.kind = i0.kind ∧ i'.id = i0.id ∧ i'.inst = i0.inst ∧ i'.side = i0.side ∧ i'.price = i0.price ∧ i'.qty = i0.qty ∧ i'.least = i0.least ∧ i'.time = i0.time ∧ sb i'.label = sb i0.label ∧ I i' ∧ Vtamer0 = Vtamer0 ∧ Vtamer1 t = Vtamer1 t ∧ Vtamer2 t = Vtamer2 t ∧ AObj.fro (1 : Nat) (iE t.p.settle) = AObj.fro (1 : Nat) (iE t.p.settle) ∧ AObj.fro (1 : Nat) (iE t.p.months) = AObj.fro (1 : Nat) (iE t.p.months))) ∧ ∀ (i : Cmd), I i → ∃ (i0 : Cmd), i0.kind = i.kind ∧ i0.id = i.id ∧ i0.inst = i.inst ∧ i0.side = i.side ∧ i0.price = i.price ∧ i0.qty = i.qty ∧ i0.least = i.least ∧ i0.time = i.time ∧ sb i0.label = sb i.label ∧ ∃ (I : Cmd → Prop), (IntKind.i64 = IntKind.i64 ∧ (4 : Int) ≠ (0 : Int) ∧ cnd (t.c.least.tmod (4 : Int) == (1 : Int)) (∃ (i : WiI), i.n = t.c.least ∧ i.lo = (0 : Int) ∧ i.hi = i0.qty ∧ (((-9223372036854775808 : Int) ≤ i.n ∧ i.n ≤ (9223372036854775807 : Int)) ∧ (-1000000 : Int) ≤ i.lo ∧ i.lo ≤ i.hi ∧ i.hi ≤ (1000000 : Int)) ∧ ∀ (o : Unit), True → ∃ (i' : Cmd), i'.kind = i0.kind ∧ i'.id = i0.id ∧ i'.inst = i0.inst ∧ i'.side = i0.side ∧ i'.price = i0.price ∧ i'.qty = i0.qty ∧ i'.least = within i.n i.lo i.hi ∧ i'.time = i0.time ∧ sb i'.label = sb i0.label ∧ I i' ∧ Vtamer0 = Vtamer0 ∧ Vtamer1 t = Vtamer1 t ∧ Vtamer2 t = Vtamer2 t ∧ AObj.fro (1 : Nat) (iE t.p.settle) = AObj.fro (1 : Nat) (iE t.p.settle) ∧ AObj.fro (1 : Nat) (iE t.p.months) = AObj.fro (1 : Nat) (iE t.p.months)) (∃ (i' : Cmd), i'.kind = i0.kind ∧ i'.id = i0.id ∧ i'.inst = i0.inst ∧ i'.side = i0.side ∧ i'.price = i0.price ∧ i'.qty = i0.qty ∧ i'.least = i0.least ∧ i'.time = i0.time ∧ sb i'.label = sb i0.label ∧ I i' ∧ Vtamer0 = Vtamer0 ∧ Vtamer1 t = Vtamer1 t ∧ Vtamer2 t = Vtamer2 t ∧ AObj.fro (1 : Nat) (iE t.p.settle) = AObj.fro (1 : Nat) (iE t.p.settle) ∧ AObj.fro (1 : Nat) (iE t.p.months) = AObj.fro (1 : Nat) (iE t.p.months))) ∧ ∀ (i : Cmd), I i → ∃ (i_7 : LegI), sb i_7.p.code = sb t.p.code ∧ iE i_7.p.months = iE t.p.months ∧ i_7.p.tick = t.p.tick ∧ i_7.p.low = t.p.low ∧ i_7.p.high = t.p.high ∧ i_7.p.wide = t.p.wide ∧ i_7.p.rule = t.p.rule ∧ i_7.p.top = t.p.top ∧ i_7.p.least = t.p.least ∧ i_7.p.part = t.p.part ∧ iE i_7.p.settle = iE t.p.settle ∧ i_7.n = i.inst ∧ (i_7.p.code.length ≤ (1099511627776 : Nat) ∧ i_7.p.months.length ≤ (1099511627776 : Nat) ∧ i_7.p.settle.length ≤ (1099511627776 : Nat)) ∧ ∀ (o : Unit), True → cnd (!(i_7.p.legs i_7.n).snd.snd) (∃ (o : Unit), (tame t).kind = i.kind ∧ (tame t).id = i.id ∧ (tame t).inst = i.inst ∧ (tame t).side = i.side ∧ (tame t).price = IntKind.i64.wrap (i.price + IntKind.i64.wrap ((8 : Int) * t.p.tick)) ∧ (tame t).qty = i.qty ∧ (tame t).least = i.least ∧ (tame t).time = i.time ∧ sb (tame t).label = sb i.label ∧ True) (∃ (o : Unit), (tame t).kind = i.kind ∧ (tame t).id = i.id ∧ (tame t).inst = i.inst ∧ (tame t).side = i.side ∧ (tame t).price = IntKind.i64.wrap (i.price - IntKind.i64.wrap ((4 : Int) * t.p.tick)) ∧ (tame t).qty = i.qty ∧ (tame t).least = i.least ∧ (tame t).time = i.time ∧ sb (tame t).label = sb i.label ∧ True)) (cnd (i.kind == (4 : Int)) (∃ (o : Unit), (tame t).kind = i.kind ∧ (tame t).id = i.id ∧ (tame t).inst = (0 : Int) ∧ (tame t).side = (0 : Int) ∧ (tame t).price = IntKind.i64.wrap (IntKind.i64.wrap (t.p.tick * within i_6.n i_6.lo i_6.hi) + IntKind.i64.wrap ((5 : Int) * t.p.tick)) ∧ (tame t).qty = IntKind.i64.wrap ((1 : Int) + within i_5.n i_5.lo i_5.hi) ∧ (tame t).least = i.least ∧ (tame t).time = i.time ∧ sb (tame t).label = sb i.label ∧ True) (∃ (o : Unit), (tame t).kind = i.kind ∧ (tame t).id = i.id ∧ (tame t).inst = (0 : Int) ∧ (tame t).side = (0 : Int) ∧ (tame t).price = IntKind.i64.wrap (t.p.tick * within i_6.n i_6.lo i_6.hi) ∧ (tame t).qty = IntKind.i64.wrap ((1 : Int) + within i_5.n i_5.lo i_5.hi) ∧ (tame t).least = i.least ∧ (tame t).time = i.time ∧ sb (tame t).label = sb i.label ∧ True))
theorem eqtame (t : TmI) : Vtame t = walk Try.prog ([(8, withinC), (19, r5countC), (20, r5legsC)]) 0 (tameJ) ([]) [] Try.f16 (Try.f16.body.getD .skip) (tameC.pat t) (tameC.pre t) (tameC.alts t) := by kernel_rfl

theorem bytame (hG : GOk Try.prog ([(8, withinC), (19, r5countC), (20, r5legsC)])) (h : ∀ (t : TmI), tameC.cnd t → Vtame t) : tameC.ok Try.prog 16 := ok_of_walk mixed ([(8, withinC), (19, r5countC), (20, r5legsC)]) hG 0 (fun (t : TmI) => tameJ) (fun (t : TmI) => []) [] Try.func16 (by kernel_rfl) (by kernel_rfl) (by kernel_rfl) (fun _ => by kernel_rfl) (fun (t : TmI) hc => Eq.mp (eqtame t) (h t hc))

@[reducible] def Vabr0 (i_1 : Prd) : AObj := Sx.AObj.cells [V.d (D.v (Value.string (sb [(206 : UInt8), (169 : UInt8)]))), V.own ((0 : Nat) + (1 : Nat) + (1 : Nat) + (1 : Nat) + ((0 : Nat) - (0 : Nat)) + (1 : Nat)), V.d (D.v (.int .i64 (kTick i_1))), V.d (D.v (.int .i64 ((-20 : Int) * kTick i_1))), V.d (D.v (.int .i64 ((100 : Int) * kTick i_1))), V.d (D.v (.int .i64 (kTick i_1 * ((5 : Int) + within i_1.wide (0 : Int) (60 : Int))))), V.d (D.v (.int .i64 ((1 : Int) + within i_1.rule (0 : Int) (2 : Int)))), V.d (D.v (.int .i64 (within i_1.top (0 : Int) (9 : Int)))), V.d (D.v (.int .i64 ((1 : Int) + within i_1.least (0 : Int) (4 : Int)))), V.d (D.v (.int .i64 (within i_1.part (0 : Int) (100 : Int)))), V.own ((0 : Nat) + (1 : Nat) + (1 : Nat) + (1 : Nat) + ((0 : Nat) - (0 : Nat)) + (1 : Nat) + (1 : Nat))] (25 : Nat)
@[reducible] def Vabr1 (i : AbI) : AObj := Sx.AObj.cells [V.d (D.v (Value.string (sb i.x.code))), V.own (0 : Nat), V.d (D.v (.int .i64 i.x.tick)), V.d (D.v (.int .i64 i.x.low)), V.d (D.v (.int .i64 i.x.high)), V.d (D.v (.int .i64 i.x.wide)), V.d (D.v (.int .i64 i.x.rule)), V.d (D.v (.int .i64 i.x.top)), V.d (D.v (.int .i64 i.x.least)), V.d (D.v (.int .i64 i.x.part)), V.own ((0 : Nat) + (1 : Nat))] (25 : Nat)
def Vab (i : AbI) : Prop :=
  ∃ (i_1 : Prd), sb i_1.code = sb i.x.code ∧ iE i_1.months = iE i.x.months ∧ i_1.tick = i.x.tick ∧ i_1.low = i.x.low ∧ i_1.high = i.x.high ∧ i_1.wide = i.x.wide ∧ i_1.rule = i.x.rule ∧ i_1.top = i.x.top ∧ i_1.least = i.x.least ∧ i_1.part = i.x.part ∧ iE i_1.settle = iE i.x.settle ∧ (((-9223372036854775808 : Int) ≤ i_1.tick ∧ i_1.tick ≤ (9223372036854775807 : Int)) ∧ ((-9223372036854775808 : Int) ≤ i_1.wide ∧ i_1.wide ≤ (9223372036854775807 : Int)) ∧ ((-9223372036854775808 : Int) ≤ i_1.rule ∧ i_1.rule ≤ (9223372036854775807 : Int)) ∧ ((-9223372036854775808 : Int) ≤ i_1.top ∧ i_1.top ≤ (9223372036854775807 : Int)) ∧ ((-9223372036854775808 : Int) ≤ i_1.least ∧ i_1.least ≤ (9223372036854775807 : Int)) ∧ ((-9223372036854775808 : Int) ≤ i_1.part ∧ i_1.part ≤ (9223372036854775807 : Int)) ∧ i_1.months.length ≤ (9223372036854775807 : Nat)) ∧ ∀ (o : Unit), True → ∃ (i_2 : Prd), sb i_2.code = sb [(206 : UInt8), (169 : UInt8)] ∧ iE i_2.months = iE (kMonths (kN i_1).toNat) ∧ i_2.tick = kTick i_1 ∧ i_2.low = (-20 : Int) * kTick i_1 ∧ i_2.high = (100 : Int) * kTick i_1 ∧ i_2.wide = kTick i_1 * ((5 : Int) + within i_1.wide (0 : Int) (60 : Int)) ∧ i_2.rule = (1 : Int) + within i_1.rule (0 : Int) (2 : Int) ∧ i_2.top = within i_1.top (0 : Int) (9 : Int) ∧ i_2.least = (1 : Int) + within i_1.least (0 : Int) (4 : Int) ∧ i_2.part = within i_1.part (0 : Int) (100 : Int) ∧ iE i_2.settle = iE (kSettle (kTick i_1) (kN i_1).toNat) ∧ (i_2.code.length ≤ (1099511627776 : Nat) ∧ i_2.months.length ≤ (1099511627776 : Nat) ∧ i_2.settle.length ≤ (1099511627776 : Nat)) ∧ (∀ (o : Unit), i_2.check = (0 : Int) → ∃ (i0 : Nat), (↑i0 : Int) = (0 : Int) ∧ AObj.adt MSt (5 : Nat) StateU (abS i i0) = AObj.adt MSt (5 : Nat) StateU (state0 i_2) ∧ ∃ (I : Nat → Prop), ∃ (μ : Nat → Nat), I i0 ∧ ∀ (i_3 : Nat), I i_3 → ∃ (i0 : Bool), ∃ (I_1 : Bool → Prop), cnd (decide ((↑i_3 : Int) < (↑(List.map cmdE i.l).length : Int))) (∃ (i' : Bool), i' = decide ((↑i_3 : Int) < (30 : Int)) ∧ I_1 i' ∧ AObj.adt MSt (5 : Nat) StateU (abS i i_3) = AObj.adt MSt (5 : Nat) StateU (abS i i_3) ∧ AObj.fro (1 : Nat) (iE (kSettle (kTick i_1) (kN i_1).toNat)) = AObj.fro (1 : Nat) (iE (kSettle (kTick i_1) (kN i_1).toNat)) ∧ AObj.fro (1 : Nat) (iE (kMonths (kN i_1).toNat)) = AObj.fro (1 : Nat) (iE (kMonths (kN i_1).toNat)) ∧ Vabr0 i_1 = Vabr0 i_1 ∧ Vabr1 i = Vabr1 i ∧ AObj.fro (1 : Nat) (iE i.x.settle) = AObj.fro (1 : Nat) (iE i.x.settle) ∧ AObj.fro (1 : Nat) (iE i.x.months) = AObj.fro (1 : Nat) (iE i.x.months)) (∃ (i' : Bool), i' = false ∧ I_1 i' ∧ AObj.adt MSt (5 : Nat) StateU (abS i i_3) = AObj.adt MSt (5 : Nat) StateU (abS i i_3) ∧ AObj.fro (1 : Nat) (iE (kSettle (kTick i_1) (kN i_1).toNat)) = AObj.fro (1 : Nat) (iE (kSettle (kTick i_1) (kN i_1).toNat)) ∧ AObj.fro (1 : Nat) (iE (kMonths (kN i_1).toNat)) = AObj.fro (1 : Nat) (iE (kMonths (kN i_1).toNat)) ∧ Vabr0 i_1 = Vabr0 i_1 ∧ Vabr1 i = Vabr1 i ∧ AObj.fro (1 : Nat) (iE i.x.settle) = AObj.fro (1 : Nat) (iE i.x.settle) ∧ AObj.fro (1 : Nat) (iE i.x.months) = AObj.fro (1 : Nat) (iE i.x.months)) ∧ ∀ (i_4 : Bool), I_1 i_4 → cnd i_4 (((0 : Int) ≤ (↑i_3 : Int) ∧ (↑i_3 : Int) < (↑(List.map cmdE i.l).length : Int)) ∧ ∃ (n : Int), ∃ (n_1 : Int), ∃ (n_2 : Int), ∃ (n_3 : Int), ∃ (n_4 : Int), ∃ (n_5 : Int), ∃ (n_6 : Int), ∃ (n_7 : Int), ∃ (s : ByteArray), elPart (List.map cmdE i.l) (↑i_3 : Int).toNat (0 : Nat) (9 : Nat) = some [D.v (.int .i64 n), D.v (.int .i64 n_1), D.v (.int .i64 n_2), D.v (.int .i64 n_3), D.v (.int .i64 n_4), D.v (.int .i64 n_5), D.v (.int .i64 n_6), D.v (.int .i64 n_7), D.v (Value.string s)] ∧ (∃ (i_5 : TmI), sb i_5.p.code = sb [(206 : UInt8), (169 : UInt8)] ∧ iE i_5.p.months = iE (kMonths (kN i_1).toNat) ∧ i_5.p.tick = kTick i_1 ∧ i_5.p.low = (-20 : Int) * kTick i_1 ∧ i_5.p.high = (100 : Int) * kTick i_1 ∧ i_5.p.wide = kTick i_1 * ((5 : Int) + within i_1.wide (0 : Int) (60 : Int)) ∧ i_5.p.rule = (1 : Int) + within i_1.rule (0 : Int) (2 : Int) ∧ i_5.p.top = within i_1.top (0 : Int) (9 : Int) ∧ i_5.p.least = (1 : Int) + within i_1.least (0 : Int) (4 : Int) ∧ i_5.p.part = within i_1.part (0 : Int) (100 : Int) ∧ iE i_5.p.settle = iE (kSettle (kTick i_1) (kN i_1).toNat) ∧ i_5.c.kind = n ∧ i_5.c.id = n_1 ∧ i_5.c.inst = n_2 ∧ i_5.c.side = n_3 ∧ i_5.c.price = n_4 ∧ i_5.c.qty = n_5 ∧ i_5.c.least = n_6 ∧ i_5.c.time = n_7 ∧ sb i_5.c.label = s ∧ i_5.i = (↑i_3 : Int) ∧ (i_5.p.check = (0 : Int) ∧ (i_5.p.code.length ≤ (1099511627776 : Nat) ∧ i_5.p.months.length ≤ (1099511627776 : Nat) ∧ i_5.p.settle.length ≤ (1099511627776 : Nat)) ∧ (((-9223372036854775808 : Int) ≤ i_5.c.kind ∧ i_5.c.kind ≤ (9223372036854775807 : Int)) ∧ ((-9223372036854775808 : Int) ≤ i_5.c.id ∧ i_5.c.id ≤ (9223372036854775807 : Int)) ∧ ((-9223372036854775808 : Int) ≤ i_5.c.inst ∧ i_5.c.inst ≤ (9223372036854775807 : Int)) ∧ ((-9223372036854775808 : Int) ≤ i_5.c.side ∧ i_5.c.side ≤ (9223372036854775807 : Int)) ∧ ((-9223372036854775808 : Int) ≤ i_5.c.price ∧ i_5.c.price ≤ (9223372036854775807 : Int)) ∧ ((-9223372036854775808 : Int) ≤ i_5.c.qty ∧ i_5.c.qty ≤ (9223372036854775807 : Int)) ∧ ((-9223372036854775808 : Int) ≤ i_5.c.least ∧ i_5.c.least ≤ (9223372036854775807 : Int)) ∧ (-9223372036854775808 : Int) ≤ i_5.c.time ∧ i_5.c.time ≤ (9223372036854775807 : Int)) ∧ (0 : Int) ≤ i_5.i ∧ i_5.i ≤ (1000000 : Int)) ∧ ∀ (o : Unit), True → cnd ((tame i_5).kind == (1 : Int)) (∃ (i_6 : SaI), i_6.inst = (tame i_5).inst ∧ i_6.id = (tame i_5).id ∧ sideN i_6.sd = (tame i_5).side ∧ i_6.price = (tame i_5).price ∧ i_6.qty = (tame i_5).qty ∧ AObj.adt MSt (5 : Nat) StateU i_6.s = AObj.adt MSt (5 : Nat) StateU (abS i i_3) ∧ ((i_6.s.p.code.length ≤ (1099511627776 : Nat) ∧ i_6.s.p.months.length ≤ (1099511627776 : Nat) ∧ i_6.s.p.settle.length ≤ (1099511627776 : Nat)) ∧ i_6.s.books.length ≤ (1000000 : Nat) ∧ ∀ (b : Book), b ∈ i_6.s.books → (b.a.slots.length ≤ (1000000 : Nat) ∧ (b.a.free ≠ (0 : Int) → ∃ (s : Slot), s ∈ b.a.slots ∧ s.used = false) ∧ ∀ (q : Queue), q ∈ b.a.queues → q.last = (-1 : Int) ∨ (0 : Int) ≤ q.last ∧ q.last < (↑b.a.slots.length : Int)) ∧ b.a.queues.length ≤ (100000 : Nat) ∧ b.buys.length ≤ (100000 : Nat) ∧ b.sells.length ≤ (100000 : Nat) ∧ b.spare.length ≤ (100000 : Nat)) ∧ ∀ (o : Unit), True → ∃ (i' : Nat), (↑i' : Int) = IntKind.i64.wrap ((↑i_3 : Int) + (1 : Int)) ∧ AObj.adt MSt (5 : Nat) StateU (abS i i') = AObj.adt MSt (5 : Nat) StateU (MSt.addF i_6).fst ∧ I i' ∧ μ i' < μ i_3 ∧ AObj.fro (1 : Nat) (iE (kSettle (kTick i_1) (kN i_1).toNat)) = AObj.fro (1 : Nat) (iE (kSettle (kTick i_1) (kN i_1).toNat)) ∧ AObj.fro (1 : Nat) (iE (kMonths (kN i_1).toNat)) = AObj.fro (1 : Nat) (iE (kMonths (kN i_1).toNat)) ∧ Vabr0 i_1 = Vabr0 i_1 ∧ Vabr1 i = Vabr1 i ∧ AObj.fro (1 : Nat) (iE i.x.settle) = AObj.fro (1 : Nat) (iE i.x.settle) ∧ AObj.fro (1 : Nat) (iE i.x.months) = AObj.fro (1 : Nat) (iE i.x.months)) (∃ (i' : Nat), (↑i' : Int) = IntKind.i64.wrap ((↑i_3 : Int) + (1 : Int)) ∧ AObj.adt MSt (5 : Nat) StateU (abS i i') = AObj.adt MSt (5 : Nat) StateU (abS i i_3) ∧ I i' ∧ μ i' < μ i_3 ∧ AObj.fro (1 : Nat) (iE (kSettle (kTick i_1) (kN i_1).toNat)) = AObj.fro (1 : Nat) (iE (kSettle (kTick i_1) (kN i_1).toNat)) ∧ AObj.fro (1 : Nat) (iE (kMonths (kN i_1).toNat)) = AObj.fro (1 : Nat) (iE (kMonths (kN i_1).toNat)) ∧ Vabr0 i_1 = Vabr0 i_1 ∧ Vabr1 i = Vabr1 i ∧ AObj.fro (1 : Nat) (iE i.x.settle) = AObj.fro (1 : Nat) (iE i.x.settle) ∧ AObj.fro (1 : Nat) (iE i.x.months) = AObj.fro (1 : Nat) (iE i.x.months))) ∧ True ∧ (sb [(206 : UInt8), (169 : UInt8)] = sb [(206 : UInt8), (169 : UInt8)] ∧ True ∧ kTick i_1 = kTick i_1 ∧ (-20 : Int) * kTick i_1 = (-20 : Int) * kTick i_1 ∧ (100 : Int) * kTick i_1 = (100 : Int) * kTick i_1 ∧ kTick i_1 * ((5 : Int) + within i_1.wide (0 : Int) (60 : Int)) = kTick i_1 * ((5 : Int) + within i_1.wide (0 : Int) (60 : Int)) ∧ (1 : Int) + within i_1.rule (0 : Int) (2 : Int) = (1 : Int) + within i_1.rule (0 : Int) (2 : Int) ∧ within i_1.top (0 : Int) (9 : Int) = within i_1.top (0 : Int) (9 : Int) ∧ (1 : Int) + within i_1.least (0 : Int) (4 : Int) = (1 : Int) + within i_1.least (0 : Int) (4 : Int) ∧ within i_1.part (0 : Int) (100 : Int) = within i_1.part (0 : Int) (100 : Int) ∧ True ∧ True) ∧ ∃ (i_5 : TmI), sb i_5.p.code = sb [(206 : UInt8), (169 : UInt8)] ∧ iE i_5.p.months = iE (kMonths (kN i_1).toNat) ∧ i_5.p.tick = kTick i_1 ∧ i_5.p.low = (-20 : Int) * kTick i_1 ∧ i_5.p.high = (100 : Int) * kTick i_1 ∧ i_5.p.wide = kTick i_1 * ((5 : Int) + within i_1.wide (0 : Int) (60 : Int)) ∧ i_5.p.rule = (1 : Int) + within i_1.rule (0 : Int) (2 : Int) ∧ i_5.p.top = within i_1.top (0 : Int) (9 : Int) ∧ i_5.p.least = (1 : Int) + within i_1.least (0 : Int) (4 : Int) ∧ i_5.p.part = within i_1.part (0 : Int) (100 : Int) ∧ iE i_5.p.settle = iE (kSettle (kTick i_1) (kN i_1).toNat) ∧ i_5.c.kind = n ∧ i_5.c.id = n_1 ∧ i_5.c.inst = n_2 ∧ i_5.c.side = n_3 ∧ i_5.c.price = n_4 ∧ i_5.c.qty = n_5 ∧ i_5.c.least = n_6 ∧ i_5.c.time = n_7 ∧ sb i_5.c.label = s ∧ i_5.i = (↑i_3 : Int) ∧ (i_5.p.check = (0 : Int) ∧ (i_5.p.code.length ≤ (1099511627776 : Nat) ∧ i_5.p.months.length ≤ (1099511627776 : Nat) ∧ i_5.p.settle.length ≤ (1099511627776 : Nat)) ∧ (((-9223372036854775808 : Int) ≤ i_5.c.kind ∧ i_5.c.kind ≤ (9223372036854775807 : Int)) ∧ ((-9223372036854775808 : Int) ≤ i_5.c.id ∧ i_5.c.id ≤ (9223372036854775807 : Int)) ∧ ((-9223372036854775808 : Int) ≤ i_5.c.inst ∧ i_5.c.inst ≤ (9223372036854775807 : Int)) ∧ ((-9223372036854775808 : Int) ≤ i_5.c.side ∧ i_5.c.side ≤ (9223372036854775807 : Int)) ∧ ((-9223372036854775808 : Int) ≤ i_5.c.price ∧ i_5.c.price ≤ (9223372036854775807 : Int)) ∧ ((-9223372036854775808 : Int) ≤ i_5.c.qty ∧ i_5.c.qty ≤ (9223372036854775807 : Int)) ∧ ((-9223372036854775808 : Int) ≤ i_5.c.least ∧ i_5.c.least ≤ (9223372036854775807 : Int)) ∧ (-9223372036854775808 : Int) ≤ i_5.c.time ∧ i_5.c.time ≤ (9223372036854775807 : Int)) ∧ (0 : Int) ≤ i_5.i ∧ i_5.i ≤ (1000000 : Int)) ∧ ∀ (o : Unit), True → cnd ((tame i_5).kind == (1 : Int)) (∃ (i_6 : SaI), i_6.inst = (tame i_5).inst ∧ i_6.id = (tame i_5).id ∧ sideN i_6.sd = (tame i_5).side ∧ i_6.price = (tame i_5).price ∧ i_6.qty = (tame i_5).qty ∧ AObj.adt MSt (5 : Nat) StateU i_6.s = AObj.adt MSt (5 : Nat) StateU (abS i i_3) ∧ ((i_6.s.p.code.length ≤ (1099511627776 : Nat) ∧ i_6.s.p.months.length ≤ (1099511627776 : Nat) ∧ i_6.s.p.settle.length ≤ (1099511627776 : Nat)) ∧ i_6.s.books.length ≤ (1000000 : Nat) ∧ ∀ (b : Book), b ∈ i_6.s.books → (b.a.slots.length ≤ (1000000 : Nat) ∧ (b.a.free ≠ (0 : Int) → ∃ (s : Slot), s ∈ b.a.slots ∧ s.used = false) ∧ ∀ (q : Queue), q ∈ b.a.queues → q.last = (-1 : Int) ∨ (0 : Int) ≤ q.last ∧ q.last < (↑b.a.slots.length : Int)) ∧ b.a.queues.length ≤ (100000 : Nat) ∧ b.buys.length ≤ (100000 : Nat) ∧ b.sells.length ≤ (100000 : Nat) ∧ b.spare.length ≤ (100000 : Nat)) ∧ ∀ (o : Unit), True → ∃ (i' : Nat), (↑i' : Int) = IntKind.i64.wrap ((↑i_3 : Int) + (1 : Int)) ∧ AObj.adt MSt (5 : Nat) StateU (abS i i') = AObj.adt MSt (5 : Nat) StateU (MSt.addF i_6).fst ∧ I i' ∧ μ i' < μ i_3 ∧ AObj.fro (1 : Nat) (iE (kSettle (kTick i_1) (kN i_1).toNat)) = AObj.fro (1 : Nat) (iE (kSettle (kTick i_1) (kN i_1).toNat)) ∧ AObj.fro (1 : Nat) (iE (kMonths (kN i_1).toNat)) = AObj.fro (1 : Nat) (iE (kMonths (kN i_1).toNat)) ∧ Vabr0 i_1 = Vabr0 i_1 ∧ Vabr1 i = Vabr1 i ∧ AObj.fro (1 : Nat) (iE i.x.settle) = AObj.fro (1 : Nat) (iE i.x.settle) ∧ AObj.fro (1 : Nat) (iE i.x.months) = AObj.fro (1 : Nat) (iE i.x.months)) (∃ (i' : Nat), (↑i' : Int) = IntKind.i64.wrap ((↑i_3 : Int) + (1 : Int)) ∧ AObj.adt MSt (5 : Nat) StateU (abS i i') = AObj.adt MSt (5 : Nat) StateU (abS i i_3) ∧ I i' ∧ μ i' < μ i_3 ∧ AObj.fro (1 : Nat) (iE (kSettle (kTick i_1) (kN i_1).toNat)) = AObj.fro (1 : Nat) (iE (kSettle (kTick i_1) (kN i_1).toNat)) ∧ AObj.fro (1 : Nat) (iE (kMonths (kN i_1).toNat)) = AObj.fro (1 : Nat) (iE (kMonths (kN i_1).toNat)) ∧ Vabr0 i_1 = Vabr0 i_1 ∧ Vabr1 i = Vabr1 i ∧ AObj.fro (1 : Nat) (iE i.x.settle) = AObj.fro (1 : Nat) (iE i.x.settle) ∧ AObj.fro (1 : Nat) (iE i.x.months) = AObj.fro (1 : Nat) (iE i.x.months))) (∃ (i_5 : MSt), AObj.adt MSt (5 : Nat) StateU i_5 = AObj.adt MSt (5 : Nat) StateU (abS i i_3) ∧ (i_5.books.length ≤ (1000000 : Nat) ∧ ∀ (b : Book), b ∈ i_5.books → ∀ (q : Queue), q ∈ b.a.queues → (-9223372036854775808 : Int) ≤ q.count ∧ q.count ≤ (9223372036854775807 : Int)) ∧ ∀ (o : Unit), True → ∃ (i_6 : Prd), sb i_6.code = sb [(206 : UInt8), (169 : UInt8)] ∧ iE i_6.months = iE (kMonths (kN i_1).toNat) ∧ i_6.tick = kTick i_1 ∧ i_6.low = (-20 : Int) * kTick i_1 ∧ i_6.high = (100 : Int) * kTick i_1 ∧ i_6.wide = kTick i_1 * ((5 : Int) + within i_1.wide (0 : Int) (60 : Int)) ∧ i_6.rule = (1 : Int) + within i_1.rule (0 : Int) (2 : Int) ∧ i_6.top = within i_1.top (0 : Int) (9 : Int) ∧ i_6.least = (1 : Int) + within i_1.least (0 : Int) (4 : Int) ∧ i_6.part = within i_1.part (0 : Int) (100 : Int) ∧ iE i_6.settle = iE (kSettle (kTick i_1) (kN i_1).toNat) ∧ (i_6.code.length ≤ (1099511627776 : Nat) ∧ i_6.months.length ≤ (1099511627776 : Nat) ∧ i_6.settle.length ≤ (1099511627776 : Nat)) ∧ ∀ (o : Unit), True → cnd ((↑(List.map topE i_5.tops).length : Int) != (↑i_6.count : Int)) (∃ (o : Unit), true = false ∧ True) (∃ (i0 : Nat), (List.range i0).any (crossAt (abT i)) = false ∧ (List.range i0).any (meetAt (kprod i.x) (abT i)) = false ∧ (↑i0 : Int) = (0 : Int) ∧ ∃ (I : Nat → Prop), ∃ (μ : Nat → Nat), I i0 ∧ ∀ (i_7 : Nat), I i_7 → cnd (decide ((↑i_7 : Int) < (↑(List.map topE i_5.tops).length : Int))) (∃ (i0 : B2), ∃ (I_2 : B2 → Prop), (∃ (i0 : Bool), ∃ (I : Bool → Prop), cnd ((List.range i_7).any (crossAt (abT i))) (∃ (i' : Bool), i' = true ∧ I i' ∧ AObj.adt MSt (5 : Nat) StateU i_5 = AObj.adt MSt (5 : Nat) StateU i_5 ∧ AObj.own (55 : Nat) (6 : Nat) (List.map topE i_5.tops) = AObj.own (55 : Nat) (6 : Nat) (List.map topE i_5.tops) ∧ AObj.fro (1 : Nat) (iE (kSettle (kTick i_1) (kN i_1).toNat)) = AObj.fro (1 : Nat) (iE (kSettle (kTick i_1) (kN i_1).toNat)) ∧ AObj.fro (1 : Nat) (iE (kMonths (kN i_1).toNat)) = AObj.fro (1 : Nat) (iE (kMonths (kN i_1).toNat)) ∧ Vabr0 i_1 = Vabr0 i_1 ∧ Vabr1 i = Vabr1 i ∧ AObj.fro (1 : Nat) (iE i.x.settle) = AObj.fro (1 : Nat) (iE i.x.settle) ∧ AObj.fro (1 : Nat) (iE i.x.months) = AObj.fro (1 : Nat) (iE i.x.months)) (((0 : Int) ≤ (↑i_7 : Int) ∧ (↑i_7 : Int) < (↑(List.map topE i_5.tops).length : Int)) ∧ ∃ (b : Bool), elPart (List.map topE i_5.tops) (↑i_7 : Int).toNat ((0 : Nat) + (0 : Nat) + nat_lit 0 * (1 : Nat)) (1 : Nat) = some [D.v (.bool b)] ∧ cnd b (((0 : Int) ≤ (↑i_7 : Int) ∧ (↑i_7 : Int) < (↑(List.map topE i_5.tops).length : Int)) ∧ ∃ (b : Bool), elPart (List.map topE i_5.tops) (↑i_7 : Int).toNat ((0 : Nat) + (0 : Nat) + nat_lit 1 * (1 : Nat)) (1 : Nat) = some [D.v (.bool b)] ∧ cnd b (((0 : Int) ≤ (↑i_7 : Int) ∧ (↑i_7 : Int) < (↑(List.map topE i_5.tops).length : Int)) ∧ ∃ (n : Int), elPart (List.map topE i_5.tops) (↑i_7 : Int).toNat ((0 : Nat) + (2 : Nat) + nat_lit 0 * (1 : Nat)) (1 : Nat) = some [D.v (.int .i64 n)] ∧ ((0 : Int) ≤ (↑i_7 : Int) ∧ (↑i_7 : Int) < (↑(List.map topE i_5.tops).length : Int)) ∧ ∃ (n_1 : Int), elPart (List.map topE i_5.tops) (↑i_7 : Int).toNat ((0 : Nat) + (2 : Nat) + nat_lit 1 * (1 : Nat)) (1 : Nat) = some [D.v (.int .i64 n_1)] ∧ ∃ (i' : Bool), i' = decide (n ≥ n_1) ∧ I i' ∧ AObj.adt MSt (5 : Nat) StateU i_5 = AObj.adt MSt (5 : Nat) StateU i_5 ∧ AObj.own (55 : Nat) (6 : Nat) (List.map topE i_5.tops) = AObj.own (55 : Nat) (6 : Nat) (List.map topE i_5.tops) ∧ AObj.fro (1 : Nat) (iE (kSettle (kTick i_1) (kN i_1).toNat)) = AObj.fro (1 : Nat) (iE (kSettle (kTick i_1) (kN i_1).toNat)) ∧ AObj.fro (1 : Nat) (iE (kMonths (kN i_1).toNat)) = AObj.fro (1 : Nat) (iE (kMonths (kN i_1).toNat)) ∧ Vabr0 i_1 = Vabr0 i_1 ∧ Vabr1 i = Vabr1 i ∧ AObj.fro (1 : Nat) (iE i.x.settle) = AObj.fro (1 : Nat) (iE i.x.settle) ∧ AObj.fro (1 : Nat) (iE i.x.months) = AObj.fro (1 : Nat) (iE i.x.months)) (∃ (i' : Bool), i' = false ∧ I i' ∧ AObj.adt MSt (5 : Nat) StateU i_5 = AObj.adt MSt (5 : Nat) StateU i_5 ∧ AObj.own (55 : Nat) (6 : Nat) (List.map topE i_5.tops) = AObj.own (55 : Nat) (6 : Nat) (List.map topE i_5.tops) ∧ AObj.fro (1 : Nat) (iE (kSettle (kTick i_1) (kN i_1).toNat)) = AObj.fro (1 : Nat) (iE (kSettle (kTick i_1) (kN i_1).toNat)) ∧ AObj.fro (1 : Nat) (iE (kMonths (kN i_1).toNat)) = AObj.fro (1 : Nat) (iE (kMonths (kN i_1).toNat)) ∧ Vabr0 i_1 = Vabr0 i_1 ∧ Vabr1 i = Vabr1 i ∧ AObj.fro (1 : Nat) (iE i.x.settle) = AObj.fro (1 : Nat) (iE i.x.settle) ∧ AObj.fro (1 : Nat) (iE i.x.months) = AObj.fro (1 : Nat) (iE i.x.months))) (∃ (i' : Bool), i' = false ∧ I i' ∧ AObj.adt MSt (5 : Nat) StateU i_5 = AObj.adt MSt (5 : Nat) StateU i_5 ∧ AObj.own (55 : Nat) (6 : Nat) (List.map topE i_5.tops) = AObj.own (55 : Nat) (6 : Nat) (List.map topE i_5.tops) ∧ AObj.fro (1 : Nat) (iE (kSettle (kTick i_1) (kN i_1).toNat)) = AObj.fro (1 : Nat) (iE (kSettle (kTick i_1) (kN i_1).toNat)) ∧ AObj.fro (1 : Nat) (iE (kMonths (kN i_1).toNat)) = AObj.fro (1 : Nat) (iE (kMonths (kN i_1).toNat)) ∧ Vabr0 i_1 = Vabr0 i_1 ∧ Vabr1 i = Vabr1 i ∧ AObj.fro (1 : Nat) (iE i.x.settle) = AObj.fro (1 : Nat) (iE i.x.settle) ∧ AObj.fro (1 : Nat) (iE i.x.months) = AObj.fro (1 : Nat) (iE i.x.months))) ∧ ∀ (i_8 : Bool), I i_8 → ∃ (i_9 : LegI), sb i_9.p.code = sb [(206 : UInt8), (169 : UInt8)] ∧ iE i_9.p.months = iE (kMonths (kN i_1).toNat) ∧ i_9.p.tick = kTick i_1 ∧ i_9.p.low = (-20 : Int) * kTick i_1 ∧ i_9.p.high = (100 : Int) * kTick i_1 ∧ i_9.p.wide = kTick i_1 * ((5 : Int) + within i_1.wide (0 : Int) (60 : Int)) ∧ i_9.p.rule = (1 : Int) + within i_1.rule (0 : Int) (2 : Int) ∧ i_9.p.top = within i_1.top (0 : Int) (9 : Int) ∧ i_9.p.least = (1 : Int) + within i_1.least (0 : Int) (4 : Int) ∧ i_9.p.part = within i_1.part (0 : Int) (100 : Int) ∧ iE i_9.p.settle = iE (kSettle (kTick i_1) (kN i_1).toNat) ∧ i_9.n = (↑i_7 : Int) ∧ (i_9.p.code.length ≤ (1099511627776 : Nat) ∧ i_9.p.months.length ≤ (1099511627776 : Nat) ∧ i_9.p.settle.length ≤ (1099511627776 : Nat)) ∧ ∀ (o : Unit), True → cnd (!(i_9.p.legs i_9.n).snd.snd) (∃ (i' : B2), i'.a = i_8 ∧ i'.b = (List.range i_7).any (meetAt (kprod i.x) (abT i)) ∧ I_2 i' ∧ AObj.adt MSt (5 : Nat) StateU i_5 = AObj.adt MSt (5 : Nat) StateU i_5 ∧ AObj.own (55 : Nat) (6 : Nat) (List.map topE i_5.tops) = AObj.own (55 : Nat) (6 : Nat) (List.map topE i_5.tops) ∧ AObj.fro (1 : Nat) (iE (kSettle (kTick i_1) (kN i_1).toNat)) = AObj.fro (1 : Nat) (iE (kSettle (kTick i_1) (kN i_1).toNat)) ∧ AObj.fro (1 : Nat) (iE (kMonths (kN i_1).toNat)) = AObj.fro (1 : Nat) (iE (kMonths (kN i_1).toNat)) ∧ Vabr0 i_1 = Vabr0 i_1 ∧ Vabr1 i = Vabr1 i ∧ AObj.fro (1 : Nat) (iE i.x.settle) = AObj.fro (1 : Nat) (iE i.x.settle) ∧ AObj.fro (1 : Nat) (iE i.x.months) = AObj.fro (1 : Nat) (iE i.x.months)) (∃ (i0 : Bool), ∃ (I : Bool → Prop), (∃ (i0 : Bool), ∃ (I_3 : Bool → Prop), (((0 : Int) ≤ (i_9.p.legs i_9.n).fst ∧ (i_9.p.legs i_9.n).fst < (↑(List.map topE i_5.tops).length : Int)) ∧ ∃ (b : Bool), elPart (List.map topE i_5.tops) (i_9.p.legs i_9.n).fst.toNat ((0 : Nat) + (0 : Nat) + nat_lit 0 * (1 : Nat)) (1 : Nat) = some [D.v (.bool b)] ∧ cnd (!b) (∃ (i' : Bool), i' = true ∧ I_3 i' ∧ AObj.adt MSt (5 : Nat) StateU i_5 = AObj.adt MSt (5 : Nat) StateU i_5 ∧ AObj.own (55 : Nat) (6 : Nat) (List.map topE i_5.tops) = AObj.own (55 : Nat) (6 : Nat) (List.map topE i_5.tops) ∧ AObj.fro (1 : Nat) (iE (kSettle (kTick i_1) (kN i_1).toNat)) = AObj.fro (1 : Nat) (iE (kSettle (kTick i_1) (kN i_1).toNat)) ∧ AObj.fro (1 : Nat) (iE (kMonths (kN i_1).toNat)) = AObj.fro (1 : Nat) (iE (kMonths (kN i_1).toNat)) ∧ Vabr0 i_1 = Vabr0 i_1 ∧ Vabr1 i = Vabr1 i ∧ AObj.fro (1 : Nat) (iE i.x.settle) = AObj.fro (1 : Nat) (iE i.x.settle) ∧ AObj.fro (1 : Nat) (iE i.x.months) = AObj.fro (1 : Nat) (iE i.x.months)) (((0 : Int) ≤ (i_9.p.legs i_9.n).snd.fst ∧ (i_9.p.legs i_9.n).snd.fst < (↑(List.map topE i_5.tops).length : Int)) ∧ ∃ (b : Bool), elPart (List.map topE i_5.tops) (i_9.p.legs i_9.n).snd.fst.toNat ((0 : Nat) + (0 : Nat) + (nat_lit 1 + nat_lit 0) % ((2 : Int) ^ IntKind.i64.bits).natAbs * (1 : Nat)) (1 : Nat) = some [D.v (.bool b)] ∧ cnd (!b) (∃ (i' : Bool), i' = true ∧ I_3 i' ∧ AObj.adt MSt (5 : Nat) StateU i_5 = AObj.adt MSt (5 : Nat) StateU i_5 ∧ AObj.own (55 : Nat) (6 : Nat) (List.map topE i_5.tops) = AObj.own (55 : Nat) (6 : Nat) (List.map topE i_5.tops) ∧ AObj.fro (1 : Nat) (iE (kSettle (kTick i_1) (kN i_1).toNat)) = AObj.fro (1 : Nat) (iE (kSettle (kTick i_1) (kN i_1).toNat)) ∧ AObj.fro (1 : Nat) (iE (kMonths (kN i_1).toNat)) = AObj.fro (1 : Nat) (iE (kMonths (kN i_1).toNat)) ∧ Vabr0 i_1 = Vabr0 i_1 ∧ Vabr1 i = Vabr1 i ∧ AObj.fro (1 : Nat) (iE i.x.settle) = AObj.fro (1 : Nat) (iE i.x.settle) ∧ AObj.fro (1 : Nat) (iE i.x.months) = AObj.fro (1 : Nat) (iE i.x.months)) (((0 : Int) ≤ (↑i_7 : Int) ∧ (↑i_7 : Int) < (↑(List.map topE i_5.tops).length : Int)) ∧ ∃ (b : Bool), elPart (List.map topE i_5.tops) (↑i_7 : Int).toNat ((0 : Nat) + (0 : Nat) + (nat_lit 1 + nat_lit 0) % ((2 : Int) ^ IntKind.i64.bits).natAbs * (1 : Nat)) (1 : Nat) = some [D.v (.bool b)] ∧ ∃ (i' : Bool), i' = !b ∧ I_3 i' ∧ AObj.adt MSt (5 : Nat) StateU i_5 = AObj.adt MSt (5 : Nat) StateU i_5 ∧ AObj.own (55 : Nat) (6 : Nat) (List.map topE i_5.tops) = AObj.own (55 : Nat) (6 : Nat) (List.map topE i_5.tops) ∧ AObj.fro (1 : Nat) (iE (kSettle (kTick i_1) (kN i_1).toNat)) = AObj.fro (1 : Nat) (iE (kSettle (kTick i_1) (kN i_1).toNat)) ∧ AObj.fro (1 : Nat) (iE (kMonths (kN i_1).toNat)) = AObj.fro (1 : Nat) (iE (kMonths (kN i_1).toNat)) ∧ Vabr0 i_1 = Vabr0 i_1 ∧ Vabr1 i = Vabr1 i ∧ AObj.fro (1 : Nat) (iE i.x.settle) = AObj.fro (1 : Nat) (iE i.x.settle) ∧ AObj.fro (1 : Nat) (iE i.x.months) = AObj.fro (1 : Nat) (iE i.x.months)))) ∧ ∀ (i_10 : Bool), I_3 i_10 → cnd i_10 (∃ (i' : Bool), i' = (List.range i_7).any (meetAt (kprod i.x) (abT i)) ∧ I i' ∧ AObj.adt MSt (5 : Nat) StateU i_5 = AObj.adt MSt (5 : Nat) StateU i_5 ∧ AObj.own (55 : Nat) (6 : Nat) (List.map topE i_5.tops) = AObj.own (55 : Nat) (6 : Nat) (List.map topE i_5.tops) ∧ AObj.fro (1 : Nat) (iE (kSettle (kTick i_1) (kN i_1).toNat)) = AObj.fro (1 : Nat) (iE (kSettle (kTick i_1) (kN i_1).toNat)) ∧ AObj.fro (1 : Nat) (iE (kMonths (kN i_1).toNat)) = AObj.fro (1 : Nat) (iE (kMonths (kN i_1).toNat)) ∧ Vabr0 i_1 = Vabr0 i_1 ∧ Vabr1 i = Vabr1 i ∧ AObj.fro (1 : Nat) (iE i.x.settle) = AObj.fro (1 : Nat) (iE i.x.settle) ∧ AObj.fro (1 : Nat) (iE i.x.months) = AObj.fro (1 : Nat) (iE i.x.months)) (((0 : Int) ≤ (i_9.p.legs i_9.n).fst ∧ (i_9.p.legs i_9.n).fst < (↑(List.map topE i_5.tops).length : Int)) ∧ ∃ (n : Int), elPart (List.map topE i_5.tops) (i_9.p.legs i_9.n).fst.toNat ((0 : Nat) + (2 : Nat) + nat_lit 0 * (1 : Nat)) (1 : Nat) = some [D.v (.int .i64 n)] ∧ ((0 : Int) ≤ (i_9.p.legs i_9.n).snd.fst ∧ (i_9.p.legs i_9.n).snd.fst < (↑(List.map topE i_5.tops).length : Int)) ∧ ∃ (n_1 : Int), elPart (List.map topE i_5.tops) (i_9.p.legs i_9.n).snd.fst.toNat ((0 : Nat) + (2 : Nat) + (nat_lit 1 + nat_lit 0) % ((2 : Int) ^ IntKind.i64.bits).natAbs * (1 : Nat)) (1 : Nat) = some [D.v (.int .i64 n_1)] ∧ ((0 : Int) ≤ (↑i_7 : Int) ∧ (↑i_7 : Int) < (↑(List.map topE i_5.tops).length : Int)) ∧ ∃ (n_2 : Int), elPart (List.map topE i_5.tops) (↑i_7 : Int).toNat ((0 : Nat) + (2 : Nat) + (nat_lit 1 + nat_lit 0) % ((2 : Int) ^ IntKind.i64.bits).natAbs * (1 : Nat)) (1 : Nat) = some [D.v (.int .i64 n_2)] ∧ ∃ (i0 : Bool), ∃ (I_4 : Bool → Prop), cnd (decide (IntKind.i64.wrap (n - n_1) ≥ n_2)) (∃ (i' : Bool), i' = true ∧ I_4 i' ∧ AObj.adt MSt (5 : Nat) StateU i_5 = AObj.adt MSt (5 : Nat) StateU i_5 ∧ AObj.own (55 : Nat) (6 : Nat) (List.map topE i_5.tops) = AObj.own (55 : Nat) (6 : Nat) (List.map topE i_5.tops) ∧ AObj.fro (1 : Nat) (iE (kSettle (kTick i_1) (kN i_1).toNat)) = AObj.fro (1 : Nat) (iE (kSettle (kTick i_1) (kN i_1).toNat)) ∧ AObj.fro (1 : Nat) (iE (kMonths (kN i_1).toNat)) = AObj.fro (1 : Nat) (iE (kMonths (kN i_1).toNat)) ∧ Vabr0 i_1 = Vabr0 i_1 ∧ Vabr1 i = Vabr1 i ∧ AObj.fro (1 : Nat) (iE i.x.settle) = AObj.fro (1 : Nat) (iE i.x.settle) ∧ AObj.fro (1 : Nat) (iE i.x.months) = AObj.fro (1 : Nat) (iE i.x.months)) (∃ (i' : Bool), i' = false ∧ I_4 i' ∧ AObj.adt MSt (5 : Nat) StateU i_5 = AObj.adt MSt (5 : Nat) StateU i_5 ∧ AObj.own (55 : Nat) (6 : Nat) (List.map topE i_5.tops) = AObj.own (55 : Nat) (6 : Nat) (List.map topE i_5.tops) ∧ AObj.fro (1 : Nat) (iE (kSettle (kTick i_1) (kN i_1).toNat)) = AObj.fro (1 : Nat) (iE (kSettle (kTick i_1) (kN i_1).toNat)) ∧ AObj.fro (1 : Nat) (iE (kMonths (kN i_1).toNat)) = AObj.fro (1 : Nat) (iE (kMonths (kN i_1).toNat)) ∧ Vabr0 i_1 = Vabr0 i_1 ∧ Vabr1 i = Vabr1 i ∧ AObj.fro (1 : Nat) (iE i.x.settle) = AObj.fro (1 : Nat) (iE i.x.settle) ∧ AObj.fro (1 : Nat) (iE i.x.months) = AObj.fro (1 : Nat) (iE i.x.months)) ∧ ∀ (i_11 : Bool), I_4 i_11 → ∃ (i0 : Bool), ∃ (I_5 : Bool → Prop), (∃ (i_12 : SprI), sb i_12.p.code = sb [(206 : UInt8), (169 : UInt8)] ∧ iE i_12.p.months = iE (kMonths (kN i_1).toNat) ∧ i_12.p.tick = kTick i_1 ∧ i_12.p.low = (-20 : Int) * kTick i_1 ∧ i_12.p.high = (100 : Int) * kTick i_1 ∧ i_12.p.wide = kTick i_1 * ((5 : Int) + within i_1.wide (0 : Int) (60 : Int)) ∧ i_12.p.rule = (1 : Int) + within i_1.rule (0 : Int) (2 : Int) ∧ i_12.p.top = within i_1.top (0 : Int) (9 : Int) ∧ i_12.p.least = (1 : Int) + within i_1.least (0 : Int) (4 : Int) ∧ i_12.p.part = within i_1.part (0 : Int) (100 : Int) ∧ iE i_12.p.settle = iE (kSettle (kTick i_1) (kN i_1).toNat) ∧ i_12.a = (↑i_7 : Int) ∧ i_12.b = IntKind.i64.wrap (n - n_1) ∧ (i_12.p.code.length ≤ (1099511627776 : Nat) ∧ i_12.p.months.length ≤ (1099511627776 : Nat) ∧ i_12.p.settle.length ≤ (1099511627776 : Nat)) ∧ ∀ (o : Unit), True → cnd (i_12.p.price i_12.a i_12.b == (0 : Int)) (∃ (i' : Bool), i' = true ∧ I_5 i' ∧ AObj.adt MSt (5 : Nat) StateU i_5 = AObj.adt MSt (5 : Nat) StateU i_5 ∧ AObj.own (55 : Nat) (6 : Nat) (List.map topE i_5.tops) = AObj.own (55 : Nat) (6 : Nat) (List.map topE i_5.tops) ∧ AObj.fro (1 : Nat) (iE (kSettle (kTick i_1) (kN i_1).toNat)) = AObj.fro (1 : Nat) (iE (kSettle (kTick i_1) (kN i_1).toNat)) ∧ AObj.fro (1 : Nat) (iE (kMonths (kN i_1).toNat)) = AObj.fro (1 : Nat) (iE (kMonths (kN i_1).toNat)) ∧ Vabr0 i_1 = Vabr0 i_1 ∧ Vabr1 i = Vabr1 i ∧ AObj.fro (1 : Nat) (iE i.x.settle) = AObj.fro (1 : Nat) (iE i.x.settle) ∧ AObj.fro (1 : Nat) (iE i.x.months) = AObj.fro (1 : Nat) (iE i.x.months)) (∃ (i_13 : SprI), sb i_13.p.code = sb [(206 : UInt8), (169 : UInt8)] ∧ iE i_13.p.months = iE (kMonths (kN i_1).toNat) ∧ i_13.p.tick = kTick i_1 ∧ i_13.p.low = (-20 : Int) * kTick i_1 ∧ i_13.p.high = (100 : Int) * kTick i_1 ∧ i_13.p.wide = kTick i_1 * ((5 : Int) + within i_1.wide (0 : Int) (60 : Int)) ∧ i_13.p.rule = (1 : Int) + within i_1.rule (0 : Int) (2 : Int) ∧ i_13.p.top = within i_1.top (0 : Int) (9 : Int) ∧ i_13.p.least = (1 : Int) + within i_1.least (0 : Int) (4 : Int) ∧ i_13.p.part = within i_1.part (0 : Int) (100 : Int) ∧ iE i_13.p.settle = iE (kSettle (kTick i_1) (kN i_1).toNat) ∧ i_13.a = (i_9.p.legs i_9.n).fst ∧ i_13.b = IntKind.i64.wrap (n_2 + n_1) ∧ (i_13.p.code.length ≤ (1099511627776 : Nat) ∧ i_13.p.months.length ≤ (1099511627776 : Nat) ∧ i_13.p.settle.length ≤ (1099511627776 : Nat)) ∧ ∀ (o : Unit), True → cnd (i_13.p.price i_13.a i_13.b == (0 : Int)) (∃ (i' : Bool), i' = true ∧ I_5 i' ∧ AObj.adt MSt (5 : Nat) StateU i_5 = AObj.adt MSt (5 : Nat) StateU i_5 ∧ AObj.own (55 : Nat) (6 : Nat) (List.map topE i_5.tops) = AObj.own (55 : Nat) (6 : Nat) (List.map topE i_5.tops) ∧ AObj.fro (1 : Nat) (iE (kSettle (kTick i_1) (kN i_1).toNat)) = AObj.fro (1 : Nat) (iE (kSettle (kTick i_1) (kN i_1).toNat)) ∧ AObj.fro (1 : Nat) (iE (kMonths (kN i_1).toNat)) = AObj.fro (1 : Nat) (iE (kMonths (kN i_1).toNat)) ∧ Vabr0 i_1 = Vabr0 i_1 ∧ Vabr1 i = Vabr1 i ∧ AObj.fro (1 : Nat) (iE i.x.settle) = AObj.fro (1 : Nat) (iE i.x.settle) ∧ AObj.fro (1 : Nat) (iE i.x.months) = AObj.fro (1 : Nat) (iE i.x.months)) (∃ (i_14 : SprI), sb i_14.p.code = sb [(206 : UInt8), (169 : UInt8)] ∧ iE i_14.p.months = iE (kMonths (kN i_1).toNat) ∧ i_14.p.tick = kTick i_1 ∧ i_14.p.low = (-20 : Int) * kTick i_1 ∧ i_14.p.high = (100 : Int) * kTick i_1 ∧ i_14.p.wide = kTick i_1 * ((5 : Int) + within i_1.wide (0 : Int) (60 : Int)) ∧ i_14.p.rule = (1 : Int) + within i_1.rule (0 : Int) (2 : Int) ∧ i_14.p.top = within i_1.top (0 : Int) (9 : Int) ∧ i_14.p.least = (1 : Int) + within i_1.least (0 : Int) (4 : Int) ∧ i_14.p.part = within i_1.part (0 : Int) (100 : Int) ∧ iE i_14.p.settle = iE (kSettle (kTick i_1) (kN i_1).toNat) ∧ i_14.a = (i_9.p.legs i_9.n).snd.fst ∧ i_14.b = IntKind.i64.wrap (n - n_2) ∧ (i_14.p.code.length ≤ (1099511627776 : Nat) ∧ i_14.p.months.length ≤ (1099511627776 : Nat) ∧ i_14.p.settle.length ≤ (1099511627776 : Nat)) ∧ ∀ (o : Unit), True → ∃ (i' : Bool), i' = (i_14.p.price i_14.a i_14.b == (0 : Int)) ∧ I_5 i' ∧ AObj.adt MSt (5 : Nat) StateU i_5 = AObj.adt MSt (5 : Nat) StateU i_5 ∧ AObj.own (55 : Nat) (6 : Nat) (List.map topE i_5.tops) = AObj.own (55 : Nat) (6 : Nat) (List.map topE i_5.tops) ∧ AObj.fro (1 : Nat) (iE (kSettle (kTick i_1) (kN i_1).toNat)) = AObj.fro (1 : Nat) (iE (kSettle (kTick i_1) (kN i_1).toNat)) ∧ AObj.fro (1 : Nat) (iE (kMonths (kN i_1).toNat)) = AObj.fro (1 : Nat) (iE (kMonths (kN i_1).toNat)) ∧ Vabr0 i_1 = Vabr0 i_1 ∧ Vabr1 i = Vabr1 i ∧ AObj.fro (1 : Nat) (iE i.x.settle) = AObj.fro (1 : Nat) (iE i.x.settle) ∧ AObj.fro (1 : Nat) (iE i.x.months) = AObj.fro (1 : Nat) (iE i.x.months)))) ∧ ∀ (i_12 : Bool), I_5 i_12 → cnd ((List.range i_7).any (meetAt (kprod i.x) (abT i))) (∃ (i' : Bool), i' = true ∧ I i' ∧ AObj.adt MSt (5 : Nat) StateU i_5 = AObj.adt MSt (5 : Nat) StateU i_5 ∧ AObj.own (55 : Nat) (6 : Nat) (List.map topE i_5.tops) = AObj.own (55 : Nat) (6 : Nat) (List.map topE i_5.tops) ∧ AObj.fro (1 : Nat) (iE (kSettle (kTick i_1) (kN i_1).toNat)) = AObj.fro (1 : Nat) (iE (kSettle (kTick i_1) (kN i_1).toNat)) ∧ AObj.fro (1 : Nat) (iE (kMonths (kN i_1).toNat)) = AObj.fro (1 : Nat) (iE (kMonths (kN i_1).toNat)) ∧ Vabr0 i_1 = Vabr0 i_1 ∧ Vabr1 i = Vabr1 i ∧ AObj.fro (1 : Nat) (iE i.x.settle) = AObj.fro (1 : Nat) (iE i.x.settle) ∧ AObj.fro (1 : Nat) (iE i.x.months) = AObj.fro (1 : Nat) (iE i.x.months)) (cnd i_11 (∃ (i' : Bool), i' = i_12 ∧ I i' ∧ AObj.adt MSt (5 : Nat) StateU i_5 = AObj.adt MSt (5 : Nat) StateU i_5 ∧ AObj.own (55 : Nat) (6 : Nat) (List.map topE i_5.tops) = AObj.own (55 : Nat) (6 : Nat) (List.map topE i_5.tops) ∧ AObj.fro (1 : Nat) (iE (kSettle (kTick i_1) (kN i_1).toNat)) = AObj.fro (1 : Nat) (iE (kSettle (kTick i_1) (kN i_1).toNat)) ∧ AObj.fro (1 : Nat) (iE (kMonths (kN i_1).toNat)) = AObj.fro (1 : Nat) (iE (kMonths (kN i_1).toNat)) ∧ Vabr0 i_1 = Vabr0 i_1 ∧ Vabr1 i = Vabr1 i ∧ AObj.fro (1 : Nat) (iE i.x.settle) = AObj.fro (1 : Nat) (iE i.x.settle) ∧ AObj.fro (1 : Nat) (iE i.x.months) = AObj.fro (1 : Nat) (iE i.x.months)) (∃ (i' : Bool), i' = false ∧ I i' ∧ AObj.adt MSt (5 : Nat) StateU i_5 = AObj.adt MSt (5 : Nat) StateU i_5 ∧ AObj.own (55 : Nat) (6 : Nat) (List.map topE i_5.tops) = AObj.own (55 : Nat) (6 : Nat) (List.map topE i_5.tops) ∧ AObj.fro (1 : Nat) (iE (kSettle (kTick i_1) (kN i_1).toNat)) = AObj.fro (1 : Nat) (iE (kSettle (kTick i_1) (kN i_1).toNat)) ∧ AObj.fro (1 : Nat) (iE (kMonths (kN i_1).toNat)) = AObj.fro (1 : Nat) (iE (kMonths (kN i_1).toNat)) ∧ Vabr0 i_1 = Vabr0 i_1 ∧ Vabr1 i = Vabr1 i ∧ AObj.fro (1 : Nat) (iE i.x.settle) = AObj.fro (1 : Nat) (iE i.x.settle) ∧ AObj.fro (1 : Nat) (iE i.x.months) = AObj.fro (1 : Nat) (iE i.x.months))))) ∧ ∀ (i_10 : Bool), I i_10 → ∃ (i0 : Bool), ∃ (I : Bool → Prop), (∃ (i0 : Bool), ∃ (I_3 : Bool → Prop), (((0 : Int) ≤ (i_9.p.legs i_9.n).fst ∧ (i_9.p.legs i_9.n).fst < (↑(List.map topE i_5.tops).length : Int)) ∧ ∃ (b : Bool), elPart (List.map topE i_5.tops) (i_9.p.legs i_9.n).fst.toNat ((0 : Nat) + (0 : Nat) + (nat_lit 0 + nat_lit 1) % ((2 : Int) ^ IntKind.i64.bits).natAbs * (1 : Nat)) (1 : Nat) = some [D.v (.bool b)] ∧ cnd (!b) (∃ (i' : Bool), i' = true ∧ I_3 i' ∧ AObj.adt MSt (5 : Nat) StateU i_5 = AObj.adt MSt (5 : Nat) StateU i_5 ∧ AObj.own (55 : Nat) (6 : Nat) (List.map topE i_5.tops) = AObj.own (55 : Nat) (6 : Nat) (List.map topE i_5.tops) ∧ AObj.fro (1 : Nat) (iE (kSettle (kTick i_1) (kN i_1).toNat)) = AObj.fro (1 : Nat) (iE (kSettle (kTick i_1) (kN i_1).toNat)) ∧ AObj.fro (1 : Nat) (iE (kMonths (kN i_1).toNat)) = AObj.fro (1 : Nat) (iE (kMonths (kN i_1).toNat)) ∧ Vabr0 i_1 = Vabr0 i_1 ∧ Vabr1 i = Vabr1 i ∧ AObj.fro (1 : Nat) (iE i.x.settle) = AObj.fro (1 : Nat) (iE i.x.settle) ∧ AObj.fro (1 : Nat) (iE i.x.months) = AObj.fro (1 : Nat) (iE i.x.months)) (((0 : Int) ≤ (i_9.p.legs i_9.n).snd.fst ∧ (i_9.p.legs i_9.n).snd.fst < (↑(List.map topE i_5.tops).length : Int)) ∧ ∃ (b : Bool), elPart (List.map topE i_5.tops) (i_9.p.legs i_9.n).snd.fst.toNat ((0 : Nat) + (0 : Nat) + (nat_lit 1 - Nat.succ (nat_lit 0)) % ((2 : Int) ^ IntKind.i64.bits).natAbs * (1 : Nat)) (1 : Nat) = some [D.v (.bool b)] ∧ cnd (!b) (∃ (i' : Bool), i' = true ∧ I_3 i' ∧ AObj.adt MSt (5 : Nat) StateU i_5 = AObj.adt MSt (5 : Nat) StateU i_5 ∧ AObj.own (55 : Nat) (6 : Nat) (List.map topE i_5.tops) = AObj.own (55 : Nat) (6 : Nat) (List.map topE i_5.tops) ∧ AObj.fro (1 : Nat) (iE (kSettle (kTick i_1) (kN i_1).toNat)) = AObj.fro (1 : Nat) (iE (kSettle (kTick i_1) (kN i_1).toNat)) ∧ AObj.fro (1 : Nat) (iE (kMonths (kN i_1).toNat)) = AObj.fro (1 : Nat) (iE (kMonths (kN i_1).toNat)) ∧ Vabr0 i_1 = Vabr0 i_1 ∧ Vabr1 i = Vabr1 i ∧ AObj.fro (1 : Nat) (iE i.x.settle) = AObj.fro (1 : Nat) (iE i.x.settle) ∧ AObj.fro (1 : Nat) (iE i.x.months) = AObj.fro (1 : Nat) (iE i.x.months)) (((0 : Int) ≤ (↑i_7 : Int) ∧ (↑i_7 : Int) < (↑(List.map topE i_5.tops).length : Int)) ∧ ∃ (b : Bool), elPart (List.map topE i_5.tops) (↑i_7 : Int).toNat ((0 : Nat) + (0 : Nat) + (nat_lit 1 - Nat.succ (nat_lit 0)) % ((2 : Int) ^ IntKind.i64.bits).natAbs * (1 : Nat)) (1 : Nat) = some [D.v (.bool b)] ∧ ∃ (i' : Bool), i' = !b ∧ I_3 i' ∧ AObj.adt MSt (5 : Nat) StateU i_5 = AObj.adt MSt (5 : Nat) StateU i_5 ∧ AObj.own (55 : Nat) (6 : Nat) (List.map topE i_5.tops) = AObj.own (55 : Nat) (6 : Nat) (List.map topE i_5.tops) ∧ AObj.fro (1 : Nat) (iE (kSettle (kTick i_1) (kN i_1).toNat)) = AObj.fro (1 : Nat) (iE (kSettle (kTick i_1) (kN i_1).toNat)) ∧ AObj.fro (1 : Nat) (iE (kMonths (kN i_1).toNat)) = AObj.fro (1 : Nat) (iE (kMonths (kN i_1).toNat)) ∧ Vabr0 i_1 = Vabr0 i_1 ∧ Vabr1 i = Vabr1 i ∧ AObj.fro (1 : Nat) (iE i.x.settle) = AObj.fro (1 : Nat) (iE i.x.settle) ∧ AObj.fro (1 : Nat) (iE i.x.months) = AObj.fro (1 : Nat) (iE i.x.months)))) ∧ ∀ (i_11 : Bool), I_3 i_11 → cnd i_11 (∃ (i' : Bool), i' = i_10 ∧ I i' ∧ AObj.adt MSt (5 : Nat) StateU i_5 = AObj.adt MSt (5 : Nat) StateU i_5 ∧ AObj.own (55 : Nat) (6 : Nat) (List.map topE i_5.tops) = AObj.own (55 : Nat) (6 : Nat) (List.map topE i_5.tops) ∧ AObj.fro (1 : Nat) (iE (kSettle (kTick i_1) (kN i_1).toNat)) = AObj.fro (1 : Nat) (iE (kSettle (kTick i_1) (kN i_1).toNat)) ∧ AObj.fro (1 : Nat) (iE (kMonths (kN i_1).toNat)) = AObj.fro (1 : Nat) (iE (kMonths (kN i_1).toNat)) ∧ Vabr0 i_1 = Vabr0 i_1 ∧ Vabr1 i = Vabr1 i ∧ AObj.fro (1 : Nat) (iE i.x.settle) = AObj.fro (1 : Nat) (iE i.x.settle) ∧ AObj.fro (1 : Nat) (iE i.x.months) = AObj.fro (1 : Nat) (iE i.x.months)) (((0 : Int) ≤ (i_9.p.legs i_9.n).fst ∧ (i_9.p.legs i_9.n).fst < (↑(List.map topE i_5.tops).length : Int)) ∧ ∃ (n : Int), elPart (List.map topE i_5.tops) (i_9.p.legs i_9.n).fst.toNat ((0 : Nat) + (2 : Nat) + (nat_lit 0 + nat_lit 1) % ((2 : Int) ^ IntKind.i64.bits).natAbs * (1 : Nat)) (1 : Nat) = some [D.v (.int .i64 n)] ∧ ((0 : Int) ≤ (i_9.p.legs i_9.n).snd.fst ∧ (i_9.p.legs i_9.n).snd.fst < (↑(List.map topE i_5.tops).length : Int)) ∧ ∃ (n_1 : Int), elPart (List.map topE i_5.tops) (i_9.p.legs i_9.n).snd.fst.toNat ((0 : Nat) + (2 : Nat) + (nat_lit 1 - Nat.succ (nat_lit 0)) % ((2 : Int) ^ IntKind.i64.bits).natAbs * (1 : Nat)) (1 : Nat) = some [D.v (.int .i64 n_1)] ∧ ((0 : Int) ≤ (↑i_7 : Int) ∧ (↑i_7 : Int) < (↑(List.map topE i_5.tops).length : Int)) ∧ ∃ (n_2 : Int), elPart (List.map topE i_5.tops) (↑i_7 : Int).toNat ((0 : Nat) + (2 : Nat) + (nat_lit 1 - Nat.succ (nat_lit 0)) % ((2 : Int) ^ IntKind.i64.bits).natAbs * (1 : Nat)) (1 : Nat) = some [D.v (.int .i64 n_2)] ∧ ∃ (i0 : Bool), ∃ (I_4 : Bool → Prop), (∃ (i' : Bool), i' = decide (IntKind.i64.wrap (n - n_1) ≤ n_2) ∧ I_4 i' ∧ AObj.adt MSt (5 : Nat) StateU i_5 = AObj.adt MSt (5 : Nat) StateU i_5 ∧ AObj.own (55 : Nat) (6 : Nat) (List.map topE i_5.tops) = AObj.own (55 : Nat) (6 : Nat) (List.map topE i_5.tops) ∧ AObj.fro (1 : Nat) (iE (kSettle (kTick i_1) (kN i_1).toNat)) = AObj.fro (1 : Nat) (iE (kSettle (kTick i_1) (kN i_1).toNat)) ∧ AObj.fro (1 : Nat) (iE (kMonths (kN i_1).toNat)) = AObj.fro (1 : Nat) (iE (kMonths (kN i_1).toNat)) ∧ Vabr0 i_1 = Vabr0 i_1 ∧ Vabr1 i = Vabr1 i ∧ AObj.fro (1 : Nat) (iE i.x.settle) = AObj.fro (1 : Nat) (iE i.x.settle) ∧ AObj.fro (1 : Nat) (iE i.x.months) = AObj.fro (1 : Nat) (iE i.x.months)) ∧ ∀ (i_12 : Bool), I_4 i_12 → ∃ (i0 : Bool), ∃ (I_5 : Bool → Prop), (∃ (i_13 : SprI), sb i_13.p.code = sb [(206 : UInt8), (169 : UInt8)] ∧ iE i_13.p.months = iE (kMonths (kN i_1).toNat) ∧ i_13.p.tick = kTick i_1 ∧ i_13.p.low = (-20 : Int) * kTick i_1 ∧ i_13.p.high = (100 : Int) * kTick i_1 ∧ i_13.p.wide = kTick i_1 * ((5 : Int) + within i_1.wide (0 : Int) (60 : Int)) ∧ i_13.p.rule = (1 : Int) + within i_1.rule (0 : Int) (2 : Int) ∧ i_13.p.top = within i_1.top (0 : Int) (9 : Int) ∧ i_13.p.least = (1 : Int) + within i_1.least (0 : Int) (4 : Int) ∧ i_13.p.part = within i_1.part (0 : Int) (100 : Int) ∧ iE i_13.p.settle = iE (kSettle (kTick i_1) (kN i_1).toNat) ∧ i_13.a = (↑i_7 : Int) ∧ i_13.b = IntKind.i64.wrap (n - n_1) ∧ (i_13.p.code.length ≤ (1099511627776 : Nat) ∧ i_13.p.months.length ≤ (1099511627776 : Nat) ∧ i_13.p.settle.length ≤ (1099511627776 : Nat)) ∧ ∀ (o : Unit), True → cnd (i_13.p.price i_13.a i_13.b == (0 : Int)) (∃ (i' : Bool), i' = true ∧ I_5 i' ∧ AObj.adt MSt (5 : Nat) StateU i_5 = AObj.adt MSt (5 : Nat) StateU i_5 ∧ AObj.own (55 : Nat) (6 : Nat) (List.map topE i_5.tops) = AObj.own (55 : Nat) (6 : Nat) (List.map topE i_5.tops) ∧ AObj.fro (1 : Nat) (iE (kSettle (kTick i_1) (kN i_1).toNat)) = AObj.fro (1 : Nat) (iE (kSettle (kTick i_1) (kN i_1).toNat)) ∧ AObj.fro (1 : Nat) (iE (kMonths (kN i_1).toNat)) = AObj.fro (1 : Nat) (iE (kMonths (kN i_1).toNat)) ∧ Vabr0 i_1 = Vabr0 i_1 ∧ Vabr1 i = Vabr1 i ∧ AObj.fro (1 : Nat) (iE i.x.settle) = AObj.fro (1 : Nat) (iE i.x.settle) ∧ AObj.fro (1 : Nat) (iE i.x.months) = AObj.fro (1 : Nat) (iE i.x.months)) (∃ (i_14 : SprI), sb i_14.p.code = sb [(206 : UInt8), (169 : UInt8)] ∧ iE i_14.p.months = iE (kMonths (kN i_1).toNat) ∧ i_14.p.tick = kTick i_1 ∧ i_14.p.low = (-20 : Int) * kTick i_1 ∧ i_14.p.high = (100 : Int) * kTick i_1 ∧ i_14.p.wide = kTick i_1 * ((5 : Int) + within i_1.wide (0 : Int) (60 : Int)) ∧ i_14.p.rule = (1 : Int) + within i_1.rule (0 : Int) (2 : Int) ∧ i_14.p.top = within i_1.top (0 : Int) (9 : Int) ∧ i_14.p.least = (1 : Int) + within i_1.least (0 : Int) (4 : Int) ∧ i_14.p.part = within i_1.part (0 : Int) (100 : Int) ∧ iE i_14.p.settle = iE (kSettle (kTick i_1) (kN i_1).toNat) ∧ i_14.a = (i_9.p.legs i_9.n).fst ∧ i_14.b = IntKind.i64.wrap (n_2 + n_1) ∧ (i_14.p.code.length ≤ (1099511627776 : Nat) ∧ i_14.p.months.length ≤ (1099511627776 : Nat) ∧ i_14.p.settle.length ≤ (1099511627776 : Nat)) ∧ ∀ (o : Unit), True → cnd (i_14.p.price i_14.a i_14.b == (0 : Int)) (∃ (i' : Bool), i' = true ∧ I_5 i' ∧ AObj.adt MSt (5 : Nat) StateU i_5 = AObj.adt MSt (5 : Nat) StateU i_5 ∧ AObj.own (55 : Nat) (6 : Nat) (List.map topE i_5.tops) = AObj.own (55 : Nat) (6 : Nat) (List.map topE i_5.tops) ∧ AObj.fro (1 : Nat) (iE (kSettle (kTick i_1) (kN i_1).toNat)) = AObj.fro (1 : Nat) (iE (kSettle (kTick i_1) (kN i_1).toNat)) ∧ AObj.fro (1 : Nat) (iE (kMonths (kN i_1).toNat)) = AObj.fro (1 : Nat) (iE (kMonths (kN i_1).toNat)) ∧ Vabr0 i_1 = Vabr0 i_1 ∧ Vabr1 i = Vabr1 i ∧ AObj.fro (1 : Nat) (iE i.x.settle) = AObj.fro (1 : Nat) (iE i.x.settle) ∧ AObj.fro (1 : Nat) (iE i.x.months) = AObj.fro (1 : Nat) (iE i.x.months)) (∃ (i_15 : SprI), sb i_15.p.code = sb [(206 : UInt8), (169 : UInt8)] ∧ iE i_15.p.months = iE (kMonths (kN i_1).toNat) ∧ i_15.p.tick = kTick i_1 ∧ i_15.p.low = (-20 : Int) * kTick i_1 ∧ i_15.p.high = (100 : Int) * kTick i_1 ∧ i_15.p.wide = kTick i_1 * ((5 : Int) + within i_1.wide (0 : Int) (60 : Int)) ∧ i_15.p.rule = (1 : Int) + within i_1.rule (0 : Int) (2 : Int) ∧ i_15.p.top = within i_1.top (0 : Int) (9 : Int) ∧ i_15.p.least = (1 : Int) + within i_1.least (0 : Int) (4 : Int) ∧ i_15.p.part = within i_1.part (0 : Int) (100 : Int) ∧ iE i_15.p.settle = iE (kSettle (kTick i_1) (kN i_1).toNat) ∧ i_15.a = (i_9.p.legs i_9.n).snd.fst ∧ i_15.b = IntKind.i64.wrap (n - n_2) ∧ (i_15.p.code.length ≤ (1099511627776 : Nat) ∧ i_15.p.months.length ≤ (1099511627776 : Nat) ∧ i_15.p.settle.length ≤ (1099511627776 : Nat)) ∧ ∀ (o : Unit), True → ∃ (i' : Bool), i' = (i_15.p.price i_15.a i_15.b == (0 : Int)) ∧ I_5 i' ∧ AObj.adt MSt (5 : Nat) StateU i_5 = AObj.adt MSt (5 : Nat) StateU i_5 ∧ AObj.own (55 : Nat) (6 : Nat) (List.map topE i_5.tops) = AObj.own (55 : Nat) (6 : Nat) (List.map topE i_5.tops) ∧ AObj.fro (1 : Nat) (iE (kSettle (kTick i_1) (kN i_1).toNat)) = AObj.fro (1 : Nat) (iE (kSettle (kTick i_1) (kN i_1).toNat)) ∧ AObj.fro (1 : Nat) (iE (kMonths (kN i_1).toNat)) = AObj.fro (1 : Nat) (iE (kMonths (kN i_1).toNat)) ∧ Vabr0 i_1 = Vabr0 i_1 ∧ Vabr1 i = Vabr1 i ∧ AObj.fro (1 : Nat) (iE i.x.settle) = AObj.fro (1 : Nat) (iE i.x.settle) ∧ AObj.fro (1 : Nat) (iE i.x.months) = AObj.fro (1 : Nat) (iE i.x.months)))) ∧ ∀ (i_13 : Bool), I_5 i_13 → cnd i_10 (∃ (i' : Bool), i' = true ∧ I i' ∧ AObj.adt MSt (5 : Nat) StateU i_5 = AObj.adt MSt (5 : Nat) StateU i_5 ∧ AObj.own (55 : Nat) (6 : Nat) (List.map topE i_5.tops) = AObj.own (55 : Nat) (6 : Nat) (List.map topE i_5.tops) ∧ AObj.fro (1 : Nat) (iE (kSettle (kTick i_1) (kN i_1).toNat)) = AObj.fro (1 : Nat) (iE (kSettle (kTick i_1) (kN i_1).toNat)) ∧ AObj.fro (1 : Nat) (iE (kMonths (kN i_1).toNat)) = AObj.fro (1 : Nat) (iE (kMonths (kN i_1).toNat)) ∧ Vabr0 i_1 = Vabr0 i_1 ∧ Vabr1 i = Vabr1 i ∧ AObj.fro (1 : Nat) (iE i.x.settle) = AObj.fro (1 : Nat) (iE i.x.settle) ∧ AObj.fro (1 : Nat) (iE i.x.months) = AObj.fro (1 : Nat) (iE i.x.months)) (cnd i_12 (∃ (i' : Bool), i' = i_13 ∧ I i' ∧ AObj.adt MSt (5 : Nat) StateU i_5 = AObj.adt MSt (5 : Nat) StateU i_5 ∧ AObj.own (55 : Nat) (6 : Nat) (List.map topE i_5.tops) = AObj.own (55 : Nat) (6 : Nat) (List.map topE i_5.tops) ∧ AObj.fro (1 : Nat) (iE (kSettle (kTick i_1) (kN i_1).toNat)) = AObj.fro (1 : Nat) (iE (kSettle (kTick i_1) (kN i_1).toNat)) ∧ AObj.fro (1 : Nat) (iE (kMonths (kN i_1).toNat)) = AObj.fro (1 : Nat) (iE (kMonths (kN i_1).toNat)) ∧ Vabr0 i_1 = Vabr0 i_1 ∧ Vabr1 i = Vabr1 i ∧ AObj.fro (1 : Nat) (iE i.x.settle) = AObj.fro (1 : Nat) (iE i.x.settle) ∧ AObj.fro (1 : Nat) (iE i.x.months) = AObj.fro (1 : Nat) (iE i.x.months)) (∃ (i' : Bool), i' = false ∧ I i' ∧ AObj.adt MSt (5 : Nat) StateU i_5 = AObj.adt MSt (5 : Nat) StateU i_5 ∧ AObj.own (55 : Nat) (6 : Nat) (List.map topE i_5.tops) = AObj.own (55 : Nat) (6 : Nat) (List.map topE i_5.tops) ∧ AObj.fro (1 : Nat) (iE (kSettle (kTick i_1) (kN i_1).toNat)) = AObj.fro (1 : Nat) (iE (kSettle (kTick i_1) (kN i_1).toNat)) ∧ AObj.fro (1 : Nat) (iE (kMonths (kN i_1).toNat)) = AObj.fro (1 : Nat) (iE (kMonths (kN i_1).toNat)) ∧ Vabr0 i_1 = Vabr0 i_1 ∧ Vabr1 i = Vabr1 i ∧ AObj.fro (1 : Nat) (iE i.x.settle) = AObj.fro (1 : Nat) (iE i.x.settle) ∧ AObj.fro (1 : Nat) (iE i.x.months) = AObj.fro (1 : Nat) (iE i.x.months))))) ∧ ∀ (i_11 : Bool), I i_11 → ∃ (i' : B2), i'.a = i_8 ∧ i'.b = i_11 ∧ I_2 i' ∧ AObj.adt MSt (5 : Nat) StateU i_5 = AObj.adt MSt (5 : Nat) StateU i_5 ∧ AObj.own (55 : Nat) (6 : Nat) (List.map topE i_5.tops) = AObj.own (55 : Nat) (6 : Nat) (List.map topE i_5.tops) ∧ AObj.fro (1 : Nat) (iE (kSettle (kTick i_1) (kN i_1).toNat)) = AObj.fro (1 : Nat) (iE (kSettle (kTick i_1) (kN i_1).toNat)) ∧ AObj.fro (1 : Nat) (iE (kMonths (kN i_1).toNat)) = AObj.fro (1 : Nat) (iE (kMonths (kN i_1).toNat)) ∧ Vabr0 i_1 = Vabr0 i_1 ∧ Vabr1 i = Vabr1 i ∧ AObj.fro (1 : Nat) (iE i.x.settle) = AObj.fro (1 : Nat) (iE i.x.settle) ∧ AObj.fro (1 : Nat) (iE i.x.months) = AObj.fro (1 : Nat) (iE i.x.months))) ∧ ∀ (i_8 : B2), I_2 i_8 → ∃ (i' : Nat), (List.range i').any (crossAt (abT i)) = i_8.a ∧ (List.range i').any (meetAt (kprod i.x) (abT i)) = i_8.b ∧ (↑i' : Int) = IntKind.i64.wrap ((↑i_7 : Int) + (1 : Int)) ∧ I i' ∧ μ i' < μ i_7 ∧ AObj.adt MSt (5 : Nat) StateU i_5 = AObj.adt MSt (5 : Nat) StateU i_5 ∧ AObj.own (55 : Nat) (6 : Nat) (List.map topE i_5.tops) = AObj.own (55 : Nat) (6 : Nat) (List.map topE i_5.tops) ∧ AObj.fro (1 : Nat) (iE (kSettle (kTick i_1) (kN i_1).toNat)) = AObj.fro (1 : Nat) (iE (kSettle (kTick i_1) (kN i_1).toNat)) ∧ AObj.fro (1 : Nat) (iE (kMonths (kN i_1).toNat)) = AObj.fro (1 : Nat) (iE (kMonths (kN i_1).toNat)) ∧ Vabr0 i_1 = Vabr0 i_1 ∧ Vabr1 i = Vabr1 i ∧ AObj.fro (1 : Nat) (iE i.x.settle) = AObj.fro (1 : Nat) (iE i.x.settle) ∧ AObj.fro (1 : Nat) (iE i.x.months) = AObj.fro (1 : Nat) (iE i.x.months)) (∃ (i_8 : BkI), sb i_8.p.code = sb [(206 : UInt8), (169 : UInt8)] ∧ iE i_8.p.months = iE (kMonths (kN i_1).toNat) ∧ i_8.p.tick = kTick i_1 ∧ i_8.p.low = (-20 : Int) * kTick i_1 ∧ i_8.p.high = (100 : Int) * kTick i_1 ∧ i_8.p.wide = kTick i_1 * ((5 : Int) + within i_1.wide (0 : Int) (60 : Int)) ∧ i_8.p.rule = (1 : Int) + within i_1.rule (0 : Int) (2 : Int) ∧ i_8.p.top = within i_1.top (0 : Int) (9 : Int) ∧ i_8.p.least = (1 : Int) + within i_1.least (0 : Int) (4 : Int) ∧ i_8.p.part = within i_1.part (0 : Int) (100 : Int) ∧ iE i_8.p.settle = iE (kSettle (kTick i_1) (kN i_1).toNat) ∧ AObj.adt MSt (5 : Nat) StateU i_8.s = AObj.adt MSt (5 : Nat) StateU i_5 ∧ ((i_8.p.code.length ≤ (1099511627776 : Nat) ∧ i_8.p.months.length ≤ (1099511627776 : Nat) ∧ i_8.p.settle.length ≤ (1099511627776 : Nat)) ∧ (i_8.s.books.length ≤ (1000000 : Nat) ∧ ∀ (b : Book), b ∈ i_8.s.books → ∀ (q : Queue), q ∈ b.a.queues → (-9223372036854775808 : Int) ≤ q.count ∧ q.count ≤ (9223372036854775807 : Int)) ∧ i_8.s.tops.length ≤ (1000000 : Nat) ∧ ∀ (t : Top), t ∈ i_8.s.tops → ((-9223372036854775808 : Int) ≤ t.p1 ∧ t.p1 ≤ (9223372036854775807 : Int)) ∧ (-9223372036854775808 : Int) ≤ t.p2 ∧ t.p2 ≤ (9223372036854775807 : Int)) ∧ ∀ (o : Unit), True → cnd ((List.range i_7).any (crossAt (abT i))) (cnd (booksErr i_8.p i_8.s.tops == (23 : Int)) (∃ (i : Unit), True ∧ ∀ (o : Unit), True → ∃ (o : Unit), true = true ∧ True) (∃ (o : Unit), true = false ∧ True)) (cnd ((List.range i_7).any (meetAt (kprod i.x) (abT i))) (cnd (booksErr i_8.p i_8.s.tops == (21 : Int)) (∃ (i : Unit), True ∧ ∀ (o : Unit), True → ∃ (o : Unit), true = true ∧ True) (∃ (o : Unit), true = false ∧ True)) (cnd (booksErr i_8.p i_8.s.tops == (0 : Int)) (∃ (i : Unit), True ∧ ∀ (o : Unit), True → ∃ (o : Unit), true = true ∧ True) (∃ (o : Unit), true = false ∧ True))))))) ∧ ∀ (o : Unit), i_2.check ≠ (0 : Int) → ∃ (o : Unit), true = false ∧ True
theorem eqab (i : AbI) : Vab i = walk Try.prog ([(14, kprodC), (15, newSC), (16, tameC), (17, saddC), (18, topsC), (19, r5countC), (20, r5legsC), (21, r5priceC), (22, booksC), (13, known25C)]) 0 (abJ) (abA i) [] Try.f4 (Try.f4.body.getD .skip) (abC.pat i) (abC.pre i) (abC.alts i) := by kernel_rfl

end Sx

namespace Sx
set_option linter.unusedVariables false
set_option linter.unusedSimpArgs false
set_option maxRecDepth 100000
open Go Cv Go.Proofs

theorem vtame (t : TmI) (h : tameC.cnd t) : Vtame t := by
  obtain ⟨hc, hs, ⟨r1, r2, r3, r4, r5, r6, r7, r8⟩, i0, i1⟩ : t.p.check = 0 ∧ t.p.small ∧ t.c.raw ∧ 0 ≤ t.i ∧ t.i ≤ 1000000 := h
  have ok := check0 hc
  have t1 := ok.t1
  have t2 := ok.t2
  have m2 := ok.m2
  have hcl := count_le t.p
  have hcd := count_def hc
  have bk := within_bd (n := t.c.kind) (lo := 0) (hi := 8) (by omega)
  have bi := within_bd (n := t.c.id) (lo := 0) (hi := 30) (by omega)
  have bs := within_bd (n := t.c.side) (lo := 0) (hi := 1) (by omega)
  have bq := within_bd (n := t.c.qty) (lo := 0) (hi := 11) (by omega)
  have bp := within_bd (n := t.c.price) (lo := 0) (hi := 9) (by omega)
  have mb := mul_bd (a := t.p.tick) (b := within t.c.price 0 9) (m := 1000) (n := 9) (by omega) (by omega)
  have wp : IntKind.i64.wrap (t.p.tick * within t.c.price 0 9) = t.p.tick * within t.c.price 0 9 := w64 (by omega)
  unfold Vtame
  refine ⟨⟨t.c.kind, 0, 8⟩, rfl, rfl, rfl, ⟨r1, by dsimp only; omega, by dsimp only; omega, by dsimp only; omega⟩, fun _ _ => ⟨⟨t.c.id, 0, 30⟩, rfl, rfl, rfl, ⟨r2, by dsimp only; omega, by dsimp only; omega, by dsimp only; omega⟩, fun _ _ => ?_⟩⟩
  dsimp only
  rw [w64 (x := 1 + within t.c.kind 0 8) (by omega), w64 (x := 1 + within t.c.id 0 30) (by omega)]
  refine ⟨⟨1 + within t.c.kind 0 8, 1 + within t.c.id 0 30, 0, 0, 0, 0, 0, 0, []⟩, rfl, rfl, rfl, rfl, rfl, rfl, rfl, rfl, rfl, fun c => c = ⟨tmKind t.c, 1 + within t.c.id 0 30, 0, 0, 0, 0, 0, 0, []⟩, cndD (fun e => ⟨⟨tmKind t.c, 1 + within t.c.id 0 30, 0, 0, 0, 0, 0, 0, []⟩, ?_, rfl, rfl, rfl, rfl, rfl, rfl, rfl, rfl, rfl, by (repeat' (first | exact trivial | exact rfl | apply And.intro))⟩) (fun e => ⟨⟨tmKind t.c, 1 + within t.c.id 0 30, 0, 0, 0, 0, 0, 0, []⟩, ?_, rfl, rfl, rfl, rfl, rfl, rfl, rfl, rfl, rfl, by (repeat' (first | exact trivial | exact rfl | apply And.intro))⟩), fun c hcc => ?_⟩
  · dsimp only at e ⊢; rw [tmKind, if_pos (by omega)]
  · dsimp only at e ⊢; rw [tmKind, if_neg (by omega)]
  subst hcc
  refine ⟨t.p, rfl, rfl, rfl, rfl, rfl, rfl, rfl, rfl, rfl, rfl, rfl, hs, fun _ _ => ?_⟩
  rw [w64 (x := (t.p.count : Int) - 1) (by omega)]
  refine ⟨⟨t.c.inst, 0, (t.p.count : Int) - 1⟩, rfl, rfl, rfl, ⟨r3, by dsimp only; omega, by dsimp only; omega, by dsimp only; omega⟩, fun _ _ => ⟨⟨t.c.side, 0, 1⟩, rfl, rfl, rfl, ⟨r4, by dsimp only; omega, by dsimp only; omega, by dsimp only; omega⟩, fun _ _ => ⟨⟨t.c.qty, 0, 11⟩, rfl, rfl, rfl, ⟨r6, by dsimp only; omega, by dsimp only; omega, by dsimp only; omega⟩, fun _ _ => ⟨⟨t.c.price, 0, 9⟩, rfl, rfl, rfl, ⟨r5, by dsimp only; omega, by dsimp only; omega, by dsimp only; omega⟩, fun _ _ => ⟨rfl, ?_⟩⟩⟩⟩⟩
  dsimp only
  rw [wp, w64 (x := 1 + within t.c.side 0 1) (by omega), w64 (x := 1 + within t.c.qty 0 11) (by omega), w64 (x := t.i + 1) (by omega)]
  refine Cv.cnd.mk (fun k => ?_) (fun k => ?_)
  · have k : tmKind t.c = 1 := by simpa using k
    refine ⟨{ tmHead t with id := t.i + 1, time := 1 }, rfl, rfl, rfl, rfl, rfl, rfl, rfl, rfl, rfl, fun c => c = { tmHead t with id := t.i + 1, time := if t.c.time.tmod 5 = 2 then 2 else 1 }, ⟨rfl, by decide, Cv.cnd.mk (fun e => ⟨{ tmHead t with id := t.i + 1, time := 2 }, rfl, rfl, rfl, rfl, rfl, rfl, rfl, rfl, rfl, ?_, by (repeat' (first | exact trivial | exact rfl | apply And.intro))⟩) (fun e => ⟨{ tmHead t with id := t.i + 1, time := 1 }, rfl, rfl, rfl, rfl, rfl, rfl, rfl, rfl, rfl, ?_, by (repeat' (first | exact trivial | exact rfl | apply And.intro))⟩)⟩, fun c hcc => ?_⟩
    · have e : t.c.time.tmod 5 = 2 := by simpa using e
      rw [if_pos e]
    · have e : ¬ t.c.time.tmod 5 = 2 := by simpa using e
      rw [if_neg e]
    subst hcc
    refine ⟨{ tmHead t with id := t.i + 1, time := if t.c.time.tmod 5 = 2 then 2 else 1 }, rfl, rfl, rfl, rfl, rfl, rfl, rfl, rfl, rfl, fun c => c = { tmHead t with id := t.i + 1, time := tmTime t.c }, ⟨rfl, by decide, Cv.cnd.mk (fun e => ⟨{ tmHead t with id := t.i + 1, time := 3 }, rfl, rfl, rfl, rfl, rfl, rfl, rfl, rfl, rfl, ?_, by (repeat' (first | exact trivial | exact rfl | apply And.intro))⟩) (fun e => ⟨{ tmHead t with id := t.i + 1, time := if t.c.time.tmod 5 = 2 then 2 else 1 }, rfl, rfl, rfl, rfl, rfl, rfl, rfl, rfl, rfl, ?_, by (repeat' (first | exact trivial | exact rfl | apply And.intro))⟩)⟩, fun c hcc => ?_⟩
    · have e : t.c.time.tmod 5 = 3 := by simpa using e
      rw [tmTime, if_pos e]
    · have e : ¬ t.c.time.tmod 5 = 3 := by simpa using e
      rw [tmTime, if_neg e]
    subst hcc
    have hq : (tmHead t).qty = 1 + within t.c.qty 0 11 := rfl
    refine ⟨{ tmHead t with id := t.i + 1, time := tmTime t.c }, rfl, rfl, rfl, rfl, rfl, rfl, rfl, rfl, rfl, fun c => c = { tmHead t with id := t.i + 1, time := tmTime t.c, least := tmLeast t.c (tmHead t).qty }, ⟨rfl, by decide, Cv.cnd.mk (fun e => ⟨⟨t.c.least, 0, (tmHead t).qty⟩, rfl, rfl, rfl, ⟨r7, by dsimp only; omega, by dsimp only; omega, by dsimp only; omega⟩, fun _ _ => ⟨{ tmHead t with id := t.i + 1, time := tmTime t.c, least := within t.c.least 0 (tmHead t).qty }, rfl, rfl, rfl, rfl, rfl, rfl, rfl, rfl, rfl, ?_, by (repeat' (first | exact trivial | exact rfl | apply And.intro))⟩⟩) (fun e => ⟨{ tmHead t with id := t.i + 1, time := tmTime t.c }, rfl, rfl, rfl, rfl, rfl, rfl, rfl, rfl, rfl, ?_, by (repeat' (first | exact trivial | exact rfl | apply And.intro))⟩)⟩, fun c hcc => ?_⟩
    · have e : t.c.least.tmod 4 = 1 := by simpa using e
      rw [tmLeast, if_pos e]
    · have e : ¬ t.c.least.tmod 4 = 1 := by simpa using e
      rw [tmLeast, if_neg e]; rfl
    subst hcc
    refine ⟨⟨t.p, (tmHead t).inst⟩, rfl, rfl, rfl, rfl, rfl, rfl, rfl, rfl, rfl, rfl, rfl, rfl, hs, fun _ _ => ?_⟩
    dsimp only
    have hp : (tmHead t).price = t.p.tick * within t.c.price 0 9 := rfl
    have hk1 : (tmHead t).kind = 1 := k
    rw [w64 (x := 8 * t.p.tick) (by omega), w64 (x := 4 * t.p.tick) (by omega), w64 (x := (tmHead t).price + 8 * t.p.tick) (by omega), w64 (x := (tmHead t).price - 4 * t.p.tick) (by omega)]
    refine Cv.cnd.mk (fun e => ⟨(), ?_⟩) (fun e => ⟨(), ?_⟩)
    · have e : (t.p.legs (tmHead t).inst).2.2 = false := by simpa using e
      have : tame t = { tmHead t with id := t.i + 1, time := tmTime t.c, least := tmLeast t.c (tmHead t).qty, price := (tmHead t).price + 8 * t.p.tick } := by
        simp only [tame, hk1, if_true, e, Bool.false_eq_true, if_false]
      rw [this]; (repeat' (first | exact trivial | exact rfl | apply And.intro))
    · have e : (t.p.legs (tmHead t).inst).2.2 = true := by simpa using e
      have : tame t = { tmHead t with id := t.i + 1, time := tmTime t.c, least := tmLeast t.c (tmHead t).qty, price := (tmHead t).price - 4 * t.p.tick } := by
        simp only [tame, hk1, if_true, e]
      rw [this]; (repeat' (first | exact trivial | exact rfl | apply And.intro))
  · have k : ¬ tmKind t.c = 1 := by simpa using k
    have k : ¬ (tmHead t).kind = 1 := k
    rw [w64 (x := 5 * t.p.tick) (by omega), w64 (x := t.p.tick * within t.c.price 0 9 + 5 * t.p.tick) (by omega)]
    have et : tame t = { tmHead t with price := if (tmHead t).kind = 4 then (tmHead t).price + 5 * t.p.tick else (tmHead t).price, side := 0, inst := 0 } := by
      simp only [tame, k, if_false]
    rw [et]
    refine Cv.cnd.mk (fun e => ⟨(), ?_⟩) (fun e => ⟨(), ?_⟩)
    · have e : tmKind t.c = 4 := by simpa using e
      have e : (tmHead t).kind = 4 := e
      simp only [if_pos e]; (repeat' (first | exact trivial | exact rfl | apply And.intro))
    · have e : ¬ tmKind t.c = 4 := by simpa using e
      have e : ¬ (tmHead t).kind = 4 := e
      simp only [if_neg e]; (repeat' (first | exact trivial | exact rfl | apply And.intro))
theorem tame_ok : tameC.ok Try.prog 16 := bytame (gokc within_ok (gokc r5count_ok (gokc r5legs_ok gok0))) vtame

end Sx

namespace Sx
set_option linter.unusedVariables false
set_option linter.unusedSimpArgs false
set_option maxRecDepth 100000
open Go Cv Go.Proofs

/-! ### What an add keeps -/
theorem i64_rng (n : Int) : -9223372036854775808 ≤ IntKind.i64.wrap n ∧ IntKind.i64.wrap n ≤ 9223372036854775807 := by
  have : IntKind.i64.wrap n = if 9223372036854775808 ≤ n % 18446744073709551616 then n % 18446744073709551616 - 18446744073709551616 else n % 18446744073709551616 := by unfold IntKind.wrap; simp [IntKind.signed, IntKind.bits]
  rw [this]
  split <;> omega
theorem map_modify {α β : Type} {g : α → β} {f : α → α} (h : ∀ x, g (f x) = g x) : ∀ (l : List α) (i : Nat), (l.modify i f).map g = l.map g
  | [], i => by simp
  | a :: l, 0 => by simp [h]
  | a :: l, i + 1 => by rw [List.modify_succ_cons, List.map_cons, List.map_cons, map_modify h l i]
theorem count_set : ∀ (l : List Bool) (i : Nat) (b : Bool), (l.set i b).count true ≤ l.count true + 1
  | [], i, b => by simp
  | a :: l, 0, b => by cases a <;> cases b <;> simp <;> omega
  | a :: l, i + 1, b => by
    have := count_set l i b
    cases a <;> simp [List.count_cons] <;> omega
def Arena.inv (m n : Nat) (a : Arena) : Prop := a.slots.length = 250 ∧ (a.slots.map (·.used)).count true ≤ n ∧ a.queues.length ≤ m ∧ ∀ q ∈ a.queues, (q.last = -1 ∨ (0 ≤ q.last ∧ q.last < 250)) ∧ i64r q.count
theorem Arena.inv.mono {m n m' n' : Nat} {a : Arena} (h : a.inv m n) (hm : m ≤ m') (hn : n ≤ n') : a.inv m' n' := ⟨h.1, Nat.le_trans h.2.1 hn, Nat.le_trans h.2.2.1 hm, h.2.2.2⟩
theorem Arena.inv.free {m n : Nat} {a : Arena} (h : a.inv m n) (hn : n < 250) : ∃ s ∈ a.slots, s.used = false := by
  apply Classical.byContradiction
  intro hx
  have : (a.slots.map (·.used)).count true = (a.slots.map (·.used)).length := by
    rw [List.count_eq_length]
    intro b hb
    obtain ⟨s, hs, rfl⟩ := List.mem_map.1 hb
    cases hu : s.used with
    | true => rfl
    | false => exact absurd ⟨s, hs, hu⟩ hx
  rw [List.length_map, h.1] at this
  have := h.2.1
  omega
theorem Arena.inv.fit {m n : Nat} {a : Arena} (h : a.inv m n) (hn : n < 250) : a.fit := by
  refine ⟨by rw [h.1]; decide, fun _ => h.free hn, fun q hq => ?_⟩
  rw [h.1]
  exact (h.2.2.2 q hq).1
theorem Arena.inv.top {m n : Nat} {a : Arena} (h : a.inv m n) (k : Int) (t : Bool) : (a.topF k t).inv m n := by
  rw [Arena.topF]
  split
  · refine ⟨by simpa using h.1, ?_, h.2.2.1, h.2.2.2⟩
    dsimp only
    rw [map_modify (g := fun s : Slot => s.used) (f := fun s : Slot => { s with top := t }) (fun _ => rfl)]
    exact h.2.1
  · exact h
theorem Arena.inv.open {m n : Nat} {a : Arena} (h : a.inv m n) : a.openQ.inv (m + 1) n := by
  refine ⟨h.1, h.2.1, by have := h.2.2.1; simp [Arena.openQ]; omega, fun q hq => ?_⟩
  rcases List.mem_append.1 hq with hq | hq
  · exact h.2.2.2 q hq
  · rw [List.mem_singleton.1 hq]; exact ⟨.inl rfl, by decide⟩
theorem Arena.inv.push {m n : Nat} {a : Arena} (h : a.inv m n) (hn : n < 250) (k id qty : Int) (top : Bool) : (a.push k id qty top).1.inv m (n + 1) := by
  have h' : a.inv m (n + 1) := h.mono (Nat.le_refl m) (Nat.le_succ n)
  rw [Arena.push]
  split
  · exact h'
  split
  · exact h'
  split
  · exact h'
  obtain ⟨f, hf, hfl⟩ := freeI_in (h.free hn)
  rw [h.1] at hfl
  have hc : ∀ x : Slot, ((a.slots.set (freeI a.slots).toNat x).map (·.used)).count true ≤ n + 1 := by
    intro x
    rw [List.map_set]
    have := count_set (a.slots.map (·.used)) (freeI a.slots).toNat x.used
    have := h.2.1
    omega
  refine ⟨?_, ?_, ?_, ?_⟩
  · dsimp only [Arena.put]
    split <;> simp [h.1]
  · dsimp only [Arena.put]
    split
    · exact hc _
    · rw [map_modify (g := fun s : Slot => s.used) (f := fun s : Slot => { s with back := freeI a.slots }) (fun _ => rfl)]; exact hc _
  · dsimp only [Arena.put]; rw [List.length_set]; exact h.2.2.1
  · intro q hq
    rcases List.mem_or_eq_of_mem_set hq with hq | rfl
    · exact h.2.2.2 q hq
    · exact ⟨.inr (by dsimp only; omega), i64_rng _⟩

/-- What holds of a book after n adds of prices that are right. -/
structure Book.Inv (Q : Int → Prop) (n : Nat) (b : Book) : Prop where
  a : b.a.inv n n
  l1 : b.buys.length ≤ n
  l2 : b.sells.length ≤ n
  sp : b.spare = []
  p1 : ∀ r ∈ b.buys, Q r.price
  p2 : ∀ r ∈ b.sells, Q r.price
theorem Book.Inv.fit {Q n b} (h : Book.Inv Q n b) (hn : n < 250) : b.fit := by
  have := h.l1
  have := h.l2
  have := h.a.2.2.1
  exact ⟨h.a.fit hn, by omega, by omega, by omega, by rw [h.sp]; decide⟩
theorem Book.Inv.mono {Q n m b} (h : Book.Inv Q n b) (hm : n ≤ m) : b.Inv Q m := ⟨h.a.mono hm hm, Nat.le_trans h.l1 hm, Nat.le_trans h.l2 hm, h.sp, h.p1, h.p2⟩
theorem book0_inv (Q : Int → Prop) : book0.Inv Q 0 := ⟨⟨by simp [book0, arena0], by simp [book0, arena0, slot0], by simp [book0, arena0], by simp [book0, arena0]⟩, by simp [book0], by simp [book0], rfl, by simp [book0], by simp [book0]⟩
theorem Book.Inv.untop {Q n b} (h : Book.Inv Q n b) (s : Int) : (b.untop s).inv n n := by
  rw [Book.untop]
  repeat' split
  all_goals first | exact h.a | exact h.a.top _ _
theorem Book.Inv.led {Q n b} (h : Book.Inv Q n b) (id s p : Int) : (b.led id s p).Inv Q n := by
  rw [Book.led]
  split
  · rw [Book.leadF]
    split
    all_goals exact ⟨h.untop s, h.l1, h.l2, h.sp, h.p1, h.p2⟩
  · exact h
theorem ins_len (b : Book) (s p : Int) : (b.ins s p).length = (b.rungs s).length + 1 := by
  have := findN_le s p (b.rungs s)
  simp [Book.ins]; omega
theorem ins_mem {Q : Int → Prop} {b : Book} {s p : Int} (hp : Q p) (h : ∀ r ∈ b.rungs s, Q r.price) : ∀ r ∈ b.ins s p, Q r.price := by
  intro r hr
  rw [Book.ins] at hr
  rcases List.mem_append.1 hr with hr | hr
  · exact h r (List.mem_of_mem_take hr)
  · rcases List.mem_cons.1 hr with rfl | hr
    · exact hp
    · exact h r (List.mem_of_mem_drop hr)
/-- A queue that is opened, not yet held. -/
theorem Book.Inv.queue {Q n b} (h : Book.Inv Q n b) (s p : Int) (hp : Q p) : (b.queueF s p).1.a.inv (n + 1) n ∧ (b.queueF s p).1.buys.length ≤ n + 1 ∧ (b.queueF s p).1.sells.length ≤ n + 1 ∧ (b.queueF s p).1.spare = [] ∧ (∀ r ∈ (b.queueF s p).1.buys, Q r.price) ∧ ∀ r ∈ (b.queueF s p).1.sells, Q r.price := by
  have hl1 := h.l1
  have hl2 := h.l2
  have hq : b.newQ = ((b.a.queues.length : Int), b.spare, b.a.openQ) := by rw [Book.newQ, if_pos (by rw [h.sp]; rfl)]
  have hi := ins_len b s p
  rw [Book.queueF]
  split
  · exact ⟨h.a.mono (Nat.le_succ n) (Nat.le_refl n), by dsimp only; omega, by dsimp only; omega, h.sp, h.p1, h.p2⟩
  split
  · rename_i e
    subst e
    rw [rungs1] at hi
    exact ⟨by dsimp only; rw [hq]; exact h.a.open, by dsimp only; omega, by dsimp only; omega, by dsimp only; rw [hq]; exact h.sp, ins_mem hp h.p1, h.p2⟩
  · rename_i e
    have er : b.rungs s = b.sells := by rw [Book.rungs, if_neg e]
    rw [er] at hi
    exact ⟨by dsimp only; rw [hq]; exact h.a.open, by dsimp only; omega, by dsimp only; omega, by dsimp only; rw [hq]; exact h.sp, h.p1, ins_mem hp (by rw [er]; exact h.p2)⟩
theorem Book.Inv.stand {Q n b} (h : Book.Inv Q n b) (hn : n < 250) (s id p qty : Int) (hp : Q p) : (b.stand s id p qty).Inv Q (n + 1) := by
  obtain ⟨q1, q2, q3, q4, q5, q6⟩ := (h.led id s p).queue s p hp
  exact ⟨q1.push hn _ _ _ _, q2, q3, q4, q5, q6⟩
theorem Book.Inv.add {Q n b} (h : Book.Inv Q n b) (hn : n < 250) (s id p qty : Int) (hp : Q p) : (b.addF s id p qty).1.Inv Q (n + 1) := by
  rw [Book.addF]
  repeat' split
  all_goals first | exact h.mono (Nat.le_succ n) | exact h.stand hn s id p qty hp

structure MSt.Inv (p : Prd) (n : Nat) (s : MSt) : Prop where
  e : s.p = p
  l : s.books.length = p.count
  b : ∀ (k : Nat) (b : Book), s.books[k]? = some b → b.Inv (fun v => p.price k v = 0) n
theorem MSt.Inv.mono {p n m s} (h : MSt.Inv p n s) (hm : n ≤ m) : s.Inv p m := ⟨h.e, h.l, fun k b hb => (h.b k b hb).mono hm⟩
theorem state0_inv (p : Prd) : (state0 p).Inv p 0 := by
  refine ⟨rfl, by simp [state0], fun k b hb => ?_⟩
  have : b = book0 := by
    have := List.mem_of_getElem? hb
    exact List.eq_of_mem_replicate this
  rw [this]; exact book0_inv _
theorem MSt.Inv.add {p n s} (h : MSt.Inv p n s) (hn : n < 250) (inst id : Int) (sd : Bool) (price qty : Int) : (MSt.addF ⟨s, inst, id, sd, price, qty⟩).1.Inv p (n + 1) := by
  rw [MSt.addF]
  split
  · exact h.mono (Nat.le_succ n)
  split
  · exact h.mono (Nat.le_succ n)
  split
  · exact h.mono (Nat.le_succ n)
  split
  · exact h.mono (Nat.le_succ n)
  rename_i c1 _ _ c4
  dsimp only at c1 c4 ⊢
  have c4 : s.p.price inst price = 0 := by simpa using c4
  rw [h.e] at c4
  refine ⟨h.e, by simpa using h.l, fun k b hb => ?_⟩
  dsimp only at hb
  rw [List.getElem?_set] at hb
  split at hb
  · rename_i e
    split at hb
    · cases hb
      obtain ⟨x, hx⟩ := getI (l := s.books) (i := inst.toNat) (by omega)
      have hba : s.bookAt inst = x := getD_of hx
      rw [hba]
      have hx' := h.b _ _ hx
      rw [e] at hx'
      exact hx'.add hn _ _ _ _ (by rw [← e, Int.toNat_of_nonneg (by omega)]; exact c4)
    · cases hb
  · exact (h.b k b hb).mono (Nat.le_succ n)
theorem abS_succ (i : AbI) (j : Nat) : abS i (j + 1) = abStep i (abS i j) j := by
  rw [abS, List.range_succ, List.foldl_append]; rfl
theorem abS_inv (i : AbI) : ∀ {j : Nat}, j ≤ 30 → (abS i j).Inv (kprod i.x) j
  | 0, _ => state0_inv _
  | j + 1, h => by
    rw [abS_succ, abStep]
    split
    · exact (abS_inv i (by omega)).add (by omega) _ _ _ _ _
    · exact (abS_inv i (by omega)).mono (Nat.le_succ j)
theorem MSt.Inv.fit {p n s} (h : MSt.Inv p n s) (hp : p.small) (hn : n < 250) (hc : p.count ≤ 1000) : s.fit := by
  refine ⟨by rw [h.e]; exact hp, by have := h.l; omega, fun b hb => ?_⟩
  obtain ⟨k, hk⟩ := List.mem_iff_getElem?.1 hb
  exact (h.b k b hk).fit hn
theorem MSt.Inv.cnt {p n s} (h : MSt.Inv p n s) (hc : p.count ≤ 1000) : s.cntOk := by
  refine ⟨by have := h.l; omega, fun b hb q hq => ?_⟩
  obtain ⟨k, hk⟩ := List.mem_iff_getElem?.1 hb
  exact ((h.b k b hk).a.2.2.2 q hq).2

/-! ### Tops -/
theorem price_bd {p : Prd} (hc : p.check = 0) {k v : Int} (h : p.price k v = 0) : -2000000 ≤ v ∧ v ≤ 2000000 := by
  have ok := check0 hc
  have := ok.b1
  have := ok.b2
  have := ok.b3
  have := ok.b4
  have := ok.b5
  rw [Prd.price] at h
  by_cases c1 : p.count = 0
  · rw [if_pos c1] at h; cases h
  by_cases c2 : k < 0 ∨ (p.count : Int) ≤ k
  · rw [if_neg c1, if_pos c2] at h; cases h
  cases c3 : offB p.tick v with
  | true => rw [if_neg c1, if_neg c2, if_pos c3] at h; cases h
  | false =>
    rw [if_neg c1, if_neg c2, if_neg (by rw [c3]; decide)] at h
    by_cases c4 : (p.months.length : Int) ≤ k
    · simp only [if_pos c4] at h
      by_cases c5 : v < -p.wide ∨ p.wide < v
      · rw [if_pos c5] at h; cases h
      · omega
    · simp only [if_neg c4] at h
      by_cases c5 : v < p.low ∨ p.high < v
      · rw [if_pos c5] at h; cases h
      · omega
structure TopIn (p : Prd) (k : Nat) (t : Top) : Prop where
  a : t.has1 = true → p.price k t.p1 = 0
  b : t.has2 = true → p.price k t.p2 = 0
  c : -2000000 ≤ t.p1 ∧ t.p1 ≤ 2000000
  d : -2000000 ≤ t.p2 ∧ t.p2 ≤ 2000000
theorem top_in {p : Prd} (hc : p.check = 0) {k n : Nat} {b : Book} (h : b.Inv (fun v => p.price k v = 0) n) : TopIn p k b.top := by
  have h1 : b.buys = [] ∨ ∃ r l, b.buys = r :: l ∧ p.price k r.price = 0 := by
    cases hb : b.buys with
    | nil => exact .inl rfl
    | cons r l => exact .inr ⟨r, l, rfl, h.p1 r (by rw [hb]; exact List.mem_cons_self)⟩
  have h2 : b.sells = [] ∨ ∃ r l, b.sells = r :: l ∧ p.price k r.price = 0 := by
    cases hb : b.sells with
    | nil => exact .inl rfl
    | cons r l => exact .inr ⟨r, l, rfl, h.p2 r (by rw [hb]; exact List.mem_cons_self)⟩
  rcases h1 with h1 | ⟨r1, l1, h1, q1⟩ <;> rcases h2 with h2 | ⟨r2, l2, h2, q2⟩
  · rw [Book.top, h1, h2]
    exact ⟨fun c => by simp [Book.best, Top.buy, Top.sell, top0] at c, fun c => by simp [Book.best, Top.buy, Top.sell, top0] at c, by simp [Book.best, Top.buy, Top.sell, top0], by simp [Book.best, Top.buy, Top.sell, top0]⟩
  · rw [Book.top, h1, h2]
    exact ⟨fun c => by simp [Book.best, Top.buy, Top.sell, top0] at c, fun c => q2, by simp [Book.best, Top.buy, Top.sell, top0], price_bd hc q2⟩
  · rw [Book.top, h1, h2]
    exact ⟨fun c => q1, fun c => by simp [Book.best, Top.buy, Top.sell, top0] at c, price_bd hc q1, by simp [Book.best, Top.buy, Top.sell, top0]⟩
  · rw [Book.top, h1, h2]
    exact ⟨fun c => q1, fun c => q2, price_bd hc q1, price_bd hc q2⟩
theorem tops_in {p : Prd} (hc : p.check = 0) {n : Nat} {s : MSt} (h : s.Inv p n) {k : Nat} {t : Top} (hk : s.tops[k]? = some t) : TopIn p k t := by
  rw [MSt.tops, List.getElem?_map] at hk
  cases hb : s.books[k]? with
  | none => rw [hb] at hk; cases hk
  | some b => rw [hb] at hk; cases hk; exact top_in hc (h.b k b hb)
theorem tops_len {p : Prd} {n : Nat} {s : MSt} (h : s.Inv p n) : s.tops.length = p.count := by rw [MSt.tops, List.length_map]; exact h.l
theorem topsOk_of {p : Prd} (hc : p.check = 0) {n : Nat} {s : MSt} (h : s.Inv p n) (hl : p.count ≤ 1000) : topsOk s.tops := by
  refine ⟨by rw [tops_len h]; omega, fun t ht => ?_⟩
  obtain ⟨k, hk⟩ := List.mem_iff_getElem?.1 ht
  have ti := tops_in hc h hk
  have := ti.c
  have := ti.d
  exact ⟨by constructor <;> omega, by constructor <;> omega⟩

/-! ### A right product -/
theorem off_mul {t : Int} (k : Int) : offB t (t * k) = false := by
  simp [offB, Int.mul_tmod_right]
theorem kprod_small (x : Prd) : (kprod x).small := by
  have := kN_bd x
  refine ⟨by simp [kprod], ?_, ?_⟩
  · show (kMonths _).length ≤ _
    rw [kMonths_len]; omega
  · show (kSettle _ _).length ≤ _
    rw [kSettle_len]; omega

theorem kprod_check (x : Prd) : (kprod x).check = 0 := by
  have ht := kTick_bd x
  have hn := kN_bd x
  have hw := within_bd (n := x.wide) (lo := 0) (hi := 60) (by omega)
  have hr := within_bd (n := x.rule) (lo := 0) (hi := 2) (by omega)
  have ho := within_bd (n := x.top) (lo := 0) (hi := 9) (by omega)
  have hl := within_bd (n := x.least) (lo := 0) (hi := 4) (by omega)
  have hp := within_bd (n := x.part) (lo := 0) (hi := 100) (by omega)
  have h1 : symOk (kprod x).code = true := by show symOk [206, 169] = true; decide +kernel
  obtain ⟨k, hk, hk1⟩ : ∃ k : Nat, (kN x).toNat = k ∧ (2 ≤ k ∧ k ≤ 5) := ⟨_, rfl, by omega⟩
  have h2 : monthsOk (kprod x).months = true := by
    show monthsOk (kMonths (kN x).toNat) = true
    rw [hk]
    have : k = 2 ∨ k = 3 ∨ k = 4 ∨ k = 5 := by omega
    rcases this with rfl | rfl | rfl | rfl <;> decide
  have h3 : ticksOk (kprod x) = true := by
    have a : offB (kTick x) (-20 * kTick x) = false := by rw [Int.mul_comm]; exact off_mul _
    have b : offB (kTick x) (100 * kTick x) = false := by rw [Int.mul_comm]; exact off_mul _
    have c : (kSettle (kTick x) (kN x).toNat).any (offB (kTick x)) = false := by
      rw [List.any_eq_false]
      intro y hy
      obtain ⟨j, _, rfl⟩ := List.mem_map.1 hy
      rw [off_mul]; decide
    simp only [ticksOk, kprod, a, b, c, off_mul, Bool.not_false, Bool.and_true, Bool.and_eq_true]
    exact ⟨decide_eq_true (by omega), decide_eq_true (by omega)⟩
  have mw := mul_bd (a := kTick x) (b := 5 + within x.wide 0 60) (m := kTick x) (n := 65) (by omega) (by omega)
  have h4 : bandBad (kprod x) = false := by
    simp only [bandBad, kprod, Bool.or_eq_false_iff]
    exact ⟨⟨⟨⟨decide_eq_false (by omega), decide_eq_false (by omega)⟩, decide_eq_false (by omega)⟩, decide_eq_false (by omega)⟩, decide_eq_false (by omega)⟩
  have h5 : settleBad (kprod x) = false := by
    have e : (kSettle (kTick x) (kN x).toNat).length = (kMonths (kN x).toNat).length := by rw [kSettle_len, kMonths_len]
    have ne : kSettle (kTick x) (kN x).toNat ≠ [] := by
      intro hc
      have := kSettle_len (kTick x) (kN x).toNat
      rw [hc] at this
      simp at this
      omega
    have bd : ∀ y ∈ kSettle (kTick x) (kN x).toNat, 0 ≤ y ∧ y ≤ kTick x * 15 := by
      intro y hy
      obtain ⟨j, hj, rfl⟩ := List.mem_map.1 hy
      have := List.mem_range.1 hj
      exact mul_bd (by omega) (by omega)
    have m1 := bd _ (minL_mem ne)
    have m2 := bd _ (maxL_mem ne)
    simp only [settleBad, kprod, e, ne_eq, not_true_eq_false, decide_false, Bool.false_or, Bool.or_eq_false_iff]
    exact ⟨decide_eq_false (by omega), decide_eq_false (by omega)⟩
  have h6 : ruleBad (kprod x) = false := by
    simp only [ruleBad, kprod, Bool.or_eq_false_iff]
    exact ⟨decide_eq_false (by omega), decide_eq_false (by omega)⟩
  have h7 : qtyBad (kprod x) = false := by
    simp only [qtyBad, kprod, Bool.or_eq_false_iff]
    exact ⟨⟨⟨⟨⟨decide_eq_false (by omega), decide_eq_false (by omega)⟩, decide_eq_false (by omega)⟩, decide_eq_false (by omega)⟩, decide_eq_false (by omega)⟩, decide_eq_false (by omega)⟩
  rw [Prd.check, h1, h2, h3, h4, h5, h6, h7]
  rfl
theorem kcount (x : Prd) : (kprod x).count ≤ 1000 := by have := count_le (kprod x); omega

end Sx

namespace Sx
set_option linter.unusedVariables false
set_option linter.unusedSimpArgs false
set_option maxRecDepth 100000
open Go Cv Go.Proofs

/-! ### The best quote -/
theorem best_lo (x : Int) : ∀ (r : List Quote) (q : Quote), ((r.foldl (fun b q => if btr 2 q.price b.price then q else b) q).price ≤ x ↔ ∃ y ∈ q :: r, y.price ≤ x)
  | [], q => by simp
  | y :: r, q => by
    rw [List.foldl_cons, best_lo x r]
    simp only [btr, show ¬ ((2 : Int) = 1) by decide, if_false, decide_eq_true_eq, List.mem_cons, exists_eq_or_imp]
    by_cases h : y.price < q.price
    · simp only [if_pos h]
      constructor
      · rintro (a | a)
        · exact .inr (.inl a)
        · exact .inr (.inr a)
      · rintro (a | a | a)
        · exact .inl (by omega)
        · exact .inl a
        · exact .inr a
    · simp only [if_neg h]
      constructor
      · rintro (a | a)
        · exact .inl a
        · exact .inr (.inr a)
      · rintro (a | a | a)
        · exact .inl a
        · exact .inl (by omega)
        · exact .inr a
theorem best_hi (x : Int) : ∀ (r : List Quote) (q : Quote), (x ≤ (r.foldl (fun b q => if btr 1 q.price b.price then q else b) q).price ↔ ∃ y ∈ q :: r, x ≤ y.price)
  | [], q => by simp
  | y :: r, q => by
    rw [List.foldl_cons, best_hi x r]
    simp only [btr, if_true, decide_eq_true_eq, List.mem_cons, exists_eq_or_imp]
    by_cases h : q.price < y.price
    · simp only [if_pos h]
      constructor
      · rintro (a | a)
        · exact .inr (.inl a)
        · exact .inr (.inr a)
      · rintro (a | a | a)
        · exact .inl (by omega)
        · exact .inl a
        · exact .inr a
    · simp only [if_neg h]
      constructor
      · rintro (a | a)
        · exact .inl a
        · exact .inr (.inr a)
      · rintro (a | a | a)
        · exact .inl a
        · exact .inl (by omega)
        · exact .inr a
theorem bestQ_lo (l : List Quote) (x : Int) : ((bestQ l 2).2 = true ∧ (bestQ l 2).1.price ≤ x) ↔ ∃ y ∈ l, y.price ≤ x := by
  cases l with
  | nil => simp [bestQ]
  | cons q r => rw [← best_lo x r q]; simp [bestQ]
theorem bestQ_hi (l : List Quote) (x : Int) : ((bestQ l 1).2 = true ∧ x ≤ (bestQ l 1).1.price) ↔ ∃ y ∈ l, x ≤ y.price := by
  cases l with
  | nil => simp [bestQ]
  | cons q r => rw [← best_hi x r q]; simp [bestQ]

/-! ### Quotes, told by their prices -/
def PS (p : Prd) (T : List Top) (n : Nat) (s : Int) (v : Int) : Prop := ∃ q ∈ allQ ⟨p, T, n⟩ s, q.price = v
theorem meetsAt_iff (p : Prd) (T : List Top) (n : Nat) : meetsAt p T n = true ↔
    (∃ v, PS p T n 2 v ∧ p.price n v = 0 ∧ (T.getD n top0).has1 = true ∧ v ≤ (T.getD n top0).p1) ∨
    (∃ v, PS p T n 1 v ∧ p.price n v = 0 ∧ (T.getD n top0).has2 = true ∧ (T.getD n top0).p2 ≤ v) := by
  have h1 := bestQ_lo (quotesQ ⟨p, T, n⟩ 2) (T.getD n top0).p1
  have h2 := bestQ_hi (quotesQ ⟨p, T, n⟩ 1) (T.getD n top0).p2
  have m : ∀ s (y : Quote), y ∈ quotesQ ⟨p, T, n⟩ s ↔ y ∈ allQ ⟨p, T, n⟩ s ∧ p.price n y.price = 0 := by
    intro s y
    simp [quotesQ, List.mem_filter]
  simp only [meetsAt, crossB, Bool.or_eq_true, Bool.and_eq_true, decide_eq_true_eq]
  constructor
  · rintro (⟨⟨a, b⟩, c⟩ | ⟨⟨a, b⟩, c⟩)
    · obtain ⟨y, hy, hv⟩ := h1.1 ⟨b, c⟩
      exact .inl ⟨_, ⟨y, ((m _ _).1 hy).1, rfl⟩, ((m _ _).1 hy).2, a, hv⟩
    · obtain ⟨y, hy, hv⟩ := h2.1 ⟨b, c⟩
      exact .inr ⟨_, ⟨y, ((m _ _).1 hy).1, rfl⟩, ((m _ _).1 hy).2, a, hv⟩
  · rintro (⟨v, ⟨y, hy, rfl⟩, hp, a, hv⟩ | ⟨v, ⟨y, hy, rfl⟩, hp, a, hv⟩)
    · obtain ⟨b, c⟩ := h1.2 ⟨y, (m _ _).2 ⟨hy, hp⟩, hv⟩
      exact .inl ⟨⟨a, b⟩, c⟩
    · obtain ⟨b, c⟩ := h2.2 ⟨y, (m _ _).2 ⟨hy, hp⟩, hv⟩
      exact .inr ⟨⟨a, b⟩, c⟩
@[reducible] def smallT (T : List Top) : Prop := ∀ k s, -2000000 ≤ (T.getD k top0).price s ∧ (T.getD k top0).price s ≤ 2000000
theorem subP_in {x y : Int} (hx : -2000000 ≤ x ∧ x ≤ 2000000) (hy : -2000000 ≤ y ∧ y ≤ 2000000) : subP x y = (x - y, true) := by
  have : i64r (x - y) := ⟨by omega, by omega⟩
  rw [subP, if_pos this]
theorem addP_in {x y : Int} (hx : -2000000 ≤ x ∧ x ≤ 2000000) (hy : -2000000 ≤ y ∧ y ≤ 2000000) : addP x y = (x + y, true) := by
  have : i64r (x + y) := ⟨by omega, by omega⟩
  rw [addP, if_pos this]
@[reducible] def mkV (T : List Top) (a b : Leg) (less : Bool) : Int := if less = true then (T.getD b.inst.toNat top0).price b.side - (T.getD a.inst.toNat top0).price a.side else (T.getD a.inst.toNat top0).price a.side + (T.getD b.inst.toNat top0).price b.side
theorem mkq_eq {T : List Top} (h : smallT T) (a b : Leg) (less : Bool) : mkq T a b less = if ((T.getD a.inst.toNat top0).has a.side && (T.getD b.inst.toNat top0).has b.side) = true then [⟨mkV T a b less, min ((T.getD a.inst.toNat top0).qty a.side) ((T.getD b.inst.toNat top0).qty b.side), a, b⟩] else [] := by
  have h1 := h a.inst.toNat a.side
  have h2 := h b.inst.toNat b.side
  cases less with
  | true => simp only [mkq, subP_in h2 h1, if_true, Bool.and_true]; rfl
  | false => simp only [mkq, addP_in h1 h2, Bool.false_eq_true, if_false, Bool.and_true]; rfl
theorem mem_mkq {T : List Top} (h : smallT T) (a b : Leg) (less : Bool) (q : Quote) : q ∈ mkq T a b less → (T.getD a.inst.toNat top0).has a.side = true ∧ (T.getD b.inst.toNat top0).has b.side = true ∧ q.price = mkV T a b less := by
  rw [mkq_eq h]
  intro hq
  cases c : ((T.getD a.inst.toNat top0).has a.side && (T.getD b.inst.toNat top0).has b.side) with
  | true =>
    rw [if_pos c] at hq
    rw [Bool.and_eq_true] at c
    rw [List.mem_singleton.1 hq]
    exact ⟨c.1, c.2, rfl⟩
  | false => rw [if_neg (by rw [c]; decide)] at hq; cases hq
theorem mkq_mem {T : List Top} (h : smallT T) (a b : Leg) (less : Bool) (ha : (T.getD a.inst.toNat top0).has a.side = true) (hb : (T.getD b.inst.toNat top0).has b.side = true) : ∃ q ∈ mkq T a b less, q.price = mkV T a b less := by
  rw [mkq_eq h, if_pos (by rw [ha, hb]; rfl)]
  exact ⟨_, List.mem_singleton.2 rfl, rfl⟩

/-! ### Two months and their spread -/
theorem tri_fin : ∀ n ≤ 6, ∀ k < n + n * (n - 1) / 2, n ≤ k → ∃ a < n, ∃ b < n, a < b ∧ (firstOf n a : Int) + b - a - 1 = k := by decide
theorem spread_eq {p : Prd} (hc : p.check = 0) {a b : Nat} (hab : a < b) (hb : b < p.months.length) : (p.spread a b).1 = (firstOf p.months.length a : Int) + b - a - 1 := by
  rw [Prd.spread, if_neg (by omega)]
  simp
/-- Months a, b and their spread k. -/
structure Tri (p : Prd) (a b k : Nat) : Prop where
  hab : a < b
  hb : b < p.months.length
  hs : (p.spread a b).1 = k
  hk : k < p.count
  hm : p.months.length ≤ k
  hl : p.legs k = ((a : Int), (b : Int), true)
theorem tri_ab {p : Prd} (hc : p.check = 0) {a b : Nat} (hab : a < b) (hb : b < p.months.length) : ∃ k, Tri p a b k := by
  have m6 := (check0 hc).m6
  have e := spread_eq hc hab hb
  have l := legs_sp hc (a := a) (b := b - a - 1) (by omega) (by omega)
  have lf := legs_fin p.months.length m6 a (by omega) (b - a - 1) (by omega)
  refine ⟨firstOf p.months.length a + (b - a - 1), hab, hb, by rw [e]; omega, by rw [count_def hc]; exact lf.2.1, lf.2.2, ?_⟩
  rw [l, show a + 1 + (b - a - 1) = b by omega]
theorem tri_k {p : Prd} (hc : p.check = 0) {k : Nat} (hk : k < p.count) (hm : p.months.length ≤ k) : ∃ a b, Tri p a b k := by
  have m6 := (check0 hc).m6
  obtain ⟨a, ha, b, hb, hab, e⟩ := tri_fin p.months.length m6 k (by rw [← count_def hc]; exact hk) hm
  obtain ⟨k', t⟩ := tri_ab hc hab hb
  have : k' = k := by have := t.hs; rw [spread_eq hc hab hb, e] at this; omega
  exact ⟨a, b, this ▸ t⟩

theorem PS_sp {p : Prd} (hc : p.check = 0) {T : List Top} (h : smallT T) (hT : T.length = p.count) {a b k : Nat} (t : Tri p a b k) {s : Int} {v : Int} :
    PS p T k s v ↔ (T.getD a top0).has s = true ∧ (T.getD b top0).has (3 - s) = true ∧ v = (T.getD a top0).price s - (T.getD b top0).price (3 - s) := by
  have hk := t.hk
  have e : allQ ⟨p, T, k⟩ s = (spreadQ ⟨p, T, k⟩ s).map (turnQ ⟨p, T, k⟩ s) := by
    rw [allQ, if_neg (by dsimp only; omega), if_pos (by dsimp only; rw [t.hl])]
  have e2 : spreadQ ⟨p, T, k⟩ s = mkq T ⟨b, 3 - s⟩ ⟨a, s⟩ true := by
    rw [spreadQ]; dsimp only; rw [t.hl]
  rw [PS, e, e2]
  constructor
  · rintro ⟨q, hq, rfl⟩
    obtain ⟨q', hq', rfl⟩ := List.mem_map.1 hq
    obtain ⟨m1, m2, m3⟩ := mem_mkq h _ _ _ _ hq'
    exact ⟨m2, m1, m3⟩
  · rintro ⟨h1, h2, rfl⟩
    obtain ⟨q, hq, hp⟩ := mkq_mem h ⟨b, 3 - s⟩ ⟨a, s⟩ true h2 h1
    exact ⟨_, List.mem_map.2 ⟨q, hq, rfl⟩, hp⟩
theorem PS_out {p : Prd} (hc : p.check = 0) {T : List Top} (h : smallT T) (hT : T.length = p.count) {n : Nat} (hn : n < p.months.length) {s : Int} {v : Int} :
    PS p T n s v ↔ (∃ b k, Tri p n b k ∧ (T.getD k top0).has s = true ∧ (T.getD b top0).has s = true ∧ v = (T.getD k top0).price s + (T.getD b top0).price s) ∨
      (∃ a k, Tri p a n k ∧ (T.getD k top0).has (3 - s) = true ∧ (T.getD a top0).has s = true ∧ v = (T.getD a top0).price s - (T.getD k top0).price (3 - s)) := by
  have hcg := count_ge hc
  have hls : (p.legs n).2.2 = false := by rw [legs_single hc (by omega) (by omega)]; exact decide_eq_false (by omega)
  have e : allQ ⟨p, T, n⟩ s = laterQ ⟨p, T, n⟩ s (p.months.length - (n + 1)) ++ earlierQ ⟨p, T, n⟩ s n := by
    rw [allQ, if_neg (by dsimp only; omega), if_neg (by dsimp only; rw [hls]; decide)]
    simp
  rw [PS, e]
  have cast : ∀ j : Nat, (n : Int) + 1 + j = ((n + 1 + j : Nat) : Int) := fun j => by omega
  constructor
  · rintro ⟨q, hq, rfl⟩
    rcases List.mem_append.1 hq with hq | hq
    · left
      simp only [laterQ, List.mem_flatMap, List.mem_range] at hq
      obtain ⟨j, hj, hq⟩ := hq
      obtain ⟨k, t⟩ := tri_ab hc (a := n) (b := n + 1 + j) (by omega) (by omega)
      rw [cast, t.hs] at hq
      obtain ⟨m1, m2, m3⟩ := mem_mkq h _ _ _ _ hq
      exact ⟨_, _, t, m1, m2, m3⟩
    · right
      simp only [earlierQ, List.mem_flatMap, List.mem_range] at hq
      obtain ⟨j, hj, hq⟩ := hq
      obtain ⟨k, t⟩ := tri_ab hc (a := j) (b := n) hj hn
      rw [t.hs] at hq
      obtain ⟨m1, m2, m3⟩ := mem_mkq h _ _ _ _ hq
      exact ⟨_, _, t, m1, m2, m3⟩
  · rintro (⟨b, k, t, h1, h2, rfl⟩ | ⟨a, k, t, h1, h2, rfl⟩)
    · obtain ⟨q, hq, hp⟩ := mkq_mem h ⟨k, s⟩ ⟨b, s⟩ false h1 h2
      have hab := t.hab
      have hb := t.hb
      refine ⟨q, List.mem_append_left _ ?_, hp⟩
      simp only [laterQ, List.mem_flatMap, List.mem_range]
      refine ⟨b - (n + 1), by omega, ?_⟩
      rw [cast, show n + 1 + (b - (n + 1)) = b by omega, t.hs]
      exact hq
    · obtain ⟨q, hq, hp⟩ := mkq_mem h ⟨k, 3 - s⟩ ⟨a, s⟩ true h1 h2
      refine ⟨q, List.mem_append_right _ ?_, hp⟩
      simp only [earlierQ, List.mem_flatMap, List.mem_range]
      refine ⟨a, t.hab, ?_⟩
      rw [t.hs]
      exact hq
theorem meetAt_iff {p : Prd} {T : List Top} {a b k : Nat} (t : Tri p a b k) : meetAt p T k = true ↔
    ((T.getD a top0).has1 = true ∧ (T.getD b top0).has2 = true ∧ (T.getD k top0).has2 = true ∧ (T.getD k top0).p2 ≤ (T.getD a top0).p1 - (T.getD b top0).p2 ∧
      (p.price k ((T.getD a top0).p1 - (T.getD b top0).p2) = 0 ∨ p.price a ((T.getD k top0).p2 + (T.getD b top0).p2) = 0 ∨ p.price b ((T.getD a top0).p1 - (T.getD k top0).p2) = 0)) ∨
    ((T.getD a top0).has2 = true ∧ (T.getD b top0).has1 = true ∧ (T.getD k top0).has1 = true ∧ (T.getD a top0).p2 - (T.getD b top0).p1 ≤ (T.getD k top0).p1 ∧
      (p.price k ((T.getD a top0).p2 - (T.getD b top0).p1) = 0 ∨ p.price a ((T.getD k top0).p1 + (T.getD b top0).p1) = 0 ∨ p.price b ((T.getD a top0).p2 - (T.getD k top0).p1) = 0)) := by
  simp only [meetAt, meetSd, t.hl, Top.hs, Top.pr, Int.toNat_natCast, Bool.true_and, Bool.or_eq_true, Bool.and_eq_true, decide_eq_true_eq, ge_iff_le, if_true, show ¬ ((1 : Nat) = 0) by decide, if_false, and_assoc, or_assoc, Nat.sub_zero, Nat.sub_self]
theorem has_1 (t : Top) : t.has 1 = t.has1 := rfl
theorem has_2 (t : Top) : t.has 2 = t.has2 := rfl
theorem price_1 (t : Top) : t.price 1 = t.p1 := rfl
theorem price_2 (t : Top) : t.price 2 = t.p2 := rfl
theorem meets_iff {p : Prd} (hc : p.check = 0) {T : List Top} (h : smallT T) (hT : T.length = p.count) : (∃ n, n < T.length ∧ meetsAt p T n = true) ↔ ∃ k, k < T.length ∧ meetAt p T k = true := by
  constructor
  · rintro ⟨n, hn, hm⟩
    rw [hT] at hn
    rw [meetsAt_iff] at hm
    by_cases hs : p.months.length ≤ n
    · obtain ⟨a, b, t⟩ := tri_k hc hn hs
      refine ⟨n, by omega, (meetAt_iff t).2 ?_⟩
      rcases hm with ⟨v, hv, hp, h1, h2⟩ | ⟨v, hv, hp, h1, h2⟩
      · obtain ⟨q1, q2, rfl⟩ := (PS_sp hc h hT t).1 hv
        exact .inr ⟨q1, q2, h1, h2, .inl hp⟩
      · obtain ⟨q1, q2, rfl⟩ := (PS_sp hc h hT t).1 hv
        exact .inl ⟨q1, q2, h1, h2, .inl hp⟩
    · rcases hm with ⟨v, hv, hp, h1, h2⟩ | ⟨v, hv, hp, h1, h2⟩
      · rcases (PS_out hc h hT (by omega)).1 hv with ⟨b, k, t, q1, q2, rfl⟩ | ⟨a, k, t, q1, q2, rfl⟩
        · simp only [has_2, price_2] at q1 q2 h2 hp
          exact ⟨k, by rw [hT]; exact t.hk, (meetAt_iff t).2 (.inl ⟨h1, q2, q1, by omega, .inr (.inl hp)⟩)⟩
        · simp only [has_2, price_2, show (3 : Int) - 2 = 1 by decide, has_1, price_1] at q1 q2 h2 hp
          exact ⟨k, by rw [hT]; exact t.hk, (meetAt_iff t).2 (.inr ⟨q2, h1, q1, by omega, .inr (.inr hp)⟩)⟩
      · rcases (PS_out hc h hT (by omega)).1 hv with ⟨b, k, t, q1, q2, rfl⟩ | ⟨a, k, t, q1, q2, rfl⟩
        · simp only [has_1, price_1] at q1 q2 h2 hp
          exact ⟨k, by rw [hT]; exact t.hk, (meetAt_iff t).2 (.inr ⟨h1, q2, q1, by omega, .inr (.inl hp)⟩)⟩
        · simp only [has_2, price_2, show (3 : Int) - 1 = 2 by decide, has_1, price_1] at q1 q2 h2 hp
          exact ⟨k, by rw [hT]; exact t.hk, (meetAt_iff t).2 (.inl ⟨q2, h1, q1, by omega, .inr (.inr hp)⟩)⟩
  · rintro ⟨k, hk, hm⟩
    rw [hT] at hk
    have hcg := count_ge hc
    by_cases hs : p.months.length ≤ k
    · obtain ⟨a, b, t⟩ := tri_k hc hk hs
      have hab := t.hab
      have hb := t.hb
      rcases (meetAt_iff t).1 hm with ⟨h1, h2, h3, h4, g | g | g⟩ | ⟨h1, h2, h3, h4, g | g | g⟩
      · exact ⟨k, by omega, (meetsAt_iff p T k).2 (.inr ⟨_, (PS_sp hc h hT t).2 ⟨h1, h2, rfl⟩, g, h3, h4⟩)⟩
      · exact ⟨a, by omega, (meetsAt_iff p T a).2 (.inl ⟨_, (PS_out hc h hT (by omega)).2 (.inl ⟨b, k, t, h3, h2, rfl⟩), g, h1, by rw [price_2, price_2]; omega⟩)⟩
      · exact ⟨b, by omega, (meetsAt_iff p T b).2 (.inr ⟨_, (PS_out hc h hT (by omega)).2 (.inr ⟨a, k, t, h3, h1, rfl⟩), g, h2, by show _ ≤ (T.getD a top0).p1 - (T.getD k top0).p2; omega⟩)⟩
      · exact ⟨k, by omega, (meetsAt_iff p T k).2 (.inl ⟨_, (PS_sp hc h hT t).2 ⟨h1, h2, rfl⟩, g, h3, h4⟩)⟩
      · exact ⟨a, by omega, (meetsAt_iff p T a).2 (.inr ⟨_, (PS_out hc h hT (by omega)).2 (.inl ⟨b, k, t, h3, h2, rfl⟩), g, h1, by rw [price_1, price_1]; omega⟩)⟩
      · exact ⟨b, by omega, (meetsAt_iff p T b).2 (.inl ⟨_, (PS_out hc h hT (by omega)).2 (.inr ⟨a, k, t, h3, h1, rfl⟩), g, h2, by show (T.getD a top0).p2 - (T.getD k top0).p1 ≤ _; omega⟩)⟩
    · exfalso
      have hls : (p.legs k).2.2 = false := by rw [legs_single hc (by omega) (by omega)]; exact decide_eq_false (by omega)
      rw [meetAt, hls] at hm
      cases hm
theorem any_iff {n : Nat} {f : Nat → Bool} : (List.range n).any f = true ↔ ∃ k, k < n ∧ f k = true := by
  simp [List.any_eq_true, List.mem_range]
theorem booksErr_eq {p : Prd} (hc : p.check = 0) {T : List Top} (h : smallT T) (hT : T.length = p.count) :
    booksErr p T = if (List.range T.length).any (crossAt T) = true then 23 else if (List.range T.length).any (meetAt p T) = true then 21 else 0 := by
  have e1 : (fun n => crossT (T.getD n top0)) = crossAt T := by
    funext n
    rw [crossT, crossB, crossAt, Bool.and_assoc]
  have e2 : (List.range T.length).any (meetsAt p T) = (List.range T.length).any (meetAt p T) := by
    rw [Bool.eq_iff_iff, any_iff, any_iff]
    exact meets_iff hc h hT
  rw [booksErr, if_neg (by simp [hc]), e1, e2]
theorem smallT_of {p : Prd} (hc : p.check = 0) {n : Nat} {s : MSt} (h : s.Inv p n) : smallT s.tops := by
  intro k d
  have h0 : ∀ t : Top, TopIn p k t → -2000000 ≤ t.price d ∧ t.price d ≤ 2000000 := by
    intro t ht
    rw [Top.price]
    split
    · exact ht.c
    · exact ht.d
  rw [List.getD_eq_getElem?_getD]
  cases hk : s.tops[k]? with
  | none => exact h0 top0 ⟨fun c => Bool.noConfusion c, fun c => Bool.noConfusion c, ⟨by decide, by decide⟩, ⟨by decide, by decide⟩⟩
  | some t => exact h0 t (tops_in hc h hk)

end Sx

namespace Sx
set_option linter.unusedVariables false
set_option linter.unusedSimpArgs false
set_option maxRecDepth 100000
open Go Cv Go.Proofs

theorem dup {P Q : Prop} (h : P) (q : Q) : P ∧ True ∧ Q ∧ P := ⟨h, trivial, q, h⟩
theorem elCm {l : List Cmd} {k : Nat} {c : Cmd} (h : l[k]? = some c) : elPart (l.map cmdE) k 0 9 = some [D.v (.int .i64 c.kind), .v (.int .i64 c.id), .v (.int .i64 c.inst), .v (.int .i64 c.side), .v (.int .i64 c.price), .v (.int .i64 c.qty), .v (.int .i64 c.least), .v (.int .i64 c.time), .v (.string (sb c.label))] := elA h (by simp [cmdE]) rfl
theorem get_D {α : Type} {l : List α} {k : Nat} (d : α) (h : k < l.length) : l[k]? = some (l.getD k d) := by
  obtain ⟨x, hx⟩ := getI (l := l) (i := k) h
  rw [hx, getD_of hx]
theorem any_succ (k : Nat) (f : Nat → Bool) : (List.range (k + 1)).any f = ((List.range k).any f || f k) := by
  rw [List.range_succ, List.any_append]; simp
theorem tame_side {t : TmI} (h : (tame t).kind = 1) : (tame t).side = 1 ∨ (tame t).side = 2 := by
  have bs := within_bd (n := t.c.side) (lo := 0) (hi := 1) (by omega)
  have e : (tmHead t).side = 1 + within t.c.side 0 1 := rfl
  by_cases k : (tmHead t).kind = 1
  · have : (tame t).side = (tmHead t).side := by simp only [tame, k, if_true]
    omega
  · have : (tame t).kind = (tmHead t).kind := by simp only [tame, k, if_false]
    omega
theorem sd_N {n : Int} (h : n = 1 ∨ n = 2) : sideN (decide (n = 2)) = n := by
  rcases h with rfl | rfl <;> rfl

theorem elT {T : List Top} {k o : Nat} {d : D} (hk : k < T.length) (hd : (topE (T.getD k top0))[o]? = some d) : elPart (T.map topE) k o 1 = some [d] := by
  refine elA (get_D top0 hk) ?_ ?_
  · have := (List.getElem?_eq_some_iff.1 hd).1
    omega
  · obtain ⟨h1, h2⟩ := List.getElem?_eq_some_iff.1 hd
    rw [List.drop_eq_getElem_cons h1, List.take_succ_cons, List.take_zero, h2]

theorem not_t {b : Bool} (h : (!b) = true) : b = false := by cases b <;> simp_all
theorem not_f {b : Bool} (h : (!b) = false) : b = true := by cases b <;> simp_all
theorem has_no {a b c : Bool} (h : (!(a && (b && c))) = true) : (a && b && c) = false := by cases a <;> cases b <;> cases c <;> simp_all
theorem has_yes {a b c : Bool} (h : (!(a && (b && c))) = false) : a = true ∧ b = true ∧ c = true := by cases a <;> cases b <;> cases c <;> simp_all
theorem dec_f {x : Int} (h : (x == 0) = false) : decide (x = 0) = false := h

theorem vab (i : AbI) (h : abC.cnd i) : Vab i := by
  obtain ⟨hraw, hcraw, hlen⟩ : i.x.raw ∧ (∀ c ∈ i.l, c.raw) ∧ i.l.length ≤ 9223372036854775807 := h
  have hc := kprod_check i.x
  have hs := kprod_small i.x
  have hct := kcount i.x
  unfold Vab
  refine ⟨i.x, rfl, rfl, rfl, rfl, rfl, rfl, rfl, rfl, rfl, rfl, rfl, hraw, fun _ _ => ⟨kprod i.x, rfl, rfl, rfl, rfl, rfl, rfl, rfl, rfl, rfl, rfl, rfl, hs, fun _ _ => ?_, fun _ hne => absurd hc hne⟩⟩
  refine ⟨0, rfl, rfl, fun j => j ≤ 30 ∧ j ≤ i.l.length, fun j => 30 - j, ⟨by decide, Nat.zero_le _⟩, fun j hj => ?_⟩
  obtain ⟨hj30, hjl⟩ := hj
  have hml : (List.map cmdE i.l).length = i.l.length := List.length_map _
  rw [hml]
  refine ⟨true, fun b => b = decide (j < i.l.length ∧ j < 30), cndD (fun c => ⟨_, rfl, ?_, by (repeat' (first | exact trivial | exact rfl | apply And.intro))⟩) (fun c => ⟨_, rfl, ?_, by (repeat' (first | exact trivial | exact rfl | apply And.intro))⟩), fun b hb => ?_⟩
  · dsimp only at c ⊢; rw [Bool.eq_iff_iff, decide_eq_true_eq, decide_eq_true_eq]; omega
  · dsimp only at c ⊢; exact (decide_eq_false (by omega)).symm
  have hinv := abS_inv i hj30
  subst hb
  refine cndD (fun hb => ?_) (fun hb => ?_)
  · obtain ⟨hb1, hb2⟩ := hb
    obtain ⟨c, hcj⟩ := getI (l := i.l) (i := j) hb1
    have hgd : i.l.getD j cmd0 = c := getD_of hcj
    have hcr := hcraw c (List.mem_of_getElem? hcj)
    refine ⟨⟨by omega, by omega⟩, c.kind, c.id, c.inst, c.side, c.price, c.qty, c.least, c.time, sb c.label, elCm hcj, dup ?_ (by (repeat' (first | exact trivial | exact rfl | apply And.intro)))⟩
    refine ⟨⟨kprod i.x, c, j⟩, rfl, rfl, rfl, rfl, rfl, rfl, rfl, rfl, rfl, rfl, rfl, rfl, rfl, rfl, rfl, rfl, rfl, rfl, rfl, rfl, rfl, ⟨hc, hs, hcr, by dsimp only; omega, by dsimp only; omega⟩, fun _ _ => ?_⟩
    have hcmd : abCmd i j = tame ⟨kprod i.x, c, j⟩ := by rw [abCmd, hgd]
    have hst := abS_succ i j
    rw [abStep, hcmd] at hst
    have hj1 : ((j + 1 : Nat) : Int) = IntKind.i64.wrap ((j : Int) + 1) := by rw [w64 (by omega)]; rfl
    refine Cv.cnd.mk (fun k => ?_) (fun k => ?_)
    · have k : (tame ⟨kprod i.x, c, j⟩).kind = 1 := by simpa using k
      rw [if_pos k] at hst
      refine ⟨⟨abS i j, (tame ⟨kprod i.x, c, j⟩).inst, (tame ⟨kprod i.x, c, j⟩).id, decide ((tame ⟨kprod i.x, c, j⟩).side = 2), (tame ⟨kprod i.x, c, j⟩).price, (tame ⟨kprod i.x, c, j⟩).qty⟩, rfl, rfl, sd_N (tame_side k), rfl, rfl, rfl, hinv.fit hs (by omega) hct, fun _ _ => ⟨j + 1, hj1, by rw [hst], ⟨by omega, by omega⟩, by dsimp only; omega, by (repeat' (first | exact trivial | exact rfl | apply And.intro))⟩⟩
    · have k : ¬ (tame ⟨kprod i.x, c, j⟩).kind = 1 := by simpa using k
      rw [if_neg k] at hst
      exact ⟨j + 1, hj1, by rw [hst], ⟨by omega, by omega⟩, by dsimp only; omega, by (repeat' (first | exact trivial | exact rfl | apply And.intro))⟩
  · have ej : min i.l.length 30 = j := by omega
    refine ⟨abS i j, rfl, hinv.cnt hct, fun _ _ => ⟨kprod i.x, rfl, rfl, rfl, rfl, rfl, rfl, rfl, rfl, rfl, rfl, rfl, hs, fun _ _ => ?_⟩⟩
    have eT : abT i = (abS i j).tops := by rw [abT, ej]
    have hTl := tops_len hinv
    have hTs := smallT_of hc hinv
    have hTok := topsOk_of hc hinv hct
    rw [← eT] at hTl hTs hTok ⊢
    have hmt : (List.map topE (abT i)).length = (abT i).length := List.length_map _
    rw [hmt]
    obtain ⟨T, hT⟩ : ∃ T, T = abT i := ⟨_, rfl⟩
    rw [← hT] at hTl hTs hTok eT ⊢
    obtain ⟨p, hp⟩ : ∃ p, p = kprod i.x := ⟨_, rfl⟩
    have hTc : (T.length : Int) ≤ 1000 := by rw [hTl]; exact_mod_cast hct
    refine Cv.cnd.mk (fun k => absurd k (by rw [hTl]; simp)) (fun _ => ?_)
    refine ⟨0, rfl, rfl, rfl, fun k => k ≤ T.length, fun k => T.length - k, Nat.zero_le _, fun k hk => cndD (fun ck => ?_) (fun ck => ?_)⟩
    · have ck : k < T.length := by omega
      have hk1 : ((k + 1 : Nat) : Int) = IntKind.i64.wrap ((k : Int) + 1) := by rw [w64 (by omega)]; rfl
      refine ⟨⟨false, false⟩, fun b => b.a = (List.range (k + 1)).any (crossAt T) ∧ b.b = (List.range (k + 1)).any (meetAt (kprod i.x) T), ?_, fun b hb => ⟨k + 1, hb.1.symm, hb.2.symm, hk1, ck, by dsimp only; omega, by (repeat' (first | exact trivial | exact rfl | apply And.intro))⟩⟩
      refine ⟨true, fun b => b = (List.range (k + 1)).any (crossAt T), ?_, fun x hx => ?_⟩
      · have hcr : crossAt T k = ((T.getD k top0).has1 && ((T.getD k top0).has2 && decide ((T.getD k top0).p1 ≥ (T.getD k top0).p2))) := rfl
        rw [any_succ, hcr]
        refine Cv.cnd.mk (fun e => ⟨true, rfl, by rw [e]; rfl, by (repeat' (first | exact trivial | exact rfl | apply And.intro))⟩) (fun e => ⟨⟨by omega, by omega⟩, (T.getD k top0).has1, elT ck rfl, Cv.cnd.mk (fun f => ⟨⟨by omega, by omega⟩, (T.getD k top0).has2, elT ck rfl, Cv.cnd.mk (fun g => ⟨⟨by omega, by omega⟩, (T.getD k top0).p1, elT ck rfl, ⟨by omega, by omega⟩, (T.getD k top0).p2, elT ck rfl, _, rfl, by rw [e, f, g]; rfl, by (repeat' (first | exact trivial | exact rfl | apply And.intro))⟩) (fun g => ⟨false, rfl, by rw [e, f, g]; rfl, by (repeat' (first | exact trivial | exact rfl | apply And.intro))⟩)⟩) (fun f => ⟨false, rfl, by rw [e, f]; rfl, by (repeat' (first | exact trivial | exact rfl | apply And.intro))⟩)⟩)
      · refine ⟨⟨kprod i.x, k⟩, rfl, rfl, rfl, rfl, rfl, rfl, rfl, rfl, rfl, rfl, rfl, rfl, hs, fun _ _ => ?_⟩
        have hlg := legs_spread hc (k := k) (by rw [← hTl]; exact ck)
        have hcg := count_ge hc
        dsimp only
        refine Cv.cnd.mk (fun e => ⟨⟨x, (List.range k).any (meetAt (kprod i.x) T)⟩, rfl, rfl, ⟨hx, ?_⟩, by (repeat' (first | exact trivial | exact rfl | apply And.intro))⟩) (fun e => ?_)
        · have e : ((kprod i.x).legs k).2.2 = false := by simpa using e
          dsimp only
          rw [any_succ, meetAt, e]; simp
        have e : ((kprod i.x).legs k).2.2 = true := by simpa using e
        obtain ⟨l0, l1, l2, l3⟩ : 0 ≤ ((kprod i.x).legs k).1 ∧ ((kprod i.x).legs k).1 < (kprod i.x).months.length ∧ 0 ≤ ((kprod i.x).legs k).2.1 ∧ ((kprod i.x).legs k).2.1 < (kprod i.x).months.length := by
          rcases hlg with ⟨_, h⟩ | ⟨h, _⟩
          · exact h
          · rw [e] at h; cases h
        have l1' : ((kprod i.x).legs k).1.toNat < T.length := by omega
        have l3' : ((kprod i.x).legs k).2.1.toNat < T.length := by omega
        obtain ⟨a, ha⟩ : ∃ a, a = T.getD ((kprod i.x).legs k).1.toNat top0 := ⟨_, rfl⟩
        obtain ⟨b, hb⟩ : ∃ b, b = T.getD ((kprod i.x).legs k).2.1.toNat top0 := ⟨_, rfl⟩
        obtain ⟨c, hcc⟩ : ∃ c, c = T.getD k top0 := ⟨_, rfl⟩
        have a1 : -2000000 ≤ a.p1 ∧ a.p1 ≤ 2000000 := by rw [ha]; exact hTs _ 1
        have a2 : -2000000 ≤ a.p2 ∧ a.p2 ≤ 2000000 := by rw [ha]; exact hTs _ 2
        have b1 : -2000000 ≤ b.p1 ∧ b.p1 ≤ 2000000 := by rw [hb]; exact hTs _ 1
        have b2 : -2000000 ≤ b.p2 ∧ b.p2 ≤ 2000000 := by rw [hb]; exact hTs _ 2
        have c1 : -2000000 ≤ c.p1 ∧ c.p1 ≤ 2000000 := by rw [hcc]; exact hTs _ 1
        have c2 : -2000000 ≤ c.p2 ∧ c.p2 ≤ 2000000 := by rw [hcc]; exact hTs _ 2
        have ms0 : meetSd (kprod i.x) T k 0 = (a.has1 && b.has2 && c.has2 && decide (a.p1 - b.p2 ≥ c.p2) && (decide ((kprod i.x).price k (a.p1 - b.p2) = 0) || decide ((kprod i.x).price ((kprod i.x).legs k).1 (c.p2 + b.p2) = 0) || decide ((kprod i.x).price ((kprod i.x).legs k).2.1 (a.p1 - c.p2) = 0))) := by rw [ha, hb, hcc]; rfl
        have ms1 : meetSd (kprod i.x) T k 1 = (a.has2 && b.has1 && c.has1 && decide (a.p2 - b.p1 ≤ c.p1) && (decide ((kprod i.x).price k (a.p2 - b.p1) = 0) || decide ((kprod i.x).price ((kprod i.x).legs k).1 (c.p1 + b.p1) = 0) || decide ((kprod i.x).price ((kprod i.x).legs k).2.1 (a.p2 - c.p1) = 0))) := by rw [ha, hb, hcc]; rfl
        have mt : meetAt (kprod i.x) T k = (meetSd (kprod i.x) T k 0 || meetSd (kprod i.x) T k 1) := by rw [meetAt, e]; rfl
        have ela : ∀ {o : Nat} {d : D}, (topE a)[o]? = some d → elPart (T.map topE) ((kprod i.x).legs k).1.toNat o 1 = some [d] := fun hd => elT l1' (by rw [← ha]; exact hd)
        have elb : ∀ {o : Nat} {d : D}, (topE b)[o]? = some d → elPart (T.map topE) ((kprod i.x).legs k).2.1.toNat o 1 = some [d] := fun hd => elT l3' (by rw [← hb]; exact hd)
        have elc : ∀ {o : Nat} {d : D}, (topE c)[o]? = some d → elPart (T.map topE) k o 1 = some [d] := fun hd => elT ck (by rw [← hcc]; exact hd)
        clear ha hb hcc
        have hany := any_succ k (meetAt (kprod i.x) T)
        rw [mt] at hany
        have lt1 : ((kprod i.x).legs k).1 < (T.length : Int) := by omega
        have lt2 : ((kprod i.x).legs k).2.1 < (T.length : Int) := by omega
        have lt0 : (k : Int) < (T.length : Int) := by omega
        refine ⟨true, fun y => y = ((List.range k).any (meetAt (kprod i.x) T) || meetSd (kprod i.x) T k 0), ?_, fun y hy => ?_⟩
        · refine ⟨true, fun y => y = !(a.has1 && (b.has2 && c.has2)), ⟨⟨l0, lt1⟩, a.has1, ela rfl, Cv.cnd.mk (fun f => ⟨true, rfl, by rw [not_t f]; rfl, by (repeat' (first | exact trivial | exact rfl | apply And.intro))⟩) (fun f => ⟨⟨l2, lt2⟩, b.has2, elb rfl, Cv.cnd.mk (fun g => ⟨true, rfl, by rw [not_f f, not_t g]; rfl, by (repeat' (first | exact trivial | exact rfl | apply And.intro))⟩) (fun g => ⟨⟨by omega, lt0⟩, c.has2, elc rfl, _, rfl, by rw [not_f f, not_f g]; rfl, by (repeat' (first | exact trivial | exact rfl | apply And.intro))⟩)⟩)⟩, fun y hy => ?_⟩
          subst hy
          refine Cv.cnd.mk (fun f => ⟨_, rfl, by rw [ms0, has_no f]; simp, by (repeat' (first | exact trivial | exact rfl | apply And.intro))⟩) (fun f => ⟨⟨l0, lt1⟩, a.p1, ela rfl, ⟨l2, lt2⟩, b.p2, elb rfl, ⟨by omega, lt0⟩, c.p2, elc rfl, ?_⟩)
          obtain ⟨f1, f2, f3⟩ := has_yes f
          rw [w64 (x := a.p1 - b.p2) (by omega), w64 (x := c.p2 + b.p2) (by omega), w64 (x := a.p1 - c.p2) (by omega)]
          refine ⟨true, fun y => y = decide (a.p1 - b.p2 ≥ c.p2), Cv.cnd.mk (fun g => ⟨true, rfl, g.symm, by (repeat' (first | exact trivial | exact rfl | apply And.intro))⟩) (fun g => ⟨false, rfl, g.symm, by (repeat' (first | exact trivial | exact rfl | apply And.intro))⟩), fun y hy => ?_⟩
          subst hy
          refine ⟨true, fun y => y = (decide ((kprod i.x).price k (a.p1 - b.p2) = 0) || decide ((kprod i.x).price ((kprod i.x).legs k).1 (c.p2 + b.p2) = 0) || decide ((kprod i.x).price ((kprod i.x).legs k).2.1 (a.p1 - c.p2) = 0)), ⟨⟨kprod i.x, k, a.p1 - b.p2⟩, rfl, rfl, rfl, rfl, rfl, rfl, rfl, rfl, rfl, rfl, rfl, rfl, rfl, hs, fun _ _ => Cv.cnd.mk (fun g => ⟨true, rfl, by rw [decide_eq_true (eq_of_beq g)]; rfl, by (repeat' (first | exact trivial | exact rfl | apply And.intro))⟩) (fun g => ⟨⟨kprod i.x, ((kprod i.x).legs k).1, c.p2 + b.p2⟩, rfl, rfl, rfl, rfl, rfl, rfl, rfl, rfl, rfl, rfl, rfl, rfl, rfl, hs, fun _ _ => Cv.cnd.mk (fun g2 => ⟨true, rfl, by rw [decide_eq_true (eq_of_beq g2)]; simp, by (repeat' (first | exact trivial | exact rfl | apply And.intro))⟩) (fun g2 => ⟨⟨kprod i.x, ((kprod i.x).legs k).2.1, a.p1 - c.p2⟩, rfl, rfl, rfl, rfl, rfl, rfl, rfl, rfl, rfl, rfl, rfl, rfl, rfl, hs, fun _ _ => ⟨_, rfl, by rw [dec_f g, dec_f g2]; rfl, by (repeat' (first | exact trivial | exact rfl | apply And.intro))⟩⟩)⟩)⟩, fun y hy => ?_⟩
          subst hy
          exact Cv.cnd.mk (fun g => ⟨true, rfl, by rw [g]; rfl, by (repeat' (first | exact trivial | exact rfl | apply And.intro))⟩) (fun g => Cv.cnd.mk (fun g2 => ⟨_, rfl, by rw [g, ms0, f1, f2, f3, g2]; rfl, by (repeat' (first | exact trivial | exact rfl | apply And.intro))⟩) (fun g2 => ⟨_, rfl, by rw [g, ms0, f1, f2, f3, g2]; rfl, by (repeat' (first | exact trivial | exact rfl | apply And.intro))⟩))
        · subst hy
          refine ⟨true, fun y => y = (((List.range k).any (meetAt (kprod i.x) T) || meetSd (kprod i.x) T k 0) || meetSd (kprod i.x) T k 1), ?_, fun y hy => ⟨⟨x, y⟩, rfl, rfl, ⟨hx, by dsimp only; rw [hany, hy, Bool.or_assoc]⟩, by (repeat' (first | exact trivial | exact rfl | apply And.intro))⟩⟩
          refine ⟨true, fun y => y = !(a.has2 && (b.has1 && c.has1)), ⟨⟨l0, lt1⟩, a.has2, ela rfl, Cv.cnd.mk (fun f => ⟨true, rfl, by rw [not_t f]; rfl, by (repeat' (first | exact trivial | exact rfl | apply And.intro))⟩) (fun f => ⟨⟨l2, lt2⟩, b.has1, elb rfl, Cv.cnd.mk (fun g => ⟨true, rfl, by rw [not_f f, not_t g]; rfl, by (repeat' (first | exact trivial | exact rfl | apply And.intro))⟩) (fun g => ⟨⟨by omega, lt0⟩, c.has1, elc rfl, _, rfl, by rw [not_f f, not_f g]; rfl, by (repeat' (first | exact trivial | exact rfl | apply And.intro))⟩)⟩)⟩, fun y hy => ?_⟩
          subst hy
          refine Cv.cnd.mk (fun f => ⟨_, rfl, by rw [ms1, has_no f]; simp, by (repeat' (first | exact trivial | exact rfl | apply And.intro))⟩) (fun f => ⟨⟨l0, lt1⟩, a.p2, ela rfl, ⟨l2, lt2⟩, b.p1, elb rfl, ⟨by omega, lt0⟩, c.p1, elc rfl, ?_⟩)
          obtain ⟨f1, f2, f3⟩ := has_yes f
          rw [w64 (x := a.p2 - b.p1) (by omega), w64 (x := c.p1 + b.p1) (by omega), w64 (x := a.p2 - c.p1) (by omega)]
          refine ⟨true, fun y => y = decide (a.p2 - b.p1 ≤ c.p1), ⟨_, rfl, rfl, by (repeat' (first | exact trivial | exact rfl | apply And.intro))⟩, fun y hy => ?_⟩
          subst hy
          refine ⟨true, fun y => y = (decide ((kprod i.x).price k (a.p2 - b.p1) = 0) || decide ((kprod i.x).price ((kprod i.x).legs k).1 (c.p1 + b.p1) = 0) || decide ((kprod i.x).price ((kprod i.x).legs k).2.1 (a.p2 - c.p1) = 0)), ⟨⟨kprod i.x, k, a.p2 - b.p1⟩, rfl, rfl, rfl, rfl, rfl, rfl, rfl, rfl, rfl, rfl, rfl, rfl, rfl, hs, fun _ _ => Cv.cnd.mk (fun g => ⟨true, rfl, by rw [decide_eq_true (eq_of_beq g)]; rfl, by (repeat' (first | exact trivial | exact rfl | apply And.intro))⟩) (fun g => ⟨⟨kprod i.x, ((kprod i.x).legs k).1, c.p1 + b.p1⟩, rfl, rfl, rfl, rfl, rfl, rfl, rfl, rfl, rfl, rfl, rfl, rfl, rfl, hs, fun _ _ => Cv.cnd.mk (fun g2 => ⟨true, rfl, by rw [decide_eq_true (eq_of_beq g2)]; simp, by (repeat' (first | exact trivial | exact rfl | apply And.intro))⟩) (fun g2 => ⟨⟨kprod i.x, ((kprod i.x).legs k).2.1, a.p2 - c.p1⟩, rfl, rfl, rfl, rfl, rfl, rfl, rfl, rfl, rfl, rfl, rfl, rfl, rfl, hs, fun _ _ => ⟨_, rfl, by rw [dec_f g, dec_f g2]; rfl, by (repeat' (first | exact trivial | exact rfl | apply And.intro))⟩⟩)⟩)⟩, fun y hy => ?_⟩
          subst hy
          exact Cv.cnd.mk (fun g => ⟨true, rfl, by rw [g]; rfl, by (repeat' (first | exact trivial | exact rfl | apply And.intro))⟩) (fun g => Cv.cnd.mk (fun g2 => ⟨_, rfl, by rw [g, ms1, f1, f2, f3, g2]; rfl, by (repeat' (first | exact trivial | exact rfl | apply And.intro))⟩) (fun g2 => ⟨_, rfl, by rw [g, ms1, f1, f2, f3, g2]; rfl, by (repeat' (first | exact trivial | exact rfl | apply And.intro))⟩))
    · have ck : k = T.length := by dsimp only at hk; omega
      subst ck
      have hB := booksErr_eq hc hTs hTl
      rw [eT] at hB hTok ⊢
      refine ⟨⟨kprod i.x, abS i j⟩, rfl, rfl, rfl, rfl, rfl, rfl, rfl, rfl, rfl, rfl, rfl, rfl, ⟨hs, hinv.cnt hct, hTok⟩, fun _ _ => ?_⟩
      dsimp only
      rw [hB]
      refine Cv.cnd.mk (fun e => ?_) (fun e => Cv.cnd.mk (fun f => ?_) (fun f => ?_))
      · rw [if_pos e]; exact Cv.cnd.mk (fun _ => by (repeat' (first | exact rfl | exact trivial | assumption | apply And.intro | (refine fun (_ : Unit) (_ : True) => ?_) | (refine Exists.intro () ?_) | omega | (dsimp only; omega)))) (fun g => absurd g (by decide))
      · rw [if_neg (by rw [e]; decide), if_pos f]; exact Cv.cnd.mk (fun _ => by (repeat' (first | exact rfl | exact trivial | assumption | apply And.intro | (refine fun (_ : Unit) (_ : True) => ?_) | (refine Exists.intro () ?_) | omega | (dsimp only; omega)))) (fun g => absurd g (by decide))
      · rw [if_neg (by rw [e]; decide), if_neg (by rw [f]; decide)]; exact Cv.cnd.mk (fun _ => by (repeat' (first | exact rfl | exact trivial | assumption | apply And.intro | (refine fun (_ : Unit) (_ : True) => ?_) | (refine Exists.intro () ?_) | omega | (dsimp only; omega)))) (fun g => absurd g (by decide))

end Sx

