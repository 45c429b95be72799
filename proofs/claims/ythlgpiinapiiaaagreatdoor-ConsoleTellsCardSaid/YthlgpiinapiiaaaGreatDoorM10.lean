/- Texts of ours, one behind the other: a walk that the kernel reckons, and contracts of functions. No condition. -/
import Derived.Test.YthlgpiinapiiaaaGreatDoorM9

namespace Sx
set_option linter.unusedVariables false
set_option linter.unusedSimpArgs false
set_option maxRecDepth 100000
open Go Cv Go.Proofs

set_option maxHeartbeats 8000000 in
theorem vlorder (i : LoI) (h : lorderC.cnd i) : Vlorder i := by
  have h0 : i.r.ok := h
  have hw := word_len h0
  unfold Vlorder
  simp only [cAT, cID, cLEAST, cNOW, cWHOLE, cLABEL, eqB, tE_len]
  refine ⟨i.r, rfl, rfl, rfl, rfl, rfl, rfl, h0, fun _ _ => ⟨i.r.word, rfl, by omega, fun _ _ => ⟨by (repeat' (first | exact rfl | exact trivial | assumption | apply And.intro | (refine fun (_ : Unit) (_ : True) => ?_) | (refine Exists.intro () ?_) | fail)), ⟨i.r.p, foldF i.r.word⟩, rfl, rfl, rfl, rfl, rfl, rfl, rfl, rfl, rfl, rfl, rfl, rfl, h0.1, fun _ _ => ⟨i.r.next, rfl, rfl, rfl, rfl, rfl, rfl, fun r => r = i.r.o1, Cv.cnd.mk (fun c => ⟨⟨i.r.next, 20, i.r.hereL⟩, rfl, rfl, rfl, rfl, rfl, rfl, rfl, rfl, trivial, fun _ _ => ?_⟩) (fun c => ?_), fun r hr => ?_⟩⟩⟩⟩
  · have c : ¬ (i.r.p.find (foldF i.r.word)).2 = true := by simpa using c
    have e : i.r.next.fail 20 i.r.hereL = i.r.o1 := by rw [Rdr.o1, if_neg c, fail_here]
    clear h0 hw
    dsimp only
    rw [e]
    exact ⟨i.r.o1, rfl, rfl, rfl, rfl, rfl, rfl, rfl, by (repeat' (first | exact rfl | exact trivial | assumption | apply And.intro | (refine fun (_ : Unit) (_ : True) => ?_) | (refine Exists.intro () ?_) | fail))⟩
  · have c : (i.r.p.find (foldF i.r.word)).2 = true := by simpa using c
    have e : i.r.next = i.r.o1 := by rw [Rdr.o1, if_pos c]
    clear h0 hw
    rw [e]
    exact ⟨i.r.o1, rfl, rfl, rfl, rfl, rfl, rfl, rfl, by (repeat' (first | exact rfl | exact trivial | assumption | apply And.intro | (refine fun (_ : Unit) (_ : True) => ?_) | (refine Exists.intro () ?_) | fail))⟩
  have ha : r.ok := by rw [hr]; exact o1_rok h0
  have hS := lsim_start h0 i.side
  rw [Rdr.order0, Rdr.o3, Rdr.o2, ← hr] at hS
  dsimp only at hS
  have ho : ∀ x : LoS, x = ⟨((r.numR.must wAT).numR.must wID).numR, ⟨1, ((r.numR.must wAT).numR.must wID).num, (i.r.p.find (foldF i.r.word)).1, i.side, (r.numR.must wAT).num, r.num, 0, 1, []⟩, false, false, false⟩ → LSim (i.r.order i.side) i.r.words.length x := by
    rintro x rfl
    exact hS
  clear hS
  refine ⟨r, rfl, rfl, rfl, rfl, rfl, rfl, ha, fun _ _ => ⟨⟨r.numR, wAT⟩, rfl, rfl, rfl, rfl, rfl, rfl, rfl, numR_rok ha, fun _ _ => ?_⟩⟩
  have hb : (r.numR.must wAT).ok := must_rok (numR_rok ha) wAT
  dsimp only
  generalize r.num = q at ho ⊢
  generalize hB : r.numR.must wAT = b at hb ho ⊢
  refine ⟨b, rfl, rfl, rfl, rfl, rfl, rfl, hb, fun _ _ => ⟨⟨b.numR, wID⟩, rfl, rfl, rfl, rfl, rfl, rfl, rfl, numR_rok hb, fun _ _ => ?_⟩⟩
  have hc : (b.numR.must wID).ok := must_rok (numR_rok hb) wID
  dsimp only
  generalize b.num = q2 at ho ⊢
  generalize hC : b.numR.must wID = c at hc ho ⊢
  refine ⟨c, rfl, rfl, rfl, rfl, rfl, rfl, hc, fun _ _ => ?_⟩
  generalize c.num = q3 at ho ⊢
  generalize (i.r.p.find (foldF i.r.word)).1 = q4 at ho ⊢
  refine ⟨⟨c.numR, ⟨1, q3, q4, i.side, q2, q, 0, 1, []⟩, false, false, false⟩, rfl, rfl, rfl, rfl, rfl, rfl, rfl, rfl, rfl, rfl, rfl, rfl, rfl, rfl, rfl, rfl, rfl, rfl, LSim (i.r.order i.side) i.r.words.length, fun x => x.r.words.length - x.r.k, ho _ rfl, ?_⟩
  clear ho hB hC hb hc ha
  generalize i.r.order i.side = Y
  intro x hx
  have hEx : x.r.more = false → ∃ (o : Cmd), o.kind = x.c.kind ∧ o.id = x.c.id ∧ o.inst = x.c.inst ∧ o.side = x.c.side ∧ o.price = x.c.price ∧ o.qty = x.c.qty ∧ o.least = x.c.least ∧ o.time = x.c.time ∧ sb o.label = sb x.c.label ∧ (Y.r.k : Int) = (x.r.k : Int) ∧ Y.r.end_ = x.r.end_ ∧ Y.r.why = x.r.why ∧ Y.r.place = x.r.place ∧ AObj.fro 1 (tE Y.r.words) = AObj.fro 1 (tE x.r.words) ∧ AObj.fro 1 (iE Y.r.at_) = AObj.fro 1 (iE x.r.at_) ∧ (Y.r.why = 0 → o = Y.c) ∧ o.label.length ≤ 1048576 := fun e => by
    obtain ⟨e1, e2⟩ := lsim_end hx e
    rw [e1] at e2 ⊢
    exact ⟨x.c, rfl, rfl, rfl, rfl, rfl, rfl, rfl, rfl, rfl, rfl, rfl, rfl, rfl, rfl, rfl, e2, hx.lab⟩
  refine Cv.cnd.mk (fun c1 => Cv.cnd.mk (fun c2 => ?_) (fun c2 => hEx ?_)) (fun c1 => hEx ?_)
  rotate_left
  · simp only [decide_eq_false_iff_not] at c2
    simp only [Rdr.more, Bool.and_eq_false_iff, decide_eq_false_iff_not]; omega
  · simp only [beq_eq_false_iff_ne, ne_eq] at c1
    simp only [Rdr.more, Bool.and_eq_false_iff, decide_eq_false_iff_not]; exact .inl c1
  clear hEx
  have hm : x.r.more = true := by
    simp only [beq_iff_eq] at c1
    simp only [decide_eq_true_eq] at c2
    simp only [Rdr.more, Bool.and_eq_true, decide_eq_true_eq]
    exact ⟨c1, by omega⟩
  have hk : x.r.k < x.r.words.length := by
    simp only [Rdr.more, Bool.and_eq_true, decide_eq_true_eq] at hm; exact hm.2
  obtain ⟨s1, s2, s3⟩ := lsim_step hx hm
  have hok := hx.ok
  have hwx := word_len hok
  have hn := next_rok hok
  clear hx c1 c2 hm h0 hw hr
  refine ⟨x.r, rfl, rfl, rfl, rfl, rfl, rfl, hok, fun _ _ => ⟨x.r.word, rfl, by omega, fun _ _ => ?_⟩⟩
  dsimp only
  refine cndD (fun cL => ?_) fun cL => ?_
  · refine Cv.cnd.mk (fun b => ⟨⟨x.r.next, 25, x.r.hereL⟩, rfl, rfl, rfl, rfl, rfl, rfl, rfl, rfl, trivial, fun _ _ => ⟨x.r.next.fail 25 x.r.hereL, rfl, rfl, rfl, rfl, rfl, rfl, fail_rok hn _ _, fun _ _ => ?_⟩⟩) (fun b => ⟨x.r.next, rfl, rfl, rfl, rfl, rfl, rfl, hn, fun _ _ => ?_⟩)
    · try dsimp only
      have e : x.step = ⟨(x.r.next.fail 25 x.r.hereL).numR, { x.c with least := (x.r.next.fail 25 x.r.hereL).num }, true, x.t, x.b⟩ := by rw [LoS.step, if_pos cL, if_pos b]
      rw [e] at s1 s2 s3
      dsimp only at s2 s3
      exact ⟨⟨(x.r.next.fail 25 x.r.hereL).numR, { x.c with least := (x.r.next.fail 25 x.r.hereL).num }, true, x.t, x.b⟩, rfl, rfl, rfl, rfl, rfl, rfl, rfl, rfl, rfl, rfl, rfl, rfl, rfl, rfl, rfl, rfl, rfl, rfl, s1, by dsimp only; omega, by (repeat' (first | exact rfl | exact trivial | assumption | apply And.intro | (refine fun (_ : Unit) (_ : True) => ?_) | (refine Exists.intro () ?_) | fail))⟩
    · try dsimp only
      have e : x.step = ⟨x.r.next.numR, { x.c with least := x.r.next.num }, true, x.t, x.b⟩ := by rw [LoS.step, if_pos cL, if_neg (by rw [b]; simp)]
      rw [e] at s1 s2 s3
      dsimp only at s2 s3
      exact ⟨⟨x.r.next.numR, { x.c with least := x.r.next.num }, true, x.t, x.b⟩, rfl, rfl, rfl, rfl, rfl, rfl, rfl, rfl, rfl, rfl, rfl, rfl, rfl, rfl, rfl, rfl, rfl, rfl, s1, by dsimp only; omega, by (repeat' (first | exact rfl | exact trivial | assumption | apply And.intro | (refine fun (_ : Unit) (_ : True) => ?_) | (refine Exists.intro () ?_) | fail))⟩
  refine cndD (fun cN => cndD (fun cN2 => ?_) (fun cN2 => absurd cN cN2)) fun cN => cndD (fun cW => ?_) fun cW => ?_
  · refine Cv.cnd.mk (fun b => ⟨⟨x.r.next, 25, x.r.hereL⟩, rfl, rfl, rfl, rfl, rfl, rfl, rfl, rfl, trivial, fun _ _ => ⟨x.r.word, rfl, by omega, fun _ _ => cndD (fun d => ?_) (fun d => ?_)⟩⟩) (fun b => ⟨x.r.word, rfl, by omega, fun _ _ => cndD (fun d => ?_) (fun d => ?_)⟩)
    · try dsimp only
      have e : x.step = ⟨(x.r.next.fail 25 x.r.hereL), { x.c with time := 3 }, x.l, true, x.b⟩ := by rw [LoS.step, if_neg cL, if_pos (.inl cN), if_pos b, if_pos d]
      rw [e] at s1 s2 s3
      dsimp only at s2 s3
      exact ⟨⟨(x.r.next.fail 25 x.r.hereL), { x.c with time := 3 }, x.l, true, x.b⟩, rfl, rfl, rfl, rfl, rfl, rfl, rfl, rfl, rfl, rfl, rfl, rfl, rfl, rfl, rfl, rfl, rfl, rfl, s1, by dsimp only; omega, by (repeat' (first | exact rfl | exact trivial | assumption | apply And.intro | (refine fun (_ : Unit) (_ : True) => ?_) | (refine Exists.intro () ?_) | fail))⟩
    · try dsimp only
      have e : x.step = ⟨(x.r.next.fail 25 x.r.hereL), { x.c with time := 2 }, x.l, true, x.b⟩ := by rw [LoS.step, if_neg cL, if_pos (.inl cN), if_pos b, if_neg d]
      rw [e] at s1 s2 s3
      dsimp only at s2 s3
      exact ⟨⟨(x.r.next.fail 25 x.r.hereL), { x.c with time := 2 }, x.l, true, x.b⟩, rfl, rfl, rfl, rfl, rfl, rfl, rfl, rfl, rfl, rfl, rfl, rfl, rfl, rfl, rfl, rfl, rfl, rfl, s1, by dsimp only; omega, by (repeat' (first | exact rfl | exact trivial | assumption | apply And.intro | (refine fun (_ : Unit) (_ : True) => ?_) | (refine Exists.intro () ?_) | fail))⟩
    · try dsimp only
      have e : x.step = ⟨x.r.next, { x.c with time := 3 }, x.l, true, x.b⟩ := by rw [LoS.step, if_neg cL, if_pos (.inl cN), if_neg (by rw [b]; simp), if_pos d]
      rw [e] at s1 s2 s3
      dsimp only at s2 s3
      exact ⟨⟨x.r.next, { x.c with time := 3 }, x.l, true, x.b⟩, rfl, rfl, rfl, rfl, rfl, rfl, rfl, rfl, rfl, rfl, rfl, rfl, rfl, rfl, rfl, rfl, rfl, rfl, s1, by dsimp only; omega, by (repeat' (first | exact rfl | exact trivial | assumption | apply And.intro | (refine fun (_ : Unit) (_ : True) => ?_) | (refine Exists.intro () ?_) | fail))⟩
    · try dsimp only
      have e : x.step = ⟨x.r.next, { x.c with time := 2 }, x.l, true, x.b⟩ := by rw [LoS.step, if_neg cL, if_pos (.inl cN), if_neg (by rw [b]; simp), if_neg d]
      rw [e] at s1 s2 s3
      dsimp only at s2 s3
      exact ⟨⟨x.r.next, { x.c with time := 2 }, x.l, true, x.b⟩, rfl, rfl, rfl, rfl, rfl, rfl, rfl, rfl, rfl, rfl, rfl, rfl, rfl, rfl, rfl, rfl, rfl, rfl, s1, by dsimp only; omega, by (repeat' (first | exact rfl | exact trivial | assumption | apply And.intro | (refine fun (_ : Unit) (_ : True) => ?_) | (refine Exists.intro () ?_) | fail))⟩
  · refine Cv.cnd.mk (fun b => ⟨⟨x.r.next, 25, x.r.hereL⟩, rfl, rfl, rfl, rfl, rfl, rfl, rfl, rfl, trivial, fun _ _ => ⟨x.r.word, rfl, by omega, fun _ _ => cndD (fun d => ?_) (fun d => ?_)⟩⟩) (fun b => ⟨x.r.word, rfl, by omega, fun _ _ => cndD (fun d => ?_) (fun d => ?_)⟩)
    · try dsimp only
      have e : x.step = ⟨(x.r.next.fail 25 x.r.hereL), { x.c with time := 3 }, x.l, true, x.b⟩ := by rw [LoS.step, if_neg cL, if_pos (.inr cW), if_pos b, if_pos d]
      rw [e] at s1 s2 s3
      dsimp only at s2 s3
      exact ⟨⟨(x.r.next.fail 25 x.r.hereL), { x.c with time := 3 }, x.l, true, x.b⟩, rfl, rfl, rfl, rfl, rfl, rfl, rfl, rfl, rfl, rfl, rfl, rfl, rfl, rfl, rfl, rfl, rfl, rfl, s1, by dsimp only; omega, by (repeat' (first | exact rfl | exact trivial | assumption | apply And.intro | (refine fun (_ : Unit) (_ : True) => ?_) | (refine Exists.intro () ?_) | fail))⟩
    · try dsimp only
      have e : x.step = ⟨(x.r.next.fail 25 x.r.hereL), { x.c with time := 2 }, x.l, true, x.b⟩ := by rw [LoS.step, if_neg cL, if_pos (.inr cW), if_pos b, if_neg d]
      rw [e] at s1 s2 s3
      dsimp only at s2 s3
      exact ⟨⟨(x.r.next.fail 25 x.r.hereL), { x.c with time := 2 }, x.l, true, x.b⟩, rfl, rfl, rfl, rfl, rfl, rfl, rfl, rfl, rfl, rfl, rfl, rfl, rfl, rfl, rfl, rfl, rfl, rfl, s1, by dsimp only; omega, by (repeat' (first | exact rfl | exact trivial | assumption | apply And.intro | (refine fun (_ : Unit) (_ : True) => ?_) | (refine Exists.intro () ?_) | fail))⟩
    · try dsimp only
      have e : x.step = ⟨x.r.next, { x.c with time := 3 }, x.l, true, x.b⟩ := by rw [LoS.step, if_neg cL, if_pos (.inr cW), if_neg (by rw [b]; simp), if_pos d]
      rw [e] at s1 s2 s3
      dsimp only at s2 s3
      exact ⟨⟨x.r.next, { x.c with time := 3 }, x.l, true, x.b⟩, rfl, rfl, rfl, rfl, rfl, rfl, rfl, rfl, rfl, rfl, rfl, rfl, rfl, rfl, rfl, rfl, rfl, rfl, s1, by dsimp only; omega, by (repeat' (first | exact rfl | exact trivial | assumption | apply And.intro | (refine fun (_ : Unit) (_ : True) => ?_) | (refine Exists.intro () ?_) | fail))⟩
    · try dsimp only
      have e : x.step = ⟨x.r.next, { x.c with time := 2 }, x.l, true, x.b⟩ := by rw [LoS.step, if_neg cL, if_pos (.inr cW), if_neg (by rw [b]; simp), if_neg d]
      rw [e] at s1 s2 s3
      dsimp only at s2 s3
      exact ⟨⟨x.r.next, { x.c with time := 2 }, x.l, true, x.b⟩, rfl, rfl, rfl, rfl, rfl, rfl, rfl, rfl, rfl, rfl, rfl, rfl, rfl, rfl, rfl, rfl, rfl, rfl, s1, by dsimp only; omega, by (repeat' (first | exact rfl | exact trivial | assumption | apply And.intro | (refine fun (_ : Unit) (_ : True) => ?_) | (refine Exists.intro () ?_) | fail))⟩
  · have cT : ¬ (foldF x.r.word = wNOW ∨ foldF x.r.word = wWHOLE) := fun e => e.elim cN cW
    refine cndD (fun cB => ?_) fun cB => ⟨⟨x.r.next, 12, x.r.hereL⟩, rfl, rfl, rfl, rfl, rfl, rfl, rfl, rfl, trivial, fun _ _ => ?_⟩
    · refine Cv.cnd.mk (fun b => ⟨⟨x.r.next, 25, x.r.hereL⟩, rfl, rfl, rfl, rfl, rfl, rfl, rfl, rfl, trivial, fun _ _ => ⟨x.r.next.fail 25 x.r.hereL, rfl, rfl, rfl, rfl, rfl, rfl, fail_rok hn _ _, fun _ _ => ⟨(x.r.next.fail 25 x.r.hereL).word, rfl, by have := word_len (fail_rok hn 25 x.r.hereL); omega, fun _ _ => Cv.cnd.mk (fun d => ⟨⟨(x.r.next.fail 25 x.r.hereL).next, 29, (x.r.next.fail 25 x.r.hereL).hereL⟩, rfl, rfl, rfl, rfl, rfl, rfl, rfl, rfl, trivial, fun _ _ => ?_⟩) (fun d => ?_)⟩⟩⟩) (fun b => ⟨x.r.next, rfl, rfl, rfl, rfl, rfl, rfl, hn, fun _ _ => ⟨x.r.next.word, rfl, by have := word_len hn; omega, fun _ _ => Cv.cnd.mk (fun d => ⟨⟨x.r.next.next, 29, x.r.next.hereL⟩, rfl, rfl, rfl, rfl, rfl, rfl, rfl, rfl, trivial, fun _ _ => ?_⟩) (fun d => ?_)⟩⟩)
      · try dsimp only
        have e : x.step = ⟨(x.r.next.fail 25 x.r.hereL).next.fail 29 (x.r.next.fail 25 x.r.hereL).hereL, { x.c with label := (x.r.next.fail 25 x.r.hereL).word }, x.l, x.t, true⟩ := by rw [LoS.step, if_neg cL, if_neg cT, if_pos cB, if_pos b, if_neg (by rw [Bool.not_eq_true'] at d; rw [d]; simp)]
        rw [e] at s1 s2 s3
        dsimp only at s2 s3
        exact ⟨⟨(x.r.next.fail 25 x.r.hereL).next.fail 29 (x.r.next.fail 25 x.r.hereL).hereL, { x.c with label := (x.r.next.fail 25 x.r.hereL).word }, x.l, x.t, true⟩, rfl, rfl, rfl, rfl, rfl, rfl, rfl, rfl, rfl, rfl, rfl, rfl, rfl, rfl, rfl, rfl, rfl, rfl, s1, by dsimp only; omega, by (repeat' (first | exact rfl | exact trivial | assumption | apply And.intro | (refine fun (_ : Unit) (_ : True) => ?_) | (refine Exists.intro () ?_) | fail))⟩
      · try dsimp only
        have e : x.step = ⟨(x.r.next.fail 25 x.r.hereL).next, { x.c with label := (x.r.next.fail 25 x.r.hereL).word }, x.l, x.t, true⟩ := by rw [LoS.step, if_neg cL, if_neg cT, if_pos cB, if_pos b, if_pos (by rw [Bool.not_eq_false'] at d; exact d)]
        rw [e] at s1 s2 s3
        dsimp only at s2 s3
        exact ⟨⟨(x.r.next.fail 25 x.r.hereL).next, { x.c with label := (x.r.next.fail 25 x.r.hereL).word }, x.l, x.t, true⟩, rfl, rfl, rfl, rfl, rfl, rfl, rfl, rfl, rfl, rfl, rfl, rfl, rfl, rfl, rfl, rfl, rfl, rfl, s1, by dsimp only; omega, by (repeat' (first | exact rfl | exact trivial | assumption | apply And.intro | (refine fun (_ : Unit) (_ : True) => ?_) | (refine Exists.intro () ?_) | fail))⟩
      · try dsimp only
        have e : x.step = ⟨x.r.next.next.fail 29 x.r.next.hereL, { x.c with label := x.r.next.word }, x.l, x.t, true⟩ := by rw [LoS.step, if_neg cL, if_neg cT, if_pos cB, if_neg (show ¬ x.b = true by rw [b]; simp), if_neg (by rw [Bool.not_eq_true'] at d; rw [d]; simp)]
        rw [e] at s1 s2 s3
        dsimp only at s2 s3
        exact ⟨⟨x.r.next.next.fail 29 x.r.next.hereL, { x.c with label := x.r.next.word }, x.l, x.t, true⟩, rfl, rfl, rfl, rfl, rfl, rfl, rfl, rfl, rfl, rfl, rfl, rfl, rfl, rfl, rfl, rfl, rfl, rfl, s1, by dsimp only; omega, by (repeat' (first | exact rfl | exact trivial | assumption | apply And.intro | (refine fun (_ : Unit) (_ : True) => ?_) | (refine Exists.intro () ?_) | fail))⟩
      · try dsimp only
        have e : x.step = ⟨x.r.next.next, { x.c with label := x.r.next.word }, x.l, x.t, true⟩ := by rw [LoS.step, if_neg cL, if_neg cT, if_pos cB, if_neg (show ¬ x.b = true by rw [b]; simp), if_pos (by rw [Bool.not_eq_false'] at d; exact d)]
        rw [e] at s1 s2 s3
        dsimp only at s2 s3
        exact ⟨⟨x.r.next.next, { x.c with label := x.r.next.word }, x.l, x.t, true⟩, rfl, rfl, rfl, rfl, rfl, rfl, rfl, rfl, rfl, rfl, rfl, rfl, rfl, rfl, rfl, rfl, rfl, rfl, s1, by dsimp only; omega, by (repeat' (first | exact rfl | exact trivial | assumption | apply And.intro | (refine fun (_ : Unit) (_ : True) => ?_) | (refine Exists.intro () ?_) | fail))⟩
    · try dsimp only
      have e : x.step = ⟨x.r.next.fail 12 x.r.hereL, x.c, x.l, x.t, x.b⟩ := by rw [LoS.step, if_neg cL, if_neg cT, if_neg cB]
      rw [e] at s1 s2 s3
      dsimp only at s2 s3
      exact ⟨⟨x.r.next.fail 12 x.r.hereL, x.c, x.l, x.t, x.b⟩, rfl, rfl, rfl, rfl, rfl, rfl, rfl, rfl, rfl, rfl, rfl, rfl, rfl, rfl, rfl, rfl, rfl, rfl, s1, by dsimp only; omega, by (repeat' (first | exact rfl | exact trivial | assumption | apply And.intro | (refine fun (_ : Unit) (_ : True) => ?_) | (refine Exists.intro () ?_) | fail))⟩
theorem lorder_ok : lorderC.ok Tryz.prog 37 := bylorder (gokc lnext_ok (gokc fold2_ok (gokc find5_ok (gokc lref_ok (gokc lnum_ok (gokc lword_ok (gokc lab2_ok gok0))))))) vlorder

end Sx

namespace Sx
set_option linter.unusedVariables false
set_option linter.unusedSimpArgs false
set_option maxRecDepth 100000
open Go Cv Go.Proofs

theorem cCANCEL : ByteArray.mk #[67, 65, 78, 67, 69, 76] = sb wCANCEL := rfl
theorem cCUT : ByteArray.mk #[67, 85, 84] = sb wCUT := rfl
theorem cCHANGE : ByteArray.mk #[67, 72, 65, 78, 71, 69] = sb wCHANGE := rfl
theorem cBUY : ByteArray.mk #[66, 85, 89] = sb wBUY := rfl
theorem cSELL : ByteArray.mk #[83, 69, 76, 76] = sb wSELL := rfl
theorem more_why {r : Rdr} (h : r.more = true) : r.why = 0 ∧ r.k < r.words.length := by
  simp only [Rdr.more, Bool.and_eq_true, decide_eq_true_eq] at h; exact h
theorem more_mk {r : Rdr} (h : r.why = 0) (h2 : r.k < r.words.length) : r.more = true := by
  simp only [Rdr.more, Bool.and_eq_true, decide_eq_true_eq]; exact ⟨h, h2⟩
theorem rest_more {r : Rdr} {n : Int} (hm : r.more = true) (hn : r.at_[r.k]? = some n) : (r.fail 12 n).why = r.rest.why ∧ (r.fail 12 n).place = r.rest.place := by
  have hh : r.here = n := by rw [Rdr.here, if_pos hm, List.getD_eq_getElem?_getD, hn]; rfl
  have hw := (more_why hm).1
  have hw2 := next_why hm
  rw [Rdr.rest, if_pos hm, hh, Rdr.fail, if_pos hw, Rdr.fail, if_pos hw2]
  exact ⟨rfl, rfl⟩
theorem rest_less {r : Rdr} (hm : ¬ r.more = true) : r.rest = r := by rw [Rdr.rest, if_neg hm]
theorem rest_why {r : Rdr} (h : r.rest.why = 0) : r.why = 0 := by
  by_cases hm : r.more = true
  · exact (more_why hm).1
  · rwa [rest_less hm] at h
theorem step_at (x : Opt) : x.step.r.at_ = x.r.at_ := by
  unfold Opt.step
  split
  · simp
  split
  · simp
  split
  · simp
  split
  · simp
  split
  · dsimp only
    split <;> simp
  · simp
theorem run_words : ∀ (m : Nat) (x : Opt), (Opt.run m x).r.words = x.r.words ∧ (Opt.run m x).r.at_ = x.r.at_
  | 0, x => ⟨rfl, rfl⟩
  | m + 1, x => by
    rw [Opt.run]
    split
    · obtain ⟨a, b⟩ := run_words m x.step
      rw [a, b, step_words, step_at]
      exact ⟨rfl, rfl⟩
    · exact ⟨rfl, rfl⟩
theorem must_at' (r : Rdr) (w : List UInt8) : (r.must w).at_ = r.at_ := by unfold Rdr.must; split <;> simp
theorem o1_at' (r : Rdr) : r.o1.at_ = r.at_ := by unfold Rdr.o1; split <;> simp
theorem order_words' (r : Rdr) (side : Int) : (r.order side).r.words = r.words := by
  rw [Rdr.order, (run_words _ _).1, order0_words]
theorem order_at' (r : Rdr) (side : Int) : (r.order side).r.at_ = r.at_ := by
  have e : (r.order0 side).r = r.o3.numR := by dsimp only [Rdr.order0]
  rw [Rdr.order, (run_words _ _).2, e, numR_at, Rdr.o3, must_at', numR_at, Rdr.o2, must_at', numR_at, o1_at']
structure PEnd (p : Prd) (s : List UInt8) (r : Rdr) (c : Cmd) : Prop where
  eq : parseF p s = if r.rest.why ≠ 0 then (cmd0, r.rest.why, r.rest.place) else if c.right ≠ 0 then (cmd0, c.right, 0) else (c, 0, 0)
theorem pend_bad {p : Prd} {s : List UInt8} {r : Rdr} {c : Cmd} (h : PEnd p s r c) {a b : Int} (ha : a = r.rest.why) (hb : b = r.rest.place) (h0 : a ≠ 0) : parseF p s = (cmd0, a, b) := by
  rw [h.eq, if_pos (by rw [← ha]; exact h0), ha, hb]
theorem pend_right {p : Prd} {s : List UInt8} {r : Rdr} {c : Cmd} (h : PEnd p s r c) (h0 : r.rest.why = 0) (hc : c.right ≠ 0) : parseF p s = (cmd0, c.right, 0) := by
  rw [h.eq, if_neg (by rw [h0]; simp), if_pos hc]
theorem pend_ok {p : Prd} {s : List UInt8} {r : Rdr} {c : Cmd} (h : PEnd p s r c) (h0 : r.rest.why = 0) (hc : c.right = 0) : parseF p s = (c, 0, 0) := by
  rw [h.eq, if_neg (by rw [h0]; simp), if_neg (by rw [hc]; simp)]

set_option maxHeartbeats 8000000 in
theorem vlparse (i : FndI) (h : parseC.cnd i) : Vlparse i := by
  obtain ⟨h1, h2⟩ : i.p.small ∧ i.s.length ≤ 1048576 := h
  have hr := rdr0_ok h1 h2
  have hPE : ∀ r c, (rdr0 i.p i.s).cmd = (r, c) → PEnd i.p i.s r c := fun r c e => ⟨by rw [parseF, e]⟩
  have hmem := words_mem i.s
  have hwa := words_at i.s
  unfold Vlparse
  simp only [cCANCEL, cCUT, cCHANGE, cBUY, cSELL, eqB, tE_len, iE_len, sb_nil']
  refine ⟨i.s, rfl, h2, fun _ _ => ⟨i.s, rfl, by omega, fun _ _ => Cv.cnd.mk (fun c => ⟨by (first | exact rfl | exact trivial), (), ?_⟩) (fun c => ?_)⟩⟩
  · have c : wordsL i.s = [] := List.eq_nil_of_length_eq_zero (by simpa using c)
    have e : (rdr0 i.p i.s).cmd = ((rdr0 i.p i.s).fail 31 (rdr0 i.p i.s).end_, cmd0) := by rw [Rdr.cmd, if_pos (show (rdr0 i.p i.s).words = [] from c)]
    have hP := hPE _ _ e
    have hb := fail_why (rdr0 i.p i.s) (a := 31) (by decide) (rdr0 i.p i.s).end_
    have e2 := pend_bad hP (by rw [rest_less (bad_more hb)]) (by rw [rest_less (bad_more hb)]) hb
    rw [e2]
    have e3 : (rdr0 i.p i.s).fail 31 (rdr0 i.p i.s).end_ = { rdr0 i.p i.s with why := 31, place := (rdr0 i.p i.s).end_ } := by rw [Rdr.fail, if_pos (show (rdr0 i.p i.s).why = 0 from rfl)]
    rw [e3]
    (repeat' (first | exact rfl | exact trivial | assumption | apply And.intro | (refine fun (_ : Unit) (_ : True) => ?_) | (refine Exists.intro () ?_) | fail))
  obtain ⟨w0, tl, hwl⟩ : ∃ w0 tl, wordsL i.s = w0 :: tl := by
    cases hh : wordsL i.s with
    | nil => rw [hh] at c; simp at c
    | cons a b => exact ⟨a, b, rfl⟩
  obtain ⟨n1, n2, n3⟩ := cmd_head (p := i.p) hwl
  have hcmd : (rdr0 i.p i.s).cmd = if foldF w0 = wCANCEL then (((rdr0 i.p i.s).pos 1).numR, ⟨2, ((rdr0 i.p i.s).pos 1).num, 0, 0, 0, 0, 0, 0, []⟩)
    else if foldF w0 = wCUT then (((rdr0 i.p i.s).pos 1).numR.numR, ⟨3, ((rdr0 i.p i.s).pos 1).num, 0, 0, 0, ((rdr0 i.p i.s).pos 1).numR.num, 0, 0, []⟩)
    else if foldF w0 = wCHANGE then (((rdr0 i.p i.s).pos 1).numR.numR.numR, ⟨4, ((rdr0 i.p i.s).pos 1).num, 0, 0, ((rdr0 i.p i.s).pos 1).numR.num, ((rdr0 i.p i.s).pos 1).numR.numR.num, 0, 0, []⟩)
    else if foldF w0 = wBUY then ((((rdr0 i.p i.s).pos 1).order 1).r, (((rdr0 i.p i.s).pos 1).order 1).c)
    else if foldF w0 = wSELL then ((((rdr0 i.p i.s).pos 1).order 2).r, (((rdr0 i.p i.s).pos 1).order 2).c)
    else (((rdr0 i.p i.s).pos 1).fail 31 ((rdr0 i.p i.s).pos 0).here, cmd0) := by
    conv => lhs; rw [rdr_pos]
    rw [Rdr.cmd, if_neg n1, n2, n3]
  have hok : ((rdr0 i.p i.s).pos 1).ok := ⟨hr.1, hr.2.1, hr.2.2.1, by show 1 ≤ (wordsL i.s).length; rw [hwl]; simp, hr.2.2.2.2⟩
  have hrw : ((rdr0 i.p i.s).pos 1).words = wordsL i.s := rfl
  have hra : ((rdr0 i.p i.s).pos 1).at_ = wordsA i.s := rfl
  have hrp : ((rdr0 i.p i.s).pos 1).p = i.p := rfl
  have hre : ((rdr0 i.p i.s).pos 1).end_ = ((runes i.s).length : Nat) := rfl
  have hr1 : ((rdr0 i.p i.s).pos 1).k = 1 ∧ ((rdr0 i.p i.s).pos 1).why = 0 ∧ ((rdr0 i.p i.s).pos 1).place = 0 := ⟨rfl, rfl, rfl⟩
  have hw0 : w0.length ≤ 1048576 := by have := hmem w0 (by rw [hwl]; simp); omega
  have hat : ∃ n, (wordsA i.s)[0]? = some n ∧ ((rdr0 i.p i.s).pos 0).here = n := by
    obtain ⟨n, hn⟩ : ∃ n, (wordsA i.s)[0]? = some n := ⟨_, List.getElem?_eq_getElem (by rw [hwa, hwl]; simp)⟩
    refine ⟨n, hn, ?_⟩
    rw [pos_here (r := rdr0 i.p i.s) rfl (w := w0) (by rw [words_get hwl]; rfl)]
    show (wordsA i.s).getD 0 0 = n
    rw [List.getD_eq_getElem?_getD, hn]; rfl
  generalize ((rdr0 i.p i.s).pos 0).here = hr0 at hcmd hat
  generalize (rdr0 i.p i.s).pos 1 = r1 at hcmd hok hrw hra hrp hre hr1
  generalize (rdr0 i.p i.s).cmd = CM at hcmd hPE
  clear n1 n2 n3 hr
  obtain ⟨g1, g2, g3⟩ := hr1
  refine ⟨⟨by omega, by rw [hwl]; simp; try omega⟩, sb w0, by rw [hwl]; rfl, w0, rfl, by omega, fun _ _ => ?_⟩
  refine cndD (fun c1 => ?_) fun c1 => cndD (fun c2 => ?_) fun c2 => cndD (fun c3 => ?_) fun c3 => cndD (fun c4 => ?_) fun c4 => cndD (fun c5 => ?_) fun c5 => ?_
  · rw [if_pos c1] at hcmd
    have hP := hPE _ _ hcmd
    have hQ : (r1.numR).ok := numR_rok hok
    have hQw : (r1.numR).words = wordsL i.s := by simp only [numR_words]; exact hrw
    have hQa : (r1.numR).at_ = wordsA i.s := by simp only [numR_at]; exact hra
    refine ⟨r1, by rw [g1]; rfl, hre, g2, g3, by rw [hrw], by rw [hra], hok, fun _ _ => ?_⟩
    generalize hRR : r1.numR = Q at hP hQ hQw hQa ⊢
    refine ⟨Q, rfl, rfl, rfl, rfl, rfl, rfl, fun x => x.why = Q.rest.why ∧ x.place = Q.rest.place, Cv.cnd.mk (fun c1 => Cv.cnd.mk (fun c2 => ?_) (fun c2 => ⟨Q, rfl, rfl, rfl, rfl, rfl, rfl, ?_, by (repeat' (first | exact rfl | exact trivial | assumption | apply And.intro | (refine fun (_ : Unit) (_ : True) => ?_) | (refine Exists.intro () ?_) | fail))⟩)) (fun c1 => ⟨Q, rfl, rfl, rfl, rfl, rfl, rfl, ?_, by (repeat' (first | exact rfl | exact trivial | assumption | apply And.intro | (refine fun (_ : Unit) (_ : True) => ?_) | (refine Exists.intro () ?_) | fail))⟩), fun x hx => ?_⟩
    · have c1 : Q.why = 0 := by simpa using c1
      simp only [decide_eq_true_eq] at c2
      have hm := more_mk c1 (by rw [hQw]; omega)
      obtain ⟨n, hn⟩ : ∃ n, Q.at_[Q.k]? = some n := ⟨_, List.getElem?_eq_getElem (by rw [hQa, hwa]; omega)⟩
      refine ⟨⟨by omega, by omega⟩, n, by rw [Int.toNat_natCast, ← hQa]; exact elI hn, ⟨Q, 12, n⟩, rfl, rfl, rfl, rfl, rfl, rfl, rfl, rfl, trivial, fun _ _ => ⟨Q.fail 12 n, rfl, rfl, rfl, rfl, rfl, rfl, rest_more hm hn, by (repeat' (first | exact rfl | exact trivial | assumption | apply And.intro | (refine fun (_ : Unit) (_ : True) => ?_) | (refine Exists.intro () ?_) | fail))⟩⟩
    · simp only [decide_eq_false_iff_not] at c2
      rw [rest_less (fun e => c2 (by have := (more_why e).2; rw [hQw] at this; omega))]
      exact ⟨rfl, rfl⟩
    · have c1 : Q.why ≠ 0 := by simpa using c1
      rw [rest_less (bad_more c1)]
      exact ⟨rfl, rfl⟩
    obtain ⟨x1, x2⟩ := hx
    refine Cv.cnd.mk (fun d => ⟨by (first | exact rfl | exact trivial), by (first | exact rfl | exact trivial), (), ?_⟩) (fun d => ⟨⟨2, r1.num, 0, 0, 0, 0, 0, 0, []⟩, rfl, rfl, rfl, rfl, rfl, rfl, rfl, rfl, rfl, Nat.zero_le _, fun _ _ => Cv.cnd.mk (fun e => ⟨(), ?_⟩) (fun e => ⟨(), ?_⟩)⟩)
    · have d : x.why ≠ 0 := by simpa using d
      rw [pend_bad hP x1 x2 d]
      (repeat' (first | exact rfl | exact trivial | assumption | apply And.intro | (refine fun (_ : Unit) (_ : True) => ?_) | (refine Exists.intro () ?_) | fail))
    · have d : Q.rest.why = 0 := by rw [← x1]; simpa using d
      have e : (⟨2, r1.num, 0, 0, 0, 0, 0, 0, []⟩ : Cmd).right ≠ 0 := by simpa using e
      rw [pend_right hP d e]
      (repeat' (first | exact rfl | exact trivial | assumption | apply And.intro | (refine fun (_ : Unit) (_ : True) => ?_) | (refine Exists.intro () ?_) | fail))
    · have d : Q.rest.why = 0 := by rw [← x1]; simpa using d
      have e : (⟨2, r1.num, 0, 0, 0, 0, 0, 0, []⟩ : Cmd).right = 0 := by simpa using e
      rw [pend_ok hP d e]
      (repeat' (first | exact rfl | exact trivial | assumption | apply And.intro | (refine fun (_ : Unit) (_ : True) => ?_) | (refine Exists.intro () ?_) | fail))
  · rw [if_neg c1, if_pos c2] at hcmd
    have hP := hPE _ _ hcmd
    have hQ : (r1.numR.numR).ok := numR_rok (numR_rok hok)
    have hQw : (r1.numR.numR).words = wordsL i.s := by simp only [numR_words]; exact hrw
    have hQa : (r1.numR.numR).at_ = wordsA i.s := by simp only [numR_at]; exact hra
    refine ⟨r1, by rw [g1]; rfl, hre, g2, g3, by rw [hrw], by rw [hra], hok, fun _ _ => ⟨r1.numR, rfl, rfl, rfl, rfl, rfl, rfl, numR_rok hok, fun _ _ => ?_⟩⟩
    generalize hRR : r1.numR.numR = Q at hP hQ hQw hQa ⊢
    refine ⟨Q, rfl, rfl, rfl, rfl, rfl, rfl, fun x => x.why = Q.rest.why ∧ x.place = Q.rest.place, Cv.cnd.mk (fun c1 => Cv.cnd.mk (fun c2 => ?_) (fun c2 => ⟨Q, rfl, rfl, rfl, rfl, rfl, rfl, ?_, by (repeat' (first | exact rfl | exact trivial | assumption | apply And.intro | (refine fun (_ : Unit) (_ : True) => ?_) | (refine Exists.intro () ?_) | fail))⟩)) (fun c1 => ⟨Q, rfl, rfl, rfl, rfl, rfl, rfl, ?_, by (repeat' (first | exact rfl | exact trivial | assumption | apply And.intro | (refine fun (_ : Unit) (_ : True) => ?_) | (refine Exists.intro () ?_) | fail))⟩), fun x hx => ?_⟩
    · have c1 : Q.why = 0 := by simpa using c1
      simp only [decide_eq_true_eq] at c2
      have hm := more_mk c1 (by rw [hQw]; omega)
      obtain ⟨n, hn⟩ : ∃ n, Q.at_[Q.k]? = some n := ⟨_, List.getElem?_eq_getElem (by rw [hQa, hwa]; omega)⟩
      refine ⟨⟨by omega, by omega⟩, n, by rw [Int.toNat_natCast, ← hQa]; exact elI hn, ⟨Q, 12, n⟩, rfl, rfl, rfl, rfl, rfl, rfl, rfl, rfl, trivial, fun _ _ => ⟨Q.fail 12 n, rfl, rfl, rfl, rfl, rfl, rfl, rest_more hm hn, by (repeat' (first | exact rfl | exact trivial | assumption | apply And.intro | (refine fun (_ : Unit) (_ : True) => ?_) | (refine Exists.intro () ?_) | fail))⟩⟩
    · simp only [decide_eq_false_iff_not] at c2
      rw [rest_less (fun e => c2 (by have := (more_why e).2; rw [hQw] at this; omega))]
      exact ⟨rfl, rfl⟩
    · have c1 : Q.why ≠ 0 := by simpa using c1
      rw [rest_less (bad_more c1)]
      exact ⟨rfl, rfl⟩
    obtain ⟨x1, x2⟩ := hx
    refine Cv.cnd.mk (fun d => ⟨by (first | exact rfl | exact trivial), by (first | exact rfl | exact trivial), (), ?_⟩) (fun d => ⟨⟨3, r1.num, 0, 0, 0, r1.numR.num, 0, 0, []⟩, rfl, rfl, rfl, rfl, rfl, rfl, rfl, rfl, rfl, Nat.zero_le _, fun _ _ => Cv.cnd.mk (fun e => ⟨(), ?_⟩) (fun e => ⟨(), ?_⟩)⟩)
    · have d : x.why ≠ 0 := by simpa using d
      rw [pend_bad hP x1 x2 d]
      (repeat' (first | exact rfl | exact trivial | assumption | apply And.intro | (refine fun (_ : Unit) (_ : True) => ?_) | (refine Exists.intro () ?_) | fail))
    · have d : Q.rest.why = 0 := by rw [← x1]; simpa using d
      have e : (⟨3, r1.num, 0, 0, 0, r1.numR.num, 0, 0, []⟩ : Cmd).right ≠ 0 := by simpa using e
      rw [pend_right hP d e]
      (repeat' (first | exact rfl | exact trivial | assumption | apply And.intro | (refine fun (_ : Unit) (_ : True) => ?_) | (refine Exists.intro () ?_) | fail))
    · have d : Q.rest.why = 0 := by rw [← x1]; simpa using d
      have e : (⟨3, r1.num, 0, 0, 0, r1.numR.num, 0, 0, []⟩ : Cmd).right = 0 := by simpa using e
      rw [pend_ok hP d e]
      (repeat' (first | exact rfl | exact trivial | assumption | apply And.intro | (refine fun (_ : Unit) (_ : True) => ?_) | (refine Exists.intro () ?_) | fail))
  · rw [if_neg c1, if_neg c2, if_pos c3] at hcmd
    have hP := hPE _ _ hcmd
    have hQ : (r1.numR.numR.numR).ok := numR_rok (numR_rok (numR_rok hok))
    have hQw : (r1.numR.numR.numR).words = wordsL i.s := by simp only [numR_words]; exact hrw
    have hQa : (r1.numR.numR.numR).at_ = wordsA i.s := by simp only [numR_at]; exact hra
    refine ⟨r1, by rw [g1]; rfl, hre, g2, g3, by rw [hrw], by rw [hra], hok, fun _ _ => ⟨r1.numR, rfl, rfl, rfl, rfl, rfl, rfl, numR_rok hok, fun _ _ => ⟨r1.numR.numR, rfl, rfl, rfl, rfl, rfl, rfl, numR_rok (numR_rok hok), fun _ _ => ?_⟩⟩⟩
    generalize hRR : r1.numR.numR.numR = Q at hP hQ hQw hQa ⊢
    refine ⟨Q, rfl, rfl, rfl, rfl, rfl, rfl, fun x => x.why = Q.rest.why ∧ x.place = Q.rest.place, Cv.cnd.mk (fun c1 => Cv.cnd.mk (fun c2 => ?_) (fun c2 => ⟨Q, rfl, rfl, rfl, rfl, rfl, rfl, ?_, by (repeat' (first | exact rfl | exact trivial | assumption | apply And.intro | (refine fun (_ : Unit) (_ : True) => ?_) | (refine Exists.intro () ?_) | fail))⟩)) (fun c1 => ⟨Q, rfl, rfl, rfl, rfl, rfl, rfl, ?_, by (repeat' (first | exact rfl | exact trivial | assumption | apply And.intro | (refine fun (_ : Unit) (_ : True) => ?_) | (refine Exists.intro () ?_) | fail))⟩), fun x hx => ?_⟩
    · have c1 : Q.why = 0 := by simpa using c1
      simp only [decide_eq_true_eq] at c2
      have hm := more_mk c1 (by rw [hQw]; omega)
      obtain ⟨n, hn⟩ : ∃ n, Q.at_[Q.k]? = some n := ⟨_, List.getElem?_eq_getElem (by rw [hQa, hwa]; omega)⟩
      refine ⟨⟨by omega, by omega⟩, n, by rw [Int.toNat_natCast, ← hQa]; exact elI hn, ⟨Q, 12, n⟩, rfl, rfl, rfl, rfl, rfl, rfl, rfl, rfl, trivial, fun _ _ => ⟨Q.fail 12 n, rfl, rfl, rfl, rfl, rfl, rfl, rest_more hm hn, by (repeat' (first | exact rfl | exact trivial | assumption | apply And.intro | (refine fun (_ : Unit) (_ : True) => ?_) | (refine Exists.intro () ?_) | fail))⟩⟩
    · simp only [decide_eq_false_iff_not] at c2
      rw [rest_less (fun e => c2 (by have := (more_why e).2; rw [hQw] at this; omega))]
      exact ⟨rfl, rfl⟩
    · have c1 : Q.why ≠ 0 := by simpa using c1
      rw [rest_less (bad_more c1)]
      exact ⟨rfl, rfl⟩
    obtain ⟨x1, x2⟩ := hx
    refine Cv.cnd.mk (fun d => ⟨by (first | exact rfl | exact trivial), by (first | exact rfl | exact trivial), (), ?_⟩) (fun d => ⟨⟨4, r1.num, 0, 0, r1.numR.num, r1.numR.numR.num, 0, 0, []⟩, rfl, rfl, rfl, rfl, rfl, rfl, rfl, rfl, rfl, Nat.zero_le _, fun _ _ => Cv.cnd.mk (fun e => ⟨(), ?_⟩) (fun e => ⟨(), ?_⟩)⟩)
    · have d : x.why ≠ 0 := by simpa using d
      rw [pend_bad hP x1 x2 d]
      (repeat' (first | exact rfl | exact trivial | assumption | apply And.intro | (refine fun (_ : Unit) (_ : True) => ?_) | (refine Exists.intro () ?_) | fail))
    · have d : Q.rest.why = 0 := by rw [← x1]; simpa using d
      have e : (⟨4, r1.num, 0, 0, r1.numR.num, r1.numR.numR.num, 0, 0, []⟩ : Cmd).right ≠ 0 := by simpa using e
      rw [pend_right hP d e]
      (repeat' (first | exact rfl | exact trivial | assumption | apply And.intro | (refine fun (_ : Unit) (_ : True) => ?_) | (refine Exists.intro () ?_) | fail))
    · have d : Q.rest.why = 0 := by rw [← x1]; simpa using d
      have e : (⟨4, r1.num, 0, 0, r1.numR.num, r1.numR.numR.num, 0, 0, []⟩ : Cmd).right = 0 := by simpa using e
      rw [pend_ok hP d e]
      (repeat' (first | exact rfl | exact trivial | assumption | apply And.intro | (refine fun (_ : Unit) (_ : True) => ?_) | (refine Exists.intro () ?_) | fail))
  · rw [if_neg c1, if_neg c2, if_neg c3, if_pos c4] at hcmd
    have hP := hPE _ _ hcmd
    have hQ : ((r1.order 1).r).ok := order_rok hok 1
    have hQw : ((r1.order 1).r).words = wordsL i.s := by rw [order_words', hrw]
    have hQa : ((r1.order 1).r).at_ = wordsA i.s := by rw [order_at', hra]
    refine ⟨⟨r1, 1⟩, by rw [hrp], by rw [hrp], by rw [hrp], by rw [hrp], by rw [hrp], by rw [hrp], by rw [hrp], by rw [hrp], by rw [hrp], by rw [hrp], by rw [hrp], rfl, by rw [g1]; rfl, hre, g2, g3, by rw [hrw], by rw [hra], hok, fun o ho => ?_⟩
    dsimp only at ho ⊢
    generalize (r1.order 1).c = C at hP ho
    generalize hRR : (r1.order 1).r = Q at hP hQ hQw hQa ⊢
    refine ⟨Q, rfl, rfl, rfl, rfl, rfl, rfl, fun x => x.why = Q.rest.why ∧ x.place = Q.rest.place, Cv.cnd.mk (fun c1 => Cv.cnd.mk (fun c2 => ?_) (fun c2 => ⟨Q, rfl, rfl, rfl, rfl, rfl, rfl, ?_, by (repeat' (first | exact rfl | exact trivial | assumption | apply And.intro | (refine fun (_ : Unit) (_ : True) => ?_) | (refine Exists.intro () ?_) | fail))⟩)) (fun c1 => ⟨Q, rfl, rfl, rfl, rfl, rfl, rfl, ?_, by (repeat' (first | exact rfl | exact trivial | assumption | apply And.intro | (refine fun (_ : Unit) (_ : True) => ?_) | (refine Exists.intro () ?_) | fail))⟩), fun x hx => ?_⟩
    · have c1 : Q.why = 0 := by simpa using c1
      simp only [decide_eq_true_eq] at c2
      have hm := more_mk c1 (by rw [hQw]; omega)
      obtain ⟨n, hn⟩ : ∃ n, Q.at_[Q.k]? = some n := ⟨_, List.getElem?_eq_getElem (by rw [hQa, hwa]; omega)⟩
      refine ⟨⟨by omega, by omega⟩, n, by rw [Int.toNat_natCast, ← hQa]; exact elI hn, ⟨Q, 12, n⟩, rfl, rfl, rfl, rfl, rfl, rfl, rfl, rfl, trivial, fun _ _ => ⟨Q.fail 12 n, rfl, rfl, rfl, rfl, rfl, rfl, rest_more hm hn, by (repeat' (first | exact rfl | exact trivial | assumption | apply And.intro | (refine fun (_ : Unit) (_ : True) => ?_) | (refine Exists.intro () ?_) | fail))⟩⟩
    · simp only [decide_eq_false_iff_not] at c2
      rw [rest_less (fun e => c2 (by have := (more_why e).2; rw [hQw] at this; omega))]
      exact ⟨rfl, rfl⟩
    · have c1 : Q.why ≠ 0 := by simpa using c1
      rw [rest_less (bad_more c1)]
      exact ⟨rfl, rfl⟩
    obtain ⟨x1, x2⟩ := hx
    have hoc : Q.rest.why = 0 → o = C := fun e => ho.1 (by rw [hRR]; exact rest_why e)
    refine Cv.cnd.mk (fun d => ⟨by (first | exact rfl | exact trivial), by (first | exact rfl | exact trivial), (), ?_⟩) (fun d => ⟨o, rfl, rfl, rfl, rfl, rfl, rfl, rfl, rfl, rfl, by have := ho.2; omega, fun _ _ => Cv.cnd.mk (fun e => ⟨(), ?_⟩) (fun e => ⟨(), ?_⟩)⟩)
    · have d : x.why ≠ 0 := by simpa using d
      rw [pend_bad hP x1 x2 d]
      (repeat' (first | exact rfl | exact trivial | assumption | apply And.intro | (refine fun (_ : Unit) (_ : True) => ?_) | (refine Exists.intro () ?_) | fail))
    · have d : Q.rest.why = 0 := by rw [← x1]; simpa using d
      have e : (o : Cmd).right ≠ 0 := by simpa using e
      have hC := hoc d
      subst hC
      rw [pend_right hP d e]
      (repeat' (first | exact rfl | exact trivial | assumption | apply And.intro | (refine fun (_ : Unit) (_ : True) => ?_) | (refine Exists.intro () ?_) | fail))
    · have d : Q.rest.why = 0 := by rw [← x1]; simpa using d
      have e : (o : Cmd).right = 0 := by simpa using e
      have hC := hoc d
      subst hC
      rw [pend_ok hP d e]
      (repeat' (first | exact rfl | exact trivial | assumption | apply And.intro | (refine fun (_ : Unit) (_ : True) => ?_) | (refine Exists.intro () ?_) | fail))
  · rw [if_neg c1, if_neg c2, if_neg c3, if_neg c4, if_pos c5] at hcmd
    have hP := hPE _ _ hcmd
    have hQ : ((r1.order 2).r).ok := order_rok hok 2
    have hQw : ((r1.order 2).r).words = wordsL i.s := by rw [order_words', hrw]
    have hQa : ((r1.order 2).r).at_ = wordsA i.s := by rw [order_at', hra]
    refine ⟨⟨r1, 2⟩, by rw [hrp], by rw [hrp], by rw [hrp], by rw [hrp], by rw [hrp], by rw [hrp], by rw [hrp], by rw [hrp], by rw [hrp], by rw [hrp], by rw [hrp], rfl, by rw [g1]; rfl, hre, g2, g3, by rw [hrw], by rw [hra], hok, fun o ho => ?_⟩
    dsimp only at ho ⊢
    generalize (r1.order 2).c = C at hP ho
    generalize hRR : (r1.order 2).r = Q at hP hQ hQw hQa ⊢
    refine ⟨Q, rfl, rfl, rfl, rfl, rfl, rfl, fun x => x.why = Q.rest.why ∧ x.place = Q.rest.place, Cv.cnd.mk (fun c1 => Cv.cnd.mk (fun c2 => ?_) (fun c2 => ⟨Q, rfl, rfl, rfl, rfl, rfl, rfl, ?_, by (repeat' (first | exact rfl | exact trivial | assumption | apply And.intro | (refine fun (_ : Unit) (_ : True) => ?_) | (refine Exists.intro () ?_) | fail))⟩)) (fun c1 => ⟨Q, rfl, rfl, rfl, rfl, rfl, rfl, ?_, by (repeat' (first | exact rfl | exact trivial | assumption | apply And.intro | (refine fun (_ : Unit) (_ : True) => ?_) | (refine Exists.intro () ?_) | fail))⟩), fun x hx => ?_⟩
    · have c1 : Q.why = 0 := by simpa using c1
      simp only [decide_eq_true_eq] at c2
      have hm := more_mk c1 (by rw [hQw]; omega)
      obtain ⟨n, hn⟩ : ∃ n, Q.at_[Q.k]? = some n := ⟨_, List.getElem?_eq_getElem (by rw [hQa, hwa]; omega)⟩
      refine ⟨⟨by omega, by omega⟩, n, by rw [Int.toNat_natCast, ← hQa]; exact elI hn, ⟨Q, 12, n⟩, rfl, rfl, rfl, rfl, rfl, rfl, rfl, rfl, trivial, fun _ _ => ⟨Q.fail 12 n, rfl, rfl, rfl, rfl, rfl, rfl, rest_more hm hn, by (repeat' (first | exact rfl | exact trivial | assumption | apply And.intro | (refine fun (_ : Unit) (_ : True) => ?_) | (refine Exists.intro () ?_) | fail))⟩⟩
    · simp only [decide_eq_false_iff_not] at c2
      rw [rest_less (fun e => c2 (by have := (more_why e).2; rw [hQw] at this; omega))]
      exact ⟨rfl, rfl⟩
    · have c1 : Q.why ≠ 0 := by simpa using c1
      rw [rest_less (bad_more c1)]
      exact ⟨rfl, rfl⟩
    obtain ⟨x1, x2⟩ := hx
    have hoc : Q.rest.why = 0 → o = C := fun e => ho.1 (by rw [hRR]; exact rest_why e)
    refine Cv.cnd.mk (fun d => ⟨by (first | exact rfl | exact trivial), by (first | exact rfl | exact trivial), (), ?_⟩) (fun d => ⟨o, rfl, rfl, rfl, rfl, rfl, rfl, rfl, rfl, rfl, by have := ho.2; omega, fun _ _ => Cv.cnd.mk (fun e => ⟨(), ?_⟩) (fun e => ⟨(), ?_⟩)⟩)
    · have d : x.why ≠ 0 := by simpa using d
      rw [pend_bad hP x1 x2 d]
      (repeat' (first | exact rfl | exact trivial | assumption | apply And.intro | (refine fun (_ : Unit) (_ : True) => ?_) | (refine Exists.intro () ?_) | fail))
    · have d : Q.rest.why = 0 := by rw [← x1]; simpa using d
      have e : (o : Cmd).right ≠ 0 := by simpa using e
      have hC := hoc d
      subst hC
      rw [pend_right hP d e]
      (repeat' (first | exact rfl | exact trivial | assumption | apply And.intro | (refine fun (_ : Unit) (_ : True) => ?_) | (refine Exists.intro () ?_) | fail))
    · have d : Q.rest.why = 0 := by rw [← x1]; simpa using d
      have e : (o : Cmd).right = 0 := by simpa using e
      have hC := hoc d
      subst hC
      rw [pend_ok hP d e]
      (repeat' (first | exact rfl | exact trivial | assumption | apply And.intro | (refine fun (_ : Unit) (_ : True) => ?_) | (refine Exists.intro () ?_) | fail))
  · obtain ⟨n, hn, rfl⟩ := hat
    rw [if_neg c1, if_neg c2, if_neg c3, if_neg c4, if_neg c5] at hcmd
    have hP := hPE _ _ hcmd
    have hb := fail_why r1 (a := 31) (by decide) hr0
    have e2 := pend_bad hP (by rw [rest_less (bad_more hb)]) (by rw [rest_less (bad_more hb)]) hb
    have e3 : r1.fail 31 hr0 = { r1 with why := 31, place := hr0 } := by rw [Rdr.fail, if_pos g2]
    rw [e2, e3]
    refine ⟨⟨by omega, by rw [hwa, hwl]; simp; try omega⟩, hr0, elI hn, by (first | exact rfl | exact trivial), (), ?_⟩
    (repeat' (first | exact rfl | exact trivial | assumption | apply And.intro | (refine fun (_ : Unit) (_ : True) => ?_) | (refine Exists.intro () ?_) | fail))
theorem lparse_ok : parseC.ok Tryz.prog 17 := bylparse (gokc words2_ok (gokc cnt2_ok (gokc fold2_ok (gokc lnum_ok (gokc lorder_ok (gokc lref_ok (gokc right6_ok gok0))))))) vlparse

end Sx

namespace Sx
set_option linter.unusedVariables false
set_option linter.unusedSimpArgs false
set_option maxRecDepth 100000
open Go Cv Go.Proofs

theorem bSELL2 : ByteArray.mk #[115, 101, 108, 108, 32] = sb [115, 101, 108, 108, 32] := rfl
theorem bBUY2 : ByteArray.mk #[98, 117, 121, 32] = sb [98, 117, 121, 32] := rfl
def lA1 (c : Cmd) : List UInt8 := if c.side = 2 then [115, 101, 108, 108, 32] else [98, 117, 121, 32]
def lA2 (p : Prd) (c : Cmd) : List UInt8 := lA1 c ++ p.name c.inst ++ [32] ++ digF c.qty ++ [32, 97, 116, 32] ++ digF c.price ++ [32, 105, 100, 32] ++ digF c.id ++ (if c.least ≠ 0 then [32, 108, 101, 97, 115, 116, 32] ++ digF c.least else [])
def lA3 (p : Prd) (c : Cmd) : List UInt8 := lA2 p c ++ (if c.time = 2 then [32, 110, 111, 119] else [])
def lA4 (p : Prd) (c : Cmd) : List UInt8 := lA3 p c ++ (if c.time = 3 then [32, 119, 104, 111, 108, 101] else [])
def lA5 (p : Prd) (c : Cmd) : List UInt8 := lA4 p c ++ (if c.label ≠ [] then [32, 108, 97, 98, 101, 108, 32] ++ c.label else [])
theorem lA5_line {p : Prd} {c : Cmd} (h : c.kind = 1) : lA5 p c = lineF p c := by
  unfold lA5 lA4 lA3 lA2 lA1 lineF lineW nwO nwW
  rw [if_pos h]
  by_cases a : c.least = 0 <;> by_cases b : c.time = 2 <;> by_cases b2 : c.time = 3 <;> by_cases d : c.label = [] <;> by_cases e : c.side = 2 <;> simp [NewW.ws, oWords, sepL, sepW, oLeast, oTime, oLabel, pBUY, pSELL, pAT, pID, pLEAST, pNOW, pWHOLE, pLABEL, a, b, b2, d, e] <;> omega
theorem lA_len (p : Prd) (c : Cmd) : (lA4 p c).length ≤ 2 * p.code.length + 400 ∧ (lA3 p c).length ≤ 2 * p.code.length + 400 ∧ (lA2 p c).length ≤ 2 * p.code.length + 400 := by
  have hn := name_len p c.inst
  have d1 := digF_26 c.qty
  have d2 := digF_26 c.price
  have d3 := digF_26 c.id
  have d4 := digF_26 c.least
  unfold lA4 lA3 lA2 lA1
  refine ⟨?_, ?_, ?_⟩
  · by_cases a : c.least = 0 <;> by_cases b : c.time = 2 <;> by_cases b2 : c.time = 3 <;> by_cases e : c.side = 2 <;> simp [a, b, b2, e] <;> omega
  · by_cases a : c.least = 0 <;> by_cases b : c.time = 2 <;> by_cases e : c.side = 2 <;> simp [a, b, e] <;> omega
  · by_cases a : c.least = 0 <;> by_cases e : c.side = 2 <;> simp [a, e] <;> omega
set_option maxHeartbeats 4000000 in
theorem vlprint (i : PcI) (h : printC.cnd i) : Vlprint i := by
  obtain ⟨h1, h2, h3, h4⟩ : i.p.small ∧ i.p.code.length ≤ 1000 ∧ i.c.raw ∧ i.c.label.length ≤ 1000 := h
  obtain ⟨r1, r2, r3, r4, r5, r6, r7, r8⟩ := h3
  have hn := name_len i.p i.c.inst
  have d1 := digF_26 i.c.qty
  have d2 := digF_26 i.c.price
  have d3 := digF_26 i.c.id
  have d4 := digF_26 i.c.least
  have hl := line_len i.p i.c
  obtain ⟨l4, l3, l2⟩ := lA_len i.p i.c
  have hL : (lineF i.p i.c).length ≤ 1048576 := by omega
  have hp : printF i.p i.c = if i.c.right ≠ 0 then [] else if (parseF i.p (lineF i.p i.c)).2.1 ≠ 0 ∨ (parseF i.p (lineF i.p i.c)).1 ≠ i.c.ask then [] else lineF i.p i.c := rfl
  unfold Vlprint
  simp only [bCANCEL, bCUT, bCHANGE, bSELL2, bBUY2, b32, bAT, bID, bLEAST, bNOW, bWHOLE, bLABEL, sb_nil', ← sb_app, sb_size, i64max, List.length_append, List.length_cons, List.length_nil, cmd_ne, eqB]
  generalize printF i.p i.c = F at hp ⊢
  refine ⟨i.c, rfl, rfl, rfl, rfl, rfl, rfl, rfl, rfl, rfl, by omega, fun _ _ => Cv.cnd.mk (fun c => ⟨(), ?_, trivial⟩) fun c => ?_⟩
  · have c : i.c.right ≠ 0 := by simpa using c
    rw [hp, if_pos c]
  have c : ¬ i.c.right ≠ 0 := by simpa using c
  rw [if_neg c] at hp
  have hk := right_kind (Classical.byContradiction c)
  refine ⟨i.c.id, rfl, r2, fun _ _ => ⟨[], fun L => L = lineF i.p i.c, ?_, fun L hLe => ?_⟩⟩
  · refine Cv.cnd.mk (fun k2 => ⟨by omega, lineF i.p i.c, ?_, rfl, by (repeat' (first | exact rfl | exact trivial | assumption | apply And.intro | (refine fun (_ : Unit) (_ : True) => ?_) | (refine Exists.intro () ?_) | fail))⟩) fun k2 => Cv.cnd.mk (fun k3 => ⟨by omega, by (first | omega | (dsimp only; omega)), i.c.qty, rfl, r6, fun _ _ => ⟨by (first | omega | (dsimp only; omega)), lineF i.p i.c, ?_, rfl, by (repeat' (first | exact rfl | exact trivial | assumption | apply And.intro | (refine fun (_ : Unit) (_ : True) => ?_) | (refine Exists.intro () ?_) | fail))⟩⟩) fun k3 => Cv.cnd.mk (fun k4 => ⟨by omega, by (first | omega | (dsimp only; omega)), i.c.price, rfl, r5, fun _ _ => ⟨by (first | exact rfl | exact trivial), by (first | omega | (dsimp only; omega)), by (first | omega | (dsimp only; omega)), i.c.qty, rfl, r6, fun _ _ => ⟨by (first | omega | (dsimp only; omega)), lineF i.p i.c, ?_, rfl, by (repeat' (first | exact rfl | exact trivial | assumption | apply And.intro | (refine fun (_ : Unit) (_ : True) => ?_) | (refine Exists.intro () ?_) | fail))⟩⟩⟩) fun k4 => ?_
    all_goals simp only [beq_iff_eq, beq_eq_false_iff_ne, ne_eq] at k2
    · rw [lineF, lineW, if_neg (by omega), if_pos k2]; simp [sepL, sepW, pCANCEL]
    all_goals simp only [beq_iff_eq, beq_eq_false_iff_ne, ne_eq] at k3
    · rw [lineF, lineW, if_neg (by omega), if_neg k2, if_pos k3]; simp [sepL, sepW, pCUT]
    all_goals simp only [beq_iff_eq, beq_eq_false_iff_ne, ne_eq] at k4
    · rw [lineF, lineW, if_neg (by omega), if_neg k2, if_neg k3]; simp [sepL, sepW, pCHANGE]
    have k1 : i.c.kind = 1 := by omega
    have h5 := lA5_line (p := i.p) k1
    rw [← h5]
    clear hp hL hl h5
    have la1 : (lA1 i.c).length ≤ 5 := by unfold lA1; split <;> simp
    refine ⟨[], fun L => L = lA1 i.c, Cv.cnd.mk (fun e => ⟨lA1 i.c, ?_, rfl, by (repeat' (first | exact rfl | exact trivial | assumption | apply And.intro | (refine fun (_ : Unit) (_ : True) => ?_) | (refine Exists.intro () ?_) | fail))⟩) (fun e => ⟨lA1 i.c, ?_, rfl, by (repeat' (first | exact rfl | exact trivial | assumption | apply And.intro | (refine fun (_ : Unit) (_ : True) => ?_) | (refine Exists.intro () ?_) | fail))⟩), ?_⟩
    · simp only [beq_iff_eq] at e
      rw [lA1, if_pos e]
    · simp only [beq_eq_false_iff_ne, ne_eq] at e
      rw [lA1, if_neg e]
    rintro L rfl
    refine ⟨⟨i.p, i.c.inst⟩, rfl, rfl, rfl, rfl, rfl, rfl, rfl, rfl, rfl, rfl, rfl, rfl, h1, fun _ _ => ⟨by (first | exact rfl | exact trivial), by (first | exact rfl | exact trivial), by (first | omega | (dsimp only; omega)), by (first | omega | (dsimp only; omega)), i.c.qty, rfl, r6, fun _ _ => ⟨by (first | exact rfl | exact trivial), by (first | omega | (dsimp only; omega)), by (first | omega | (dsimp only; omega)), i.c.price, rfl, r5, fun _ _ => ⟨by (first | omega | (dsimp only; omega)), by (first | omega | (dsimp only; omega)), by (first | omega | (dsimp only; omega)), [], fun L => L = lA2 i.p i.c, Cv.cnd.mk (fun e => ⟨by (first | omega | (dsimp only; omega)), i.c.least, rfl, r7, fun _ _ => ⟨by (first | omega | (dsimp only; omega)), lA2 i.p i.c, ?_, rfl, by (repeat' (first | exact rfl | exact trivial | assumption | apply And.intro | (refine fun (_ : Unit) (_ : True) => ?_) | (refine Exists.intro () ?_) | fail))⟩⟩) (fun e => ⟨lA2 i.p i.c, ?_, rfl, by (repeat' (first | exact rfl | exact trivial | assumption | apply And.intro | (refine fun (_ : Unit) (_ : True) => ?_) | (refine Exists.intro () ?_) | fail))⟩), ?_⟩⟩⟩⟩
    · simp only [bne_iff_ne] at e
      rw [lA2, if_pos e]; simp
    · simp only [bne_eq_false_iff_eq] at e
      rw [lA2, if_neg (by rw [e]; simp)]; simp
    rintro L rfl
    refine ⟨[], fun L => L = lA3 i.p i.c, Cv.cnd.mk (fun e => ⟨by (first | omega | (dsimp only; omega)), lA3 i.p i.c, ?_, rfl, by (repeat' (first | exact rfl | exact trivial | assumption | apply And.intro | (refine fun (_ : Unit) (_ : True) => ?_) | (refine Exists.intro () ?_) | fail))⟩) (fun e => ⟨lA3 i.p i.c, ?_, rfl, by (repeat' (first | exact rfl | exact trivial | assumption | apply And.intro | (refine fun (_ : Unit) (_ : True) => ?_) | (refine Exists.intro () ?_) | fail))⟩), ?_⟩
    · simp only [beq_iff_eq] at e
      rw [lA3, if_pos e]
    · simp only [beq_eq_false_iff_ne, ne_eq] at e
      rw [lA3, if_neg e, List.append_nil]
    rintro L rfl
    refine ⟨[], fun L => L = lA4 i.p i.c, Cv.cnd.mk (fun e => ⟨by (first | omega | (dsimp only; omega)), lA4 i.p i.c, ?_, rfl, by (repeat' (first | exact rfl | exact trivial | assumption | apply And.intro | (refine fun (_ : Unit) (_ : True) => ?_) | (refine Exists.intro () ?_) | fail))⟩) (fun e => ⟨lA4 i.p i.c, ?_, rfl, by (repeat' (first | exact rfl | exact trivial | assumption | apply And.intro | (refine fun (_ : Unit) (_ : True) => ?_) | (refine Exists.intro () ?_) | fail))⟩), ?_⟩
    · simp only [beq_iff_eq] at e
      rw [lA4, if_pos e]
    · simp only [beq_eq_false_iff_ne, ne_eq] at e
      rw [lA4, if_neg e, List.append_nil]
    rintro L rfl
    refine Cv.cnd.mk (fun e => ⟨by (first | omega | (dsimp only; omega)), by (first | omega | (dsimp only; omega)), lA5 i.p i.c, ?_, rfl, by (repeat' (first | exact rfl | exact trivial | assumption | apply And.intro | (refine fun (_ : Unit) (_ : True) => ?_) | (refine Exists.intro () ?_) | fail))⟩) (fun e => ⟨lA5 i.p i.c, ?_, rfl, by (repeat' (first | exact rfl | exact trivial | assumption | apply And.intro | (refine fun (_ : Unit) (_ : True) => ?_) | (refine Exists.intro () ?_) | fail))⟩)
    · have e : i.c.label ≠ [] := by simpa using e
      rw [lA5, if_pos e]; simp
    · have e : i.c.label = [] := by simpa using e
      rw [lA5, if_neg (by rw [e]; simp), List.append_nil]
  · subst hLe
    generalize lineF i.p i.c = L at hp hL ⊢
    clear hl d1 d2 d3 d4 hn l2 l3 l4
    refine ⟨⟨i.p, L⟩, rfl, rfl, rfl, rfl, rfl, rfl, rfl, rfl, rfl, rfl, rfl, rfl, ⟨h1, hL⟩, fun _ _ => ?_⟩
    dsimp only
    generalize parseF i.p L = R at hp ⊢
    refine Cv.cnd.mk (fun d => ⟨(), ?_, trivial⟩) fun d => ⟨i.c, rfl, rfl, rfl, rfl, rfl, rfl, rfl, rfl, rfl, trivial, fun _ _ => ⟨by (repeat' (first | exact rfl | exact trivial | assumption | apply And.intro | (refine fun (_ : Unit) (_ : True) => ?_) | (refine Exists.intro () ?_) | omega | (dsimp only; omega))), Cv.cnd.mk (fun f => ⟨(), ?_, trivial⟩) fun f => ⟨(), ?_, trivial⟩⟩⟩
    · rw [hp, if_pos (.inl (by simpa using d))]
    · rw [hp, if_pos (.inr (by simpa using f))]
    · rw [hp, if_neg]
      rintro (g | g)
      · exact g (by simpa using d)
      · exact g (by simpa using f)
theorem lprint_ok : printC.ok Tryz.prog 7 := bylprint (gokc right6_ok (gokc dig_ok (gokc name5_ok (gokc lparse_ok (gokc ask6_ok gok0))))) vlprint

end Sx

namespace Sx
set_option linter.unusedVariables false
set_option linter.unusedSimpArgs false
set_option maxRecDepth 100000
open Go Cv Go.Proofs

theorem vsame (i : SamI) (h : sameC.cnd i) : Vsame i := by
  obtain ⟨h1, h2⟩ : i.p.small ∧ i.s.length ≤ 1048576 := h
  have hwa := words_at i.s
  have hwl := words_len i.s
  have hwm := words_mem i.s
  unfold Vsame
  simp only [cmd_ne, tE_len]
  refine ⟨⟨i.p, i.s⟩, rfl, rfl, rfl, rfl, rfl, rfl, rfl, rfl, rfl, rfl, rfl, rfl, ⟨h1, h2⟩, fun _ _ => ⟨⟨i.p, i.s⟩, rfl, rfl, rfl, rfl, rfl, rfl, rfl, rfl, rfl, rfl, rfl, rfl, ⟨h1, h2⟩, fun _ _ => ⟨i.s, rfl, h2, fun _ _ => ⟨i.s, rfl, h2, fun _ _ => ?_⟩⟩⟩⟩
  dsimp only
  generalize parseF i.p i.s = F
  refine Cv.cnd.mk (fun c => absurd c (by simp)) fun _ => Cv.cnd.mk (fun c => absurd c (by simp)) fun _ => Cv.cnd.mk (fun c => absurd c (by simp)) fun _ => Cv.cnd.mk (fun c => absurd c (by simp)) fun _ => ⟨⟨wordsA i.s, wordsA i.s⟩, rfl, rfl, ⟨by dsimp only; omega, by dsimp only; omega⟩, fun _ _ => Cv.cnd.mk (fun c => absurd c (by simp)) fun _ => ⟨0, rfl, fun k => k ≤ (wordsL i.s).length, fun k => (wordsL i.s).length - k, Nat.zero_le _, fun k hk => cndD (fun c => ?_) (fun c => ⟨(), by (first | exact rfl | exact trivial), trivial⟩)⟩⟩
  have hk1 : k < (wordsL i.s).length := by omega
  obtain ⟨w, hw⟩ : ∃ w, (wordsL i.s)[k]? = some w := ⟨_, List.getElem?_eq_getElem hk1⟩
  have hlen := hwm w (List.mem_of_getElem? hw)
  have hel : elPart (tE (wordsL i.s)) (k : Int).toNat 0 1 = some [D.v (.string (sb w))] := by rw [Int.toNat_natCast]; exact elT hw
  refine ⟨⟨by omega, by omega⟩, sb w, hel, w, rfl, by omega, fun _ _ => ⟨⟨by omega, by omega⟩, sb w, hel, w, rfl, by omega, fun _ _ => ⟨⟨by omega, by omega⟩, sb w, hel, ⟨by omega, by omega⟩, sb w, hel, Cv.cnd.mk (fun e => absurd e (by simp)) fun _ => Cv.cnd.mk (fun e => absurd e (by simp)) fun _ => Cv.cnd.mk (fun e => absurd e (by simp)) fun _ => ⟨k + 1, by rw [w64 (by omega)]; rfl, by dsimp only; omega, by dsimp only; omega, by (repeat' (first | exact rfl | exact trivial | assumption | apply And.intro | (refine fun (_ : Unit) (_ : True) => ?_) | (refine Exists.intro () ?_) | fail))⟩⟩⟩⟩
theorem same_ok : sameC.ok Tryz.prog 8 := bysame (gokc parse_ok (gokc lparse_ok (gokc words_ok (gokc words2_ok (gokc same1_ok (gokc num_ok (gokc num2_ok gok0))))))) vsame

end Sx

namespace Sx
set_option linter.unusedVariables false
set_option maxRecDepth 100000
open Go Cv Go.Proofs

structure CbI where
  x : Prd
  c : Cmd
  blanks : Int
def cbD (i : CbI) : Cmd := { tame ⟨kprod i.x, i.c, 3⟩ with label := headF i.c.label 60 }
def cbS (i : CbI) : List UInt8 := printF (kprod i.x) (cbD i)
def cbW (i : CbI) : List (List UInt8) := wordsL (cbS i)
def cbN (i : CbI) : Nat := (within i.blanks 0 5).toNat
/-- A word as it comes again. -/
def cbOne (i : CbI) (k : Nat) : List UInt8 := if k + 1 < (cbW i).length ∨ (cbD i).label = [] then foldF ((cbW i).getD k []) else (cbW i).getD k []
def cbT (i : CbI) (k : Nat) : List UInt8 := ((List.range k).map fun j => List.replicate (cbN i + 1) 32 ++ cbOne i j).flatten
end Sx

namespace Sx
set_option linter.unusedVariables false
set_option linter.unusedSimpArgs false
set_option maxRecDepth 100000
open Go Cv Go.Proofs

structure TmOk (p : Prd) (d : Cmd) : Prop where
  kind : d.kind = 1 ∨ d.kind = 2 ∨ d.kind = 3 ∨ d.kind = 4
  id : 1 ≤ d.id ∧ d.id ≤ 31
  qty : 1 ≤ d.qty ∧ d.qty ≤ 12
  price : -1000 ≤ d.price ∧ d.price ≤ 1000
  least : 0 ≤ d.least ∧ d.least ≤ d.qty
  side : d.kind = 1 → d.side = 1 ∨ d.side = 2
  time : d.kind = 1 → d.time = 1 ∨ d.time = 2 ∨ d.time = 3
  inst : 0 ≤ d.inst ∧ d.inst < p.count
theorem kcount_le (x : Prd) : 3 ≤ (kprod x).count ∧ (kprod x).count ≤ 15 := by
  obtain ⟨b1, b2⟩ := kN_nat x
  rw [kcnt]
  have h : ∀ n < 6, 2 ≤ n → 3 ≤ cntN n ∧ cntN n ≤ 15 := by decide
  exact h _ b2 b1
theorem tm_kind (c : Cmd) : tmKind c = 1 ∨ tmKind c = 2 ∨ tmKind c = 3 ∨ tmKind c = 4 := by
  have := within_bd (n := c.kind) (lo := 0) (hi := 8) (by omega)
  unfold tmKind
  split <;> omega
theorem tame_ok' (x : Prd) (c : Cmd) : TmOk (kprod x) (tame ⟨kprod x, c, 3⟩) := by
  obtain ⟨c1, c2⟩ := kcount_le x
  obtain ⟨t1, t2⟩ := kTick_bd x
  have hk := tm_kind c
  have h2 := within_bd (n := c.id) (lo := 0) (hi := 30) (by omega)
  have h3 := within_bd (n := c.inst) (lo := 0) (hi := (kprod x).count - 1) (by omega)
  have h4 := within_bd (n := c.side) (lo := 0) (hi := 1) (by omega)
  have h5 := within_bd (n := c.price) (lo := 0) (hi := 9) (by omega)
  have h6 := within_bd (n := c.qty) (lo := 0) (hi := 11) (by omega)
  have h7 := within_bd (n := c.least) (lo := 0) (hi := 1 + within c.qty 0 11) (by omega)
  have hp : (kprod x).tick = kTick x := rfl
  have hm := mul_bd (a := kTick x) (b := within c.price 0 9) (m := 10) (n := 9) ⟨by omega, t2⟩ h5
  have hl : 0 ≤ tmLeast c (1 + within c.qty 0 11) ∧ tmLeast c (1 + within c.qty 0 11) ≤ 1 + within c.qty 0 11 := by
    unfold tmLeast; split <;> omega
  have ht : tmTime c = 1 ∨ tmTime c = 2 ∨ tmTime c = 3 := by
    unfold tmTime; split
    · omega
    · split <;> omega
  generalize within c.id 0 30 = w2 at h2
  unfold tame
  dsimp only [tmHead]
  rw [hp]
  generalize kTick x * within c.price 0 9 = pr at hm ⊢
  split
  · rename_i hk1
    refine ⟨.inl hk1, by dsimp only; omega, by dsimp only; omega, ?_, hl, fun _ => by dsimp only; omega, fun _ => ht, by dsimp only; omega⟩
    dsimp only
    split <;> omega
  · rename_i hk1
    refine ⟨hk, ?_, by dsimp only; omega, ?_, by dsimp only; omega, fun h => absurd h hk1, fun h => absurd h hk1, by dsimp only; omega⟩
    · dsimp only
      have := within_bd (n := c.id) (lo := 0) (hi := 30) (by omega)
      omega
    · dsimp only
      split <;> omega
structure CbOk (i : CbI) : Prop where
  ne : cbS i ≠ []
  slen : (cbS i).length ≤ 1000
  read : parseF (kprod i.x) (cbS i) = ((cbD i).ask, 0, 0)
  len : (cbW i).length ≤ 13
  one : ∀ k, k < (cbW i).length → (cbOne i k).length ≤ 60
  again : parseF (kprod i.x) (cbT i (cbW i).length) = ((cbD i).ask, 0, 0)
end Sx

namespace Sx
set_option linter.unusedVariables false
set_option linter.unusedSimpArgs false
set_option maxRecDepth 100000
open Go Cv Go.Proofs

theorem tame_raw (x : Prd) (c : Cmd) : (tame ⟨kprod x, c, 3⟩).raw := by
  obtain ⟨hk, hi, hq, hp, hl, hs, ht, hn⟩ := tame_ok' x c
  have hc := (kcount_le x).2
  have hside : i64r (tame ⟨kprod x, c, 3⟩).side ∧ i64r (tame ⟨kprod x, c, 3⟩).time := by
    by_cases k1 : (tame ⟨kprod x, c, 3⟩).kind = 1
    · have := hs k1
      have := ht k1
      exact ⟨⟨by omega, by omega⟩, ⟨by omega, by omega⟩⟩
    · have k2 : ¬ tmKind c = 1 := by
        intro e
        apply k1
        unfold tame
        dsimp only [tmHead]
        rw [if_pos e]; exact e
      have e1 : (tame ⟨kprod x, c, 3⟩).side = 0 := by
        unfold tame
        dsimp only [tmHead]
        rw [if_neg k2]
      have e2 : (tame ⟨kprod x, c, 3⟩).time = 0 := by
        unfold tame
        dsimp only [tmHead]
        rw [if_neg k2]
      rw [e1, e2]
      exact ⟨⟨by omega, by omega⟩, ⟨by omega, by omega⟩⟩
  exact ⟨⟨by omega, by omega⟩, ⟨by omega, by omega⟩, ⟨by omega, by omega⟩, hside.1, ⟨by omega, by omega⟩, ⟨by omega, by omega⟩, ⟨by omega, by omega⟩, hside.2⟩
theorem xor_byte (a b : Int) : ∃ m : Nat, m < 256 ∧ iXor IntKind.u8 a b = (m : Int) := by
  have h := (BitVec.ofInt IntKind.u8.bits a ^^^ BitVec.ofInt IntKind.u8.bits b).isLt
  have e : iXor IntKind.u8 a b = ((BitVec.ofInt IntKind.u8.bits a ^^^ BitVec.ofInt IntKind.u8.bits b).toNat : Int) % 256 := rfl
  generalize (BitVec.ofInt IntKind.u8.bits a ^^^ BitVec.ofInt IntKind.u8.bits b).toNat = m at h e
  have h : m < 256 := h
  exact ⟨m, h, by rw [e]; omega⟩
theorem bytesE_sb (T : List UInt8) : bytesE (sb T) = T.map fun b => [D.v (.int .u8 b.toNat)] := by simp [bytesE, sb]
theorem bytes_el {T : List UInt8} {q : Nat} {b : UInt8} (h : T[q]? = some b) : elPart (bytesE (sb T)) q 0 1 = some [D.v (.int .u8 b.toNat)] := by
  rw [bytesE_sb]
  simp [elPart, h]
  rfl
theorem bytes_set {T : List UInt8} {q m : Nat} (hm : m < 256) (hq : q < T.length) : elSet (bytesE (sb T)) q 0 [D.v (.int .u8 (m : Int))] = bytesE (sb (T.set q (UInt8.ofNat m))) := by
  have hmm : (UInt8.ofNat m).toNat = m := UInt8.toNat_ofNat_of_lt' (by simpa [UInt8.size] using hm)
  rw [bytesE_sb, bytesE_sb, elSet]
  apply List.ext_getElem?
  intro j
  rw [List.getElem?_modify, List.getElem?_map, List.getElem?_map, List.getElem?_set]
  by_cases hj : q = j
  · subst hj
    rw [if_pos rfl, if_pos hq]
    simp [List.getElem?_eq_getElem hq, hmm]
  · rw [if_neg hj]
    cases T[j]? <;> simp [hj]
theorem ctLine_len (i : CtI) : ∀ k, (ctLine i k).length ≤ 31 * k
  | 0 => by simp [ctLine]
  | k + 1 => by
    have := ctLine_len i k
    have := head_len (s := i.words.getD k []) (n := 30) (by omega)
    simp only [ctLine, List.length_append, List.length_singleton]
    omega
theorem b32' : ByteArray.mk #[32] = sb [32] := rfl
set_option maxHeartbeats 8000000 in
theorem vctell (i : CtI) (h : ctellC.cnd i) : Vctell i := by
  obtain ⟨hx, hxs, hc, hat, ht, hs, hwl, hws, hlb⟩ : i.x.raw ∧ i.x.small ∧ i.c.raw ∧ i64r i.at_ ∧ i.turn < 256 ∧ i.s.length ≤ 9223372036854775807 ∧ i.words.length ≤ 9223372036854775807 ∧ (∀ w ∈ i.words, w.length ≤ 9223372036854775807) ∧ i.c.label.length ≤ 9223372036854775807 := h
  have hks := kprod_small i.x
  have hkc := kprod_check i.x
  have h60 := head_len (s := i.c.label) (n := 60) (by omega)
  have h200 := head_len (s := i.s) (n := 200) (by omega)
  have hpl : (lineF (kprod i.x) { tame ⟨kprod i.x, { i.c with label := headF i.c.label 60 }, 3⟩ with label := headF i.c.label 60 }).length ≤ 2 * (kprod i.x).code.length + (headF i.c.label 60).length + 400 := line_len (kprod i.x) { tame ⟨kprod i.x, { i.c with label := headF i.c.label 60 }, 3⟩ with label := headF i.c.label 60 }
  have hraw : ({ tame ⟨kprod i.x, { i.c with label := headF i.c.label 60 }, 3⟩ with label := headF i.c.label 60 } : Cmd).raw := tame_raw i.x { i.c with label := headF i.c.label 60 }
  have hPl : (printF (kprod i.x) { tame ⟨kprod i.x, { i.c with label := headF i.c.label 60 }, 3⟩ with label := headF i.c.label 60 }).length ≤ 1000 := by
    have hcode : (kprod i.x).code.length = 2 := rfl
    unfold printF
    split
    · simp
    · split
      · simp
      · omega
  clear hpl
  unfold Vctell
  simp only [sb_nil', b32', ← sb_app, sb_size, i64max, eqB, tE_len]
  refine ⟨i.x, rfl, rfl, rfl, rfl, rfl, rfl, rfl, rfl, rfl, rfl, rfl, hx, fun _ _ => ⟨⟨i.s, 200⟩, rfl, rfl, ⟨by (first | omega | (dsimp only; omega)), by (first | omega | (dsimp only; omega)), hs⟩, fun _ _ => ⟨0, rfl, rfl, fun k => k ≤ i.words.length ∧ k ≤ 16, fun k => 16 - k, ⟨Nat.zero_le _, Nat.zero_le _⟩, fun k hk => ?_⟩⟩⟩
  obtain ⟨k1, k2⟩ := hk
  have hll := ctLine_len i k
  refine cndD (fun c1 => cndD (fun c2 => ?_) (fun c2 => ?_)) (fun c1 => ?_)
  · have hk1 : k < i.words.length := by omega
    obtain ⟨w, hw⟩ : ∃ w, i.words[k]? = some w := ⟨_, List.getElem?_eq_getElem hk1⟩
    have hwle := hws w (List.mem_of_getElem? hw)
    have h30 := head_len (s := w) (n := 30) (by omega)
    refine ⟨by simp only [List.length_singleton]; omega, ⟨by omega, by omega⟩, sb w, by rw [Int.toNat_natCast]; exact elT hw, ⟨w, 30⟩, rfl, rfl, ⟨by (first | omega | (dsimp only; omega)), by (first | omega | (dsimp only; omega)), hwle⟩, fun _ _ => ⟨by simp only [List.length_append, List.length_singleton]; omega, k + 1, ?_, by rw [w64 (x := (k : Int) + 1) (by omega)]; rfl, ⟨by omega, by omega⟩, by dsimp only; omega, by (repeat' (first | exact rfl | exact trivial | assumption | apply And.intro | (refine fun (_ : Unit) (_ : True) => ?_) | (refine Exists.intro () ?_) | fail))⟩⟩
    rw [ctLine, getD_of hw]
  · refine ⟨⟨i.c.label, 60⟩, rfl, rfl, ⟨by (first | omega | (dsimp only; omega)), by (first | omega | (dsimp only; omega)), hlb⟩, fun _ _ => ⟨⟨kprod i.x, { i.c with label := headF i.c.label 60 }, 3⟩, rfl, rfl, rfl, rfl, rfl, rfl, rfl, rfl, rfl, rfl, rfl, rfl, rfl, rfl, rfl, rfl, rfl, rfl, rfl, rfl, rfl, ⟨hkc, hks, hc, by (first | omega | (dsimp only; omega)), by (first | omega | (dsimp only; omega))⟩, fun _ _ => ⟨⟨kprod i.x, { tame ⟨kprod i.x, { i.c with label := headF i.c.label 60 }, 3⟩ with label := headF i.c.label 60 }⟩, rfl, rfl, rfl, rfl, rfl, rfl, rfl, rfl, rfl, rfl, rfl, rfl, rfl, rfl, rfl, rfl, rfl, rfl, rfl, rfl, ⟨hks, by show (2 : Nat) ≤ 1000; omega, hraw, by dsimp only; omega⟩, fun _ _ => ⟨⟨kprod i.x, headF i.s 200⟩, rfl, rfl, rfl, rfl, rfl, rfl, rfl, rfl, rfl, rfl, rfl, rfl, ⟨hks, by dsimp only; omega⟩, fun _ _ => ⟨⟨kprod i.x, ctLine i k⟩, rfl, rfl, rfl, rfl, rfl, rfl, rfl, rfl, rfl, rfl, rfl, rfl, ⟨hks, by dsimp only; omega⟩, fun _ _ => ⟨⟨i.x, ctLine i k⟩, rfl, rfl, rfl, rfl, rfl, rfl, rfl, rfl, rfl, rfl, rfl, rfl, ⟨hxs, by dsimp only; omega⟩, fun _ _ => ⟨⟨kprod i.x, { i.c with label := headF i.c.label 60 }⟩, rfl, rfl, rfl, rfl, rfl, rfl, rfl, rfl, rfl, rfl, rfl, rfl, rfl, rfl, rfl, rfl, rfl, rfl, rfl, rfl, ⟨hks, by show (2 : Nat) ≤ 1000; omega, hc, by dsimp only; omega⟩, fun _ _ => ⟨by (repeat' (first | exact rfl | exact trivial | assumption | apply And.intro | (refine fun (_ : Unit) (_ : True) => ?_) | (refine Exists.intro () ?_) | fail)), by (repeat' (first | exact rfl | exact trivial | assumption | apply And.intro | (refine fun (_ : Unit) (_ : True) => ?_) | (refine Exists.intro () ?_) | fail)), ⟨kprod i.x, { i.c with label := headF i.c.label 60 }⟩, rfl, rfl, rfl, rfl, rfl, rfl, rfl, rfl, rfl, rfl, rfl, rfl, rfl, rfl, rfl, rfl, rfl, rfl, rfl, rfl, ⟨hks, by show (2 : Nat) ≤ 1000; omega, hc, by dsimp only; omega⟩, fun _ _ => Cv.cnd.mk (fun e => absurd e (by simp)) fun _ => ⟨⟨kprod i.x, { tame ⟨kprod i.x, { i.c with label := headF i.c.label 60 }, 3⟩ with label := headF i.c.label 60 }⟩, rfl, rfl, rfl, rfl, rfl, rfl, rfl, rfl, rfl, rfl, rfl, rfl, rfl, rfl, rfl, rfl, rfl, rfl, rfl, rfl, ⟨hks, by show (2 : Nat) ≤ 1000; omega, hraw, by dsimp only; omega⟩, fun _ _ => Cv.cnd.mk (fun e => absurd e (by simp)) fun _ => ?_⟩⟩⟩⟩⟩⟩⟩⟩⟩
    dsimp only
    generalize printF (kprod i.x) { tame ⟨kprod i.x, { i.c with label := headF i.c.label 60 }, 3⟩ with label := headF i.c.label 60 } = T at hPl ⊢
    refine ⟨⟨kprod i.x, T⟩, rfl, rfl, rfl, rfl, rfl, rfl, rfl, rfl, rfl, rfl, rfl, rfl, ⟨hks, by dsimp only; omega⟩, fun _ _ => cndD (fun e => ?_) (fun e => ⟨⟨kprod i.x, T⟩, rfl, rfl, rfl, rfl, rfl, rfl, rfl, rfl, rfl, rfl, rfl, rfl, ⟨hks, by dsimp only; omega⟩, fun _ _ => ⟨(), trivial, fun _ _ => ⟨(), by (first | exact rfl | exact trivial), trivial⟩⟩⟩)⟩
    have hbl : (bytesE (sb T)).length = T.length := by rw [bytesE_sb, List.length_map]
    rw [hbl]
    have hwi := within_bd (n := i.at_) (lo := 0) (hi := (T.length : Int) - 1) (by omega)
    have hwr : IntKind.i64.wrap ((T.length : Int) - 1) = (T.length : Int) - 1 := w64 (by omega)
    rw [hwr]
    refine ⟨⟨i.at_, 0, (T.length : Int) - 1⟩, rfl, rfl, rfl, ⟨hat, by dsimp only; omega, by dsimp only; omega, by dsimp only; omega⟩, fun _ _ => ?_⟩
    dsimp only
    obtain ⟨q, hq⟩ : ∃ q : Nat, within i.at_ 0 ((T.length : Int) - 1) = q := ⟨(within i.at_ 0 ((T.length : Int) - 1)).toNat, by omega⟩
    rw [hq] at hwi ⊢
    rw [Int.toNat_natCast]
    have hqT : q < T.length := by omega
    obtain ⟨b, hb⟩ : ∃ b, T[q]? = some b := ⟨_, List.getElem?_eq_getElem hqT⟩
    obtain ⟨m, hm, hxm⟩ := xor_byte (b.toNat : Int) (i.turn : Int)
    refine ⟨⟨by omega, by omega⟩, (b.toNat : Int), bytes_el hb, ⟨by omega, by omega⟩, hqT, sb (T.set q (UInt8.ofNat m)), by (first | exact rfl | exact trivial), by rw [hxm]; exact bytes_set hm hqT, ⟨kprod i.x, T.set q (UInt8.ofNat m)⟩, rfl, rfl, rfl, rfl, rfl, rfl, rfl, rfl, rfl, rfl, rfl, rfl, ⟨hks, by dsimp only; rw [List.length_set]; omega⟩, fun _ _ => ⟨(), trivial, fun _ _ => ⟨(), by (first | exact rfl | exact trivial), trivial⟩⟩⟩
  · refine ⟨⟨i.c.label, 60⟩, rfl, rfl, ⟨by (first | omega | (dsimp only; omega)), by (first | omega | (dsimp only; omega)), hlb⟩, fun _ _ => ⟨⟨kprod i.x, { i.c with label := headF i.c.label 60 }, 3⟩, rfl, rfl, rfl, rfl, rfl, rfl, rfl, rfl, rfl, rfl, rfl, rfl, rfl, rfl, rfl, rfl, rfl, rfl, rfl, rfl, rfl, ⟨hkc, hks, hc, by (first | omega | (dsimp only; omega)), by (first | omega | (dsimp only; omega))⟩, fun _ _ => ⟨⟨kprod i.x, { tame ⟨kprod i.x, { i.c with label := headF i.c.label 60 }, 3⟩ with label := headF i.c.label 60 }⟩, rfl, rfl, rfl, rfl, rfl, rfl, rfl, rfl, rfl, rfl, rfl, rfl, rfl, rfl, rfl, rfl, rfl, rfl, rfl, rfl, ⟨hks, by show (2 : Nat) ≤ 1000; omega, hraw, by dsimp only; omega⟩, fun _ _ => ⟨⟨kprod i.x, headF i.s 200⟩, rfl, rfl, rfl, rfl, rfl, rfl, rfl, rfl, rfl, rfl, rfl, rfl, ⟨hks, by dsimp only; omega⟩, fun _ _ => ⟨⟨kprod i.x, ctLine i k⟩, rfl, rfl, rfl, rfl, rfl, rfl, rfl, rfl, rfl, rfl, rfl, rfl, ⟨hks, by dsimp only; omega⟩, fun _ _ => ⟨⟨i.x, ctLine i k⟩, rfl, rfl, rfl, rfl, rfl, rfl, rfl, rfl, rfl, rfl, rfl, rfl, ⟨hxs, by dsimp only; omega⟩, fun _ _ => ⟨⟨kprod i.x, { i.c with label := headF i.c.label 60 }⟩, rfl, rfl, rfl, rfl, rfl, rfl, rfl, rfl, rfl, rfl, rfl, rfl, rfl, rfl, rfl, rfl, rfl, rfl, rfl, rfl, ⟨hks, by show (2 : Nat) ≤ 1000; omega, hc, by dsimp only; omega⟩, fun _ _ => ⟨by (repeat' (first | exact rfl | exact trivial | assumption | apply And.intro | (refine fun (_ : Unit) (_ : True) => ?_) | (refine Exists.intro () ?_) | fail)), by (repeat' (first | exact rfl | exact trivial | assumption | apply And.intro | (refine fun (_ : Unit) (_ : True) => ?_) | (refine Exists.intro () ?_) | fail)), ⟨kprod i.x, { i.c with label := headF i.c.label 60 }⟩, rfl, rfl, rfl, rfl, rfl, rfl, rfl, rfl, rfl, rfl, rfl, rfl, rfl, rfl, rfl, rfl, rfl, rfl, rfl, rfl, ⟨hks, by show (2 : Nat) ≤ 1000; omega, hc, by dsimp only; omega⟩, fun _ _ => Cv.cnd.mk (fun e => absurd e (by simp)) fun _ => ⟨⟨kprod i.x, { tame ⟨kprod i.x, { i.c with label := headF i.c.label 60 }, 3⟩ with label := headF i.c.label 60 }⟩, rfl, rfl, rfl, rfl, rfl, rfl, rfl, rfl, rfl, rfl, rfl, rfl, rfl, rfl, rfl, rfl, rfl, rfl, rfl, rfl, ⟨hks, by show (2 : Nat) ≤ 1000; omega, hraw, by dsimp only; omega⟩, fun _ _ => Cv.cnd.mk (fun e => absurd e (by simp)) fun _ => ?_⟩⟩⟩⟩⟩⟩⟩⟩⟩
    dsimp only
    generalize printF (kprod i.x) { tame ⟨kprod i.x, { i.c with label := headF i.c.label 60 }, 3⟩ with label := headF i.c.label 60 } = T at hPl ⊢
    refine ⟨⟨kprod i.x, T⟩, rfl, rfl, rfl, rfl, rfl, rfl, rfl, rfl, rfl, rfl, rfl, rfl, ⟨hks, by dsimp only; omega⟩, fun _ _ => cndD (fun e => ?_) (fun e => ⟨⟨kprod i.x, T⟩, rfl, rfl, rfl, rfl, rfl, rfl, rfl, rfl, rfl, rfl, rfl, rfl, ⟨hks, by dsimp only; omega⟩, fun _ _ => ⟨(), trivial, fun _ _ => ⟨(), by (first | exact rfl | exact trivial), trivial⟩⟩⟩)⟩
    have hbl : (bytesE (sb T)).length = T.length := by rw [bytesE_sb, List.length_map]
    rw [hbl]
    have hwi := within_bd (n := i.at_) (lo := 0) (hi := (T.length : Int) - 1) (by omega)
    have hwr : IntKind.i64.wrap ((T.length : Int) - 1) = (T.length : Int) - 1 := w64 (by omega)
    rw [hwr]
    refine ⟨⟨i.at_, 0, (T.length : Int) - 1⟩, rfl, rfl, rfl, ⟨hat, by dsimp only; omega, by dsimp only; omega, by dsimp only; omega⟩, fun _ _ => ?_⟩
    dsimp only
    obtain ⟨q, hq⟩ : ∃ q : Nat, within i.at_ 0 ((T.length : Int) - 1) = q := ⟨(within i.at_ 0 ((T.length : Int) - 1)).toNat, by omega⟩
    rw [hq] at hwi ⊢
    rw [Int.toNat_natCast]
    have hqT : q < T.length := by omega
    obtain ⟨b, hb⟩ : ∃ b, T[q]? = some b := ⟨_, List.getElem?_eq_getElem hqT⟩
    obtain ⟨m, hm, hxm⟩ := xor_byte (b.toNat : Int) (i.turn : Int)
    refine ⟨⟨by omega, by omega⟩, (b.toNat : Int), bytes_el hb, ⟨by omega, by omega⟩, hqT, sb (T.set q (UInt8.ofNat m)), by (first | exact rfl | exact trivial), by rw [hxm]; exact bytes_set hm hqT, ⟨kprod i.x, T.set q (UInt8.ofNat m)⟩, rfl, rfl, rfl, rfl, rfl, rfl, rfl, rfl, rfl, rfl, rfl, rfl, ⟨hks, by dsimp only; rw [List.length_set]; omega⟩, fun _ _ => ⟨(), trivial, fun _ _ => ⟨(), by (first | exact rfl | exact trivial), trivial⟩⟩⟩
end Sx

