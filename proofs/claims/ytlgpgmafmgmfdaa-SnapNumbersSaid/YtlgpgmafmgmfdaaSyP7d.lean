/- The reference's Decode: one side. -/
import Derived.Test.YtlgpgmafmgmfdaaSyP7c
set_option linter.unusedVariables false
set_option linter.unusedSimpArgs false
set_option maxRecDepth 100000
namespace Sx
open Go Cv Go.Proofs
open Classical

structure PartR (r0 : RB) (q : QN) (l : List Lv) : Prop where
  ok : q.ok
  len : l.length ≤ 255
  bad : q.b = true → r0.part.2.b = true
  fit : q.b = false → q.r = r0.part.2 ∧ l = r0.part.1
structure SideR (r0 : RB) (f0 : Bool) (q : QN) (s : Sd) (f : Bool) : Prop where
  ok : q.ok
  len : s.levels.length ≤ 255
  bad : q.b = true → r0.side.2.b = true
  fit : q.b = false → q.r = r0.side.2 ∧ s = r0.side.1.1 ∧ f = (f0 && r0.side.1.2)

theorem rb_b (q : QN) : q.r.b = q.b := rfl
theorem qbad {q : QN} (h : q.b = true) (n : Nat) : (q.take n).b = true := bad_n h n
theorem qgood {q : QN} {n : Nat} (h : (q.take n).b = false) : q.b = false := by
  cases hb : q.b
  · rfl
  · rw [qbad hb n] at h; cases h
theorem lvgood {q : QN} (h : q.lv.b = false) : q.b = false := qgood (qgood (qgood h))

theorem afterNo {r0 : RB} {f0 : Bool} {q : QN} {l : List Lv} (h : PartR r0 q l) (hn : ¬ q.r.byte.1 = 1) : SideR r0 f0 (q.take 1) ⟨l, ⟨0, 0, 0⟩, false⟩ (f0 && decide (q.r.byte.1 ≤ 1)) := by
  have e : q.b = false → r0.side = ((⟨l, ⟨0, 0, 0⟩, false⟩, decide (q.r.byte.1 ≤ 1)), q.r.byte.2) := fun hb => by
    obtain ⟨h1, h2⟩ := h.fit hb
    rw [h1] at hn ⊢
    rw [h2, RB.side, if_neg hn]
  refine ⟨ok_qtake h.ok 1, h.len, fun hb => ?_, fun hb => ?_⟩
  · cases hq : q.b
    · rw [e hq]
      show q.r.byte.2.b = true
      rw [← q_byte]; exact hb
    · exact side_part (h.bad hq)
  · rw [e (qgood hb)]
    exact ⟨q_byte q, rfl, rfl⟩
theorem afterYes {r0 : RB} {f0 : Bool} {q : QN} {l : List Lv} (h : PartR r0 q l) (hn : q.r.byte.1 = 1) : SideR r0 f0 (q.take 1).lv ⟨l, (q.take 1).r.lv.1, true⟩ (f0 && decide (q.r.byte.1 ≤ 1)) := by
  have e : q.b = false → r0.side = ((⟨l, (q.take 1).r.lv.1, true⟩, true), (q.take 1).r.lv.2) := fun hb => by
    obtain ⟨h1, h2⟩ := h.fit hb
    rw [h1] at hn
    rw [q_byte, h1, h2, RB.side, if_pos hn]
  refine ⟨ok_qlv (ok_qtake h.ok 1), h.len, fun hb => ?_, fun hb => ?_⟩
  · cases hq : q.b
    · rw [e hq]
      show (q.take 1).r.lv.2.b = true
      rw [← q_lv]; exact hb
    · exact side_part (h.bad hq)
  · rw [e (qgood (lvgood hb))]
    refine ⟨q_lv _, rfl, ?_⟩
    rw [hn]; rfl

theorem partEnd {r0 : RB} {q : QN} {k : Nat} (ho : q.ok) (hr : q.r = (r0.byte.2.lvs k).2) (hk : k = r0.byte.1.toNat ∨ (q.b = true ∧ k ≤ r0.byte.1.toNat)) : PartR r0 q (r0.byte.2.lvs k).1 := by
  have hb := byte_range r0
  refine ⟨ho, ?_, fun h => ?_, fun h => ?_⟩
  · rw [lvs_len]; rcases hk with rfl | ⟨_, h2⟩ <;> omega
  · have : (r0.byte.2.lvs k).2.b = true := by rw [← hr]; exact h
    show (r0.byte.2.lvs r0.byte.1.toNat).2.b = true
    rcases hk with rfl | ⟨_, h2⟩
    · exact this
    · have := lvs_mono this (r0.byte.1.toNat - k)
      rwa [Nat.add_sub_cancel' h2] at this
  · rcases hk with rfl | ⟨h2, _⟩
    · exact ⟨hr, rfl⟩
    · rw [h] at h2; cases h2

theorem eq0 {b : Bool} (h : ((if b = true then (10 : Int) else 0) == 0) = true) : b = false := by cases b <;> simp_all
theorem ne0 {b : Bool} (h : ((if b = true then (10 : Int) else 0) == 0) = false) : b = true := by cases b <;> simp_all



/-- What the loop over a view's sides holds. -/
structure ViewR (r : RB) (n : Nat) (q : QN) (v : Vw) (f : Bool) (j : Nat) : Prop where
  ok : q.ok
  le : j ≤ n
  len : v.length = j
  small : ∀ b ∈ v, b.1.levels.length ≤ 255 ∧ b.2.levels.length ≤ 255
  bad : q.b = true → (r.views j).2.b = true
  fit : q.b = false → q.r = (r.views j).2 ∧ v = (r.views j).1.1 ∧ f = (r.views j).1.2

theorem vfdec (b : List UInt8) (h : fdecC.cnd b) : Vfdec b := by
  have h : b.length ≤ 1099511627776 := h
  have e0 : ((bE b).length : Int) = b.length := by rw [bE_len]
  have e1 : IntKind.i64.wrap (((bE b).length : Int) - 4) = (b.length : Int) - 4 := by rw [w64 (by omega), e0]
  unfold Vfdec
  rw [e1, e0]
  refine cndD (fun hlt => ?_) (fun hlt => ?_)
  · obtain ⟨a1, a2, a3⟩ := dec_not (b := b) fun x => by have := x.1; omega
    exact ⟨(), by rw [a1]; rfl, a2, a3, trivial⟩
  have en : ((b.length : Int) - 4).toNat = b.length - 4 := by omega
  rw [en, ← bE_take, ← bE_drop]
  have hc := crcOf_range (b.take (b.length - 4))
  have hx : (b.take (b.length - 4)).length ≤ 1099511627776 := by rw [List.length_take]; omega
  obtain ⟨b0, b1, b2, b3, hd⟩ : ∃ b0 b1 b2 b3, b.drop (b.length - 4) = [b0, b1, b2, b3] := by
    have hl : (b.drop (b.length - 4)).length = 4 := by rw [List.length_drop]; omega
    generalize b.drop (b.length - 4) = l at hl
    match l, hl with
    | [p, q, r, s], _ => exact ⟨p, q, r, s, rfl⟩
  rw [hd]
  have hsum := sum_iff (by omega) hd
  refine ⟨⟨by omega, by omega⟩, ⟨by omega, by omega⟩, ⟨by omega, by rw [bE_len]; simp⟩, b0.toNat, rfl, ⟨by omega, by rw [bE_len]; simp⟩, b1.toNat, rfl, by decide, ⟨by omega, by rw [bE_len]; simp⟩, b2.toNat, rfl, by decide, ⟨by omega, by rw [bE_len]; simp⟩, b3.toNat, rfl, by decide, b.take (b.length - 4), rfl, hx, fun _ _ => ⟨trivial, trivial, trivial, trivial, ?_⟩⟩
  rw [or4]
  refine Cv.cnd.mk (fun e => ?_) (fun e => ?_)
  · obtain ⟨a1, a2, a3⟩ := dec_not (b := b) fun x => by rw [hsum] at x; rw [x] at e; simp at e
    exact ⟨(), by rw [a1]; rfl, a2, a3, trivial⟩
  have hs : sumFits b := hsum.2 (by simpa using e)
  have hq0 : (⟨b.take (b.length - 4), 0, false⟩ : QN).ok := ⟨Nat.zero_le _, hx⟩
  have er : (⟨b.take (b.length - 4), 0, false⟩ : QN).r = bodyRB b := rfl
  generalize hQ : (⟨b.take (b.length - 4), 0, false⟩ : QN) = q0 at hq0 er
  have h8 : (q0.take 8).r = (bodyRB b).long.2 := by rw [q_long, er]
  have h9 : ((q0.take 8).take 1).r = (bodyRB b).head.2 := by rw [q_byte, h8]; rfl
  have hh : (q0.take 8).r.byte.1 = (bodyRB b).head.1 := by rw [h8]; rfl
  have hr0 := byte_range (q0.take 8).r
  rw [hh] at hr0
  refine ⟨q0, by rw [← hQ], by rw [← hQ]; rfl, by rw [← hQ]; rfl, hq0, fun _ _ => ⟨⟨q0.take 8, [], true, 0⟩, rfl, rfl, rfl, rfl, fun d => ∃ j, (j = (bodyRB b).head.1.toNat ∨ d.q.b = true) ∧ ViewR (bodyRB b).head.2 (bodyRB b).head.1.toNat d.q d.v d.fine j,
    ⟨q0.take 8, rfl, rfl, rfl, ok_qtake hq0 8, fun _ _ => ⟨⟨(q0.take 8).take 1, [], true, (q0.take 8).r.byte.1⟩, rfl, rfl, rfl, rfl, rfl, rfl, fun d => ∃ j, d.n = (((bodyRB b).head.1.toNat - j : Nat) : Int) ∧ ViewR (bodyRB b).head.2 (bodyRB b).head.1.toNat d.q d.v d.fine j, fun d => d.n.toNat, ⟨0, by dsimp only; omega, ⟨ok_qtake (ok_qtake hq0 8) 1, Nat.zero_le _, rfl, fun b hb => (nomatch hb), fun hb => ?_, fun hb => ⟨h9, rfl, rfl⟩⟩⟩, ?_⟩⟩, ?_⟩⟩
  · show (bodyRB b).head.2.b = true
    rw [← h9]; exact hb
  · rintro ⟨q, v, f, n⟩ ⟨j, hn, hv⟩
    dsimp only at hn hv ⊢
    have hok := hv.ok
    refine cndD (fun hgt => Cv.cnd.mk (fun hz => ?_) (fun hz => ⟨⟨q, v, f, 0⟩, rfl, rfl, rfl, rfl, rfl, ⟨j, .inr (ne0 hz), hv⟩, by (repeat' (first | exact trivial | exact rfl | apply And.intro))⟩)) (fun hgt => ⟨⟨q, v, f, 0⟩, rfl, rfl, rfl, rfl, rfl, ⟨j, .inl (by have := hv.le; omega), hv⟩, by (repeat' (first | exact trivial | exact rfl | apply And.intro))⟩)
    have hqb := eq0 hz
    obtain ⟨hqr, hvv, hff⟩ := hv.fit hqb

    refine ⟨⟨q, ⟨[], ⟨0, 0, 0⟩, false⟩, ⟨[], ⟨0, 0, 0⟩, false⟩, f, 0⟩, rfl, rfl, rfl, rfl, rfl, rfl, rfl, rfl, rfl, rfl, rfl, rfl, rfl, fun d => SideR q.r f d.q d.a d.fine ∧ d.b = ⟨[], ⟨0, 0, 0⟩, false⟩, ⟨⟨q, ⟨[], ⟨0, 0, 0⟩, false⟩, ⟨[], ⟨0, 0, 0⟩, false⟩, f, 0⟩, rfl, rfl, rfl, rfl, rfl, rfl, rfl, rfl, rfl, rfl, rfl, rfl, rfl, fun d => PartR q.r d.q d.a.levels ∧ d.a.imp = ⟨0, 0, 0⟩ ∧ d.a.has = false ∧ d.b = ⟨[], ⟨0, 0, 0⟩, false⟩, ⟨q, rfl, rfl, rfl, hok, fun _ _ => ⟨⟨q.take 1, ⟨[], ⟨0, 0, 0⟩, false⟩, ⟨[], ⟨0, 0, 0⟩, false⟩, f, q.r.byte.1⟩, rfl, rfl, rfl, rfl, rfl, rfl, rfl, rfl, rfl, rfl, rfl, rfl, rfl, rfl, fun d => ∃ k, d.n = ((q.r.byte.1.toNat - k : Nat) : Int) ∧ k ≤ q.r.byte.1.toNat ∧ d.q.ok ∧ d.q.r = (q.r.byte.2.lvs k).2 ∧ d.a = ⟨(q.r.byte.2.lvs k).1, ⟨0, 0, 0⟩, false⟩ ∧ d.b = ⟨[], ⟨0, 0, 0⟩, false⟩, fun d => d.n.toNat, ⟨0, by have := byte_range q.r; dsimp only; omega, Nat.zero_le _, ok_qtake hok 1, q_byte q, rfl, rfl⟩, ?_⟩⟩, ?_⟩, ?_⟩
    · rintro ⟨p, y, bb, f', n'⟩ ⟨k, hn', hk, hp, hpr, hy, hbb⟩
      dsimp only at hn' hk hp hpr hy hbb ⊢
      have hm := byte_range q.r
      subst hy
      refine cndD (fun hgt' => Cv.cnd.mk (fun hz' => ⟨p, rfl, rfl, rfl, hp, fun _ _ => ⟨trivial, trivial, ?_, ⟨p.lv, ⟨(q.r.byte.2.lvs (k + 1)).1, ⟨0, 0, 0⟩, false⟩, bb, f', n' - 1⟩, ?_, rfl, rfl, rfl, rfl, rfl, rfl, rfl, rfl, rfl, rfl, rfl, ?_, rfl, ⟨k + 1, by dsimp only; omega, by omega, ok_qlv hp, ?_, rfl, hbb⟩, by dsimp only; omega, by (repeat' (first | exact trivial | exact rfl | apply And.intro))⟩⟩) (fun hz' => ⟨⟨p, _, bb, f', 0⟩, rfl, rfl, rfl, rfl, rfl, rfl, rfl, rfl, rfl, rfl, rfl, rfl, rfl, ⟨partEnd hp hpr (.inr ⟨ne0 hz', hk⟩), rfl, rfl, hbb⟩, by (repeat' (first | exact trivial | exact rfl | apply And.intro))⟩)) (fun hgt' => ⟨⟨p, _, bb, f', 0⟩, rfl, rfl, rfl, rfl, rfl, rfl, rfl, rfl, rfl, rfl, rfl, rfl, rfl, ⟨partEnd hp hpr (.inl (by omega)), rfl, rfl, hbb⟩, by (repeat' (first | exact trivial | exact rfl | apply And.intro))⟩)
      · rw [List.length_map, lvs_len]; omega
      · rw [w64 (by omega)]
      · show List.map lvE ((q.r.byte.2.lvs k).1 ++ [(q.r.byte.2.lvs k).2.lv.1]) = _
        rw [List.map_append, ← hpr]; rfl
      · show p.lv.r = (q.r.byte.2.lvs k).2.lv.2
        rw [q_lv, hpr]
    · rintro ⟨p, y, bb, f', n'⟩ ⟨hp, hy1, hy2, hbb⟩
      dsimp only at hp hy1 hy2 hbb ⊢
      refine ⟨p, rfl, rfl, rfl, hp.ok, fun _ _ => ⟨true, fun c => c = (f && decide (p.r.byte.1 ≤ 1)), Cv.cnd.mk (fun e => ⟨_, rfl, by have e : f = true := e; rw [e]; rfl, by (repeat' (first | exact trivial | exact rfl | apply And.intro))⟩) (fun e => ⟨_, rfl, by have e : f = false := e; rw [e]; rfl, by (repeat' (first | exact trivial | exact rfl | apply And.intro))⟩), ?_⟩⟩
      rintro c rfl
      refine Cv.cnd.mk (fun e => ?_) (fun e => ?_)
      · have e : (p.r.byte.1 == 1) = true := e
        have e : p.r.byte.1 = 1 := by simpa using e
        refine ⟨p.take 1, rfl, rfl, rfl, ok_qtake hp.ok 1, fun _ _ => ⟨⟨(p.take 1).lv, ⟨y.levels, (p.take 1).r.lv.1, true⟩, bb, (f && decide (p.r.byte.1 ≤ 1)), 0⟩, rfl, rfl, rfl, rfl, rfl, rfl, rfl, rfl, rfl, rfl, rfl, rfl, rfl, rfl, ⟨afterYes hp e, hbb⟩, by (repeat' (first | exact trivial | exact rfl | apply And.intro))⟩⟩
      · have e : (p.r.byte.1 == 1) = false := e
        have e : ¬ p.r.byte.1 = 1 := by simpa using e
        refine ⟨⟨p.take 1, y, bb, (f && decide (p.r.byte.1 ≤ 1)), 0⟩, rfl, rfl, rfl, rfl, rfl, rfl, rfl, rfl, rfl, rfl, rfl, rfl, rfl, rfl, ⟨?_, hbb⟩, by (repeat' (first | exact trivial | exact rfl | apply And.intro))⟩
        have := afterNo (f0 := f) hp e
        rw [← hy1, ← hy2] at this
        exact this

    rintro ⟨qa, A, bb, fa, _⟩ ⟨hA, hbb⟩
    dsimp only at hA hbb ⊢
    subst hbb
    rw [hqr] at hA
    clear hok hqb
    have hok := hA.ok

    refine ⟨⟨qa, A, ⟨[], ⟨0, 0, 0⟩, false⟩, fa, 0⟩, rfl, rfl, rfl, rfl, rfl, rfl, rfl, rfl, rfl, rfl, rfl, rfl, rfl, fun d => SideR qa.r fa d.q d.b d.fine ∧ d.a = A, ⟨⟨qa, A, ⟨[], ⟨0, 0, 0⟩, false⟩, fa, 0⟩, rfl, rfl, rfl, rfl, rfl, rfl, rfl, rfl, rfl, rfl, rfl, rfl, rfl, fun d => PartR qa.r d.q d.b.levels ∧ d.b.imp = ⟨0, 0, 0⟩ ∧ d.b.has = false ∧ d.a = A, ⟨qa, rfl, rfl, rfl, hok, fun _ _ => ⟨⟨qa.take 1, A, ⟨[], ⟨0, 0, 0⟩, false⟩, fa, qa.r.byte.1⟩, rfl, rfl, rfl, rfl, rfl, rfl, rfl, rfl, rfl, rfl, rfl, rfl, rfl, rfl, fun d => ∃ k, d.n = ((qa.r.byte.1.toNat - k : Nat) : Int) ∧ k ≤ qa.r.byte.1.toNat ∧ d.q.ok ∧ d.q.r = (qa.r.byte.2.lvs k).2 ∧ d.b = ⟨(qa.r.byte.2.lvs k).1, ⟨0, 0, 0⟩, false⟩ ∧ d.a = A, fun d => d.n.toNat, ⟨0, by have := byte_range qa.r; dsimp only; omega, Nat.zero_le _, ok_qtake hok 1, q_byte qa, rfl, rfl⟩, ?_⟩⟩, ?_⟩, ?_⟩
    · rintro ⟨p, bb, y, fa', n'⟩ ⟨k, hn', hk, hp, hpr, hy, hbb⟩
      dsimp only at hn' hk hp hpr hy hbb ⊢
      have hm := byte_range qa.r
      subst hy
      refine cndD (fun hgt' => Cv.cnd.mk (fun hz' => ⟨p, rfl, rfl, rfl, hp, fun _ _ => ⟨trivial, trivial, ?_, ⟨p.lv, bb, ⟨(qa.r.byte.2.lvs (k + 1)).1, ⟨0, 0, 0⟩, false⟩, fa', n' - 1⟩, ?_, rfl, rfl, rfl, rfl, rfl, rfl, rfl, rfl, rfl, rfl, rfl, rfl, ?_, ⟨k + 1, by dsimp only; omega, by omega, ok_qlv hp, ?_, rfl, hbb⟩, by dsimp only; omega, by (repeat' (first | exact trivial | exact rfl | apply And.intro))⟩⟩) (fun hz' => ⟨⟨p, bb, _, fa', 0⟩, rfl, rfl, rfl, rfl, rfl, rfl, rfl, rfl, rfl, rfl, rfl, rfl, rfl, ⟨partEnd hp hpr (.inr ⟨ne0 hz', hk⟩), rfl, rfl, hbb⟩, by (repeat' (first | exact trivial | exact rfl | apply And.intro))⟩)) (fun hgt' => ⟨⟨p, bb, _, fa', 0⟩, rfl, rfl, rfl, rfl, rfl, rfl, rfl, rfl, rfl, rfl, rfl, rfl, rfl, ⟨partEnd hp hpr (.inl (by omega)), rfl, rfl, hbb⟩, by (repeat' (first | exact trivial | exact rfl | apply And.intro))⟩)
      · rw [List.length_map, lvs_len]; omega
      · rw [w64 (by omega)]
      · show List.map lvE ((qa.r.byte.2.lvs k).1 ++ [(qa.r.byte.2.lvs k).2.lv.1]) = _
        rw [List.map_append, ← hpr]; rfl
      · show p.lv.r = (qa.r.byte.2.lvs k).2.lv.2
        rw [q_lv, hpr]
    · rintro ⟨p, bb, y, fa', n'⟩ ⟨hp, hy1, hy2, hbb⟩
      dsimp only at hp hy1 hy2 hbb ⊢
      refine ⟨p, rfl, rfl, rfl, hp.ok, fun _ _ => ⟨true, fun c => c = (fa && decide (p.r.byte.1 ≤ 1)), Cv.cnd.mk (fun e => ⟨_, rfl, by have e : fa = true := e; rw [e]; rfl, by (repeat' (first | exact trivial | exact rfl | apply And.intro))⟩) (fun e => ⟨_, rfl, by have e : fa = false := e; rw [e]; rfl, by (repeat' (first | exact trivial | exact rfl | apply And.intro))⟩), ?_⟩⟩
      rintro c rfl
      refine Cv.cnd.mk (fun e => ?_) (fun e => ?_)
      · have e : (p.r.byte.1 == 1) = true := e
        have e : p.r.byte.1 = 1 := by simpa using e
        refine ⟨p.take 1, rfl, rfl, rfl, ok_qtake hp.ok 1, fun _ _ => ⟨⟨(p.take 1).lv, bb, ⟨y.levels, (p.take 1).r.lv.1, true⟩, (fa && decide (p.r.byte.1 ≤ 1)), 0⟩, rfl, rfl, rfl, rfl, rfl, rfl, rfl, rfl, rfl, rfl, rfl, rfl, rfl, rfl, ⟨afterYes hp e, hbb⟩, by (repeat' (first | exact trivial | exact rfl | apply And.intro))⟩⟩
      · have e : (p.r.byte.1 == 1) = false := e
        have e : ¬ p.r.byte.1 = 1 := by simpa using e
        refine ⟨⟨p.take 1, bb, y, (fa && decide (p.r.byte.1 ≤ 1)), 0⟩, rfl, rfl, rfl, rfl, rfl, rfl, rfl, rfl, rfl, rfl, rfl, rfl, rfl, rfl, ⟨?_, hbb⟩, by (repeat' (first | exact trivial | exact rfl | apply And.intro))⟩
        have := afterNo (f0 := fa) hp e
        rw [← hy1, ← hy2] at this
        exact this

    rintro ⟨qb, A', B, fb, _⟩ ⟨hB, hA2⟩
    dsimp only at hB hA2 ⊢
    subst hA2
    have hlen := hv.len
    have hle := hv.le
    refine ⟨by rw [List.length_map, hlen]; omega, ⟨qb, v ++ [(_, B)], fb, n - 1⟩, rfl, ?_, rfl, rfl, rfl, by rw [List.map_append]; rfl, ⟨j + 1, by dsimp only; omega, ⟨hB.ok, by omega, by rw [List.length_append, hlen]; rfl, ?_, ?_, ?_⟩⟩, by dsimp only; omega, by (repeat' (first | exact trivial | exact rfl | apply And.intro))⟩
    · rw [w64 (by omega)]
    · intro x hx
      rw [List.mem_append, List.mem_singleton] at hx
      rcases hx with hx | rfl
      · exact hv.small x hx
      · exact ⟨hA.len, hB.len⟩
    · intro hb
      show ((bodyRB b).head.2.views j).2.side.2.side.2.b = true
      cases hqa : qa.b
      · obtain ⟨k1, _⟩ := hA.fit hqa
        rw [← k1]; exact hB.bad hb
      · exact bad_side (hA.bad hqa)
    · intro hb
      obtain ⟨g1, g2, g3⟩ := hB.fit hb
      have hqa : qa.b = false := by
        cases hq : qa.b
        · rfl
        · have := bad_side (r := qa.r) hq
          rw [← g1] at this
          have this : qb.b = true := this
          rw [hb] at this; cases this
      obtain ⟨k1, k2, k3⟩ := hA.fit hqa
      refine ⟨?_, ?_, ?_⟩
      · show qb.r = ((bodyRB b).head.2.views j).2.side.2.side.2
        rw [g1, k1]
      · show _ = ((bodyRB b).head.2.views j).1.1 ++ [(((bodyRB b).head.2.views j).2.side.1.1, ((bodyRB b).head.2.views j).2.side.2.side.1.1)]
        rw [hvv, k2, g2, k1]
      · show fb = (((bodyRB b).head.2.views j).1.2 && ((bodyRB b).head.2.views j).2.side.1.2 && ((bodyRB b).head.2.views j).2.side.2.side.1.2)
        rw [g3, k3, hff, k1]
  · rintro ⟨q, v, f, n⟩ ⟨j, hj, hv⟩
    dsimp only at hj hv ⊢
    have hle := hv.le
    have hlen := hv.len
    have allb : q.b = true → (bodyRB b).all.2.endOf ≠ 0 := fun hb => by
      have h1 := views_mono (hv.bad hb) ((bodyRB b).head.1.toNat - j)
      rw [Nat.add_sub_cancel' hle] at h1
      have h1 : (bodyRB b).all.2.b = true := h1
      rw [RB.endOf, if_pos h1]; decide
    have allg : q.b = false → q.r = (bodyRB b).all.2 ∧ v = (bodyRB b).all.1.1 ∧ f = (bodyRB b).all.1.2 := fun hb => by
      rcases hj with rfl | hj
      · exact hv.fit hb
      · rw [hb] at hj; cases hj
    have no : ∀ h2 : ¬ formFits b, (∃ (o : Unit), List.map bothE (decV b) = [] ∧ decN b = 0 ∧ decE b = 12 ∧ True) := fun h2 => by
      obtain ⟨a1, a2, a3⟩ := dec_form hs h2
      exact ⟨(), by rw [a1]; rfl, a2, a3, trivial⟩
    refine Cv.cnd.mk (fun e => no fun x => ?_) (fun e => ⟨q, rfl, rfl, rfl, hv.ok, fun _ _ => Cv.cnd.mk (fun e2 => no fun x => ?_) (fun e2 => ?_)⟩)
    · cases hb : q.b
      · rw [(allg hb).2.2, x.1] at e; cases e
      · exact allb hb x.2.1
    · cases hb : q.b
      · have e2 : (q.r.endOf != 0) = true := e2
        rw [(allg hb).1, x.2.1] at e2; cases e2
      · exact allb hb x.2.1
    have e2 : (q.r.endOf != 0) = false := e2
    have hb : q.b = false := by
      cases hb : q.b
      · rfl
      · have hb : q.r.b = true := hb
        rw [RB.endOf, if_pos hb] at e2; cases e2
    obtain ⟨k1, k2, k3⟩ := allg hb
    refine ⟨v, rfl, ⟨by omega, fun x hx => by have := hv.small x hx; omega⟩, fun _ _ => Cv.cnd.mk (fun e3 => no fun x => ?_) (fun e3 => ?_)⟩
    · have := x.2.2
      rw [← k2] at this
      simp only [vwRight, Bool.not_eq_true', decide_eq_false_iff_not] at e3
      exact e3 this
    · have q3 : VwRight v := by simpa [vwRight] using e3
      have ff : formFits b := ⟨by rw [← k3]; simpa using e, by rw [← k1]; simpa using e2, by rw [← k2]; exact q3⟩
      obtain ⟨a1, a2, a3⟩ := dec_fits hs ff
      refine ⟨(), by rw [a1, k2], ?_, a3, trivial⟩
      rw [a2, ← er]; rfl
theorem fdec_ok : fdecC.ok Try.prog 59 := byfdec (gokc fcrc_ok (gokc qlong_ok (gokc qbyte_ok (gokc qend_ok (gokc qlv_ok (gokc rright_ok gok0)))))) vfdec

theorem dec_small (b : List UInt8) : (decV b).length ≤ 255 ∧ ∀ x ∈ decV b, x.1.levels.length ≤ 255 ∧ x.2.levels.length ≤ 255 := by
  unfold decV
  split
  · rename_i h
    exact ⟨h.2.2.2.2, fun x hx => ⟨(h.2.2.2.1 x hx).1.len, (h.2.2.2.1 x hx).2.len⟩⟩
  · exact ⟨by simp, fun x hx => (nomatch hx)⟩
theorem read_ok : readC.ok Try.prog 15 := byread (gokc dec_ok (gokc fdec_ok (gokc in_ok (gokc same_ok gok0)))) fun b h => by
  obtain ⟨d1, d2⟩ := dec_small b
  have small : VwSmall (decV b) := ⟨by omega, fun x hx => by have := d2 x hx; omega⟩
  refine ⟨b, rfl, h, fun _ _ => ⟨b, rfl, h, fun _ _ => ⟨decV b, rfl, ⟨by omega, fun x hx => by have := d2 x hx; omega⟩, fun _ _ => ⟨⟨trivial, trivial⟩, ⟨decV b, decV b⟩, rfl, rfl, ⟨small, small⟩, fun _ _ => Cv.cnd.mk (fun e => Cv.cnd.mk (fun e2 => ⟨(), by simp, trivial⟩) (fun e2 => by simp at e2)) (fun e => by simp [sameB] at e)⟩⟩⟩⟩

end Sx
