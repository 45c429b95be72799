/- The machine of one's own, fifth part: operations that look at no memory. No condition. -/
import Derived.Test.YtlgpgmafmgmfdaaCvO
set_option linter.unusedSimpArgs false
set_option linter.unusedVariables false
namespace Cv
open Go Go.RowKit

theorem cond_some {α : Type} {b : Bool} {x : Option α} {v : α} (h : (bif b then x else none) = some v) : b = true ∧ x = some v := by
  cases b
  · cases h
  · exact ⟨rfl, h⟩

theorem intT_some {P : Program} {t : TypeId} {k : IntKind} (h : intT P t = some k) : P.underlying t = some (.int k) := by
  unfold intT at h; split at h
  · simp only [Option.some.injEq] at h; subst h; assumption
  · cases h

theorem args_sound {φ : Phi} {ρA : Tr V} {ρ : Env} (E : ER φ ρA ρ) {xs : Array Operand} {l : List V} (h : ogets ρA xs.toList = some l) : xs.map (ev ρ) = (cvl φ l).toArray := by
  apply Array.ext'
  simp [ogets_sound E h]

theorem idxOk_some {i : Int} {n j : Nat} (h : idxOk i n = some j) : i = (j : Int) ∧ j < n := by
  unfold idxOk at h
  split at h
  · rename_i m
    obtain ⟨hb, h⟩ := cond_some h
    simp only [Option.some.injEq] at h
    subst h
    exact ⟨rfl, by simpa [Nat.blt_eq] using hb⟩
  · cases h

theorem apart_sound {P : Program} {φ : Phi} {t : TypeId} {cs : List V} {off : Nat} {v : V} (h : apart P t cs off = some v) (w : World) : (part t (cvl φ cs).toArray off).run P w = .ok (cv φ v) w := by
  unfold apart at h
  split at h
  · rename_i sz hs
    simp only [Option.some.injEq] at h
    subst h
    obtain ⟨h1, h2⟩ := run_isAgg_agg hs w
    unfold part
    simp only [bind, run_bind, h1, h2, if_true, pure, Sem.run, cv, cvl_take, cvl_drop]
    congr 3
    simp [List.extract_eq_take_drop]
  · rename_i hs
    obtain ⟨hb, h⟩ := cond_some h
    unfold part
    have : (cvl φ cs).toArray[off]? = some (cv φ v) := by simp [cvl_get, h]
    simp only [bind, run_bind, run_isAgg_scal hb w, Bool.false_eq_true, if_false, this]
    rfl

theorem fieldOff_some {P : Program} {s f off : Nat} (h : fieldOff P s f = some off) : ∃ fs fd i, P.underlying s = some (.struct fs) ∧ fs[f]? = some fd ∧ P.info? fd.type = some i ∧ i.size ≠ 0 ∧ fd.offset = off := by
  unfold fieldOff at h
  split at h <;> first | (cases h; done) | skip
  rename_i fs hfs
  split at h <;> first | (cases h; done) | skip
  rename_i fd hfd
  split at h <;> first | (cases h; done) | skip
  rename_i i hi
  cases hb : Nat.beq i.size 0
  · rw [hb] at h
    simp only [cond_false, Option.some.injEq] at h
    exact ⟨fs, fd, i, hfs, hfd, hi, (fun e => by rw [e] at hb; cases hb), h⟩
  · rw [hb] at h; cases h

theorem fieldPart_some {P : Program} {s f ft off : Nat} (h : fieldPart P s f = some (ft, off)) : ∃ fs fd, P.underlying s = some (.struct fs) ∧ fs[f]? = some fd ∧ fd.type = ft ∧ fd.offset = off := by
  unfold fieldPart at h
  split at h <;> first | (cases h; done) | skip
  rename_i fs hfs
  split at h <;> first | (cases h; done) | skip
  rename_i fd hfd
  simp only [Option.some.injEq, Prod.mk.injEq] at h
  exact ⟨fs, fd, hfs, hfd, h.1, h.2⟩

theorem arrPart_some {P : Program} {t n e sz : Nat} (h : arrPart P t = some (n, e, sz)) : ∃ i, P.underlying t = some (.array n e) ∧ P.info? e = some i ∧ i.size = sz := by
  unfold arrPart at h
  split at h <;> first | (cases h; done) | skip
  rename_i n' e' ht
  split at h <;> first | (cases h; done) | skip
  rename_i i hi
  simp only [Option.some.injEq, Prod.mk.injEq] at h
  obtain ⟨rfl, rfl, rfl⟩ := h
  exact ⟨i, ht, hi, rfl⟩

theorem zeroA_some {P : Program} {φ : Phi} {t : TypeId} {z : V} (h : zeroA P t = some z) : zero? P t = some (cv φ z) := by
  unfold zeroA at h
  split at h <;> first | (cases h; done) | skip
  rename_i i hi
  split at h <;> first | (cases h; done) | skip
  rename_i x hx
  unfold zero?
  rw [hi]
  simp only [hx, vOf_sound h]

theorem allS_some {α : Type} : ∀ {l : List (Option α)} {L : List α}, allS l = some L → l = L.map some
  | [], L, h => by simp only [allS, Option.some.injEq] at h; subst h; rfl
  | none :: l, L, h => by cases h
  | some a :: l, L, h => by
    simp only [allS] at h
    split at h <;> first | (cases h; done) | skip
    rename_i r hr
    simp only [Option.some.injEq] at h
    subst h
    rw [List.map_cons, ← allS_some hr]

theorem run_places {P : Program} (w : World) : ∀ {fs : List Field} {L : List (Nat × Nat)},
    (fs.map fun fd => match P.info? fd.type with | some i => some (fd.offset, i.size) | none => none) = L.map some →
    ((fs.mapM fun f => (do pure (f.offset, ← Go.sizeOf f.type) : Sem (Nat × Nat))) : Sem (List (Nat × Nat))).run P w = .ok L w
  | [], L, h => by
    cases L with
    | nil => rfl
    | cons a l => cases h
  | fd :: fs, L, h => by
    cases L with
    | nil => cases h
    | cons a l =>
      simp only [List.map_cons, List.cons.injEq] at h
      obtain ⟨h1, h2⟩ := h
      split at h1 <;> first | (cases h1; done) | skip
      rename_i i hi
      simp only [Option.some.injEq] at h1
      subst h1
      have ih := run_places w h2
      simp only [List.mapM_cons, bind, pure, run_bind, Sem.bind, Sem.run, run_sizeOf hi] at ih ⊢
      rw [ih]

theorem abuild_sound {P : Program} {φ : Phi} {t : TypeId} {ps : List (Nat × V)} {v : V} (h : abuild P t ps = some v) (w : World) :
    (Instr.build t (ps.map fun p => (p.1, cv φ p.2)).toArray).run P w = .ok (cv φ v) w := by
  unfold abuild at h
  split at h <;> first | (cases h; done) | skip
  rename_i z hz
  have hzr := zero_run (zeroA_some (φ := φ) hz) w
  split at h
  · rename_i pl hpl
    split at h <;> first | (cases h; done) | skip
    rename_i L hL
    split at h <;> first | (cases h; done) | skip
    rename_i cs hcs
    simp only [Option.some.injEq] at h
    subst h
    have hpl' := allS_some hL
    subst hpl'
    unfold places at hpl
    split at hpl <;> first | (cases hpl; done) | skip
    rename_i fs hfs
    simp only [Option.some.injEq] at hpl
    have hm := run_places w hpl
    have hmA : ((fs.mapM fun f => (do pure (f.offset, ← Go.sizeOf f.type) : Sem (Nat × Nat))) : Sem (Array (Nat × Nat))).run P w = .ok L.toArray w := by
      rw [Array.mapM_eq_mapM_toList, map_eq_pure_bind]
      simp only [bind, pure, run_bind] at hm ⊢
      rw [hm]
      rfl
    have hpa : (fun i => L.toArray[i]?) = placeAt (L.map some) := by
      funext i
      unfold placeAt
      simp only [List.getElem?_toArray, List.getElem?_map]
      cases L[i]? <;> rfl
    have hf := fill_sound (φ := φ) hcs
    unfold Instr.build
    simp only [bind] at hmA
    simp only [bind, run_bind, hzr, run_underlying hfs, hmA, cells_cv, hpa, hf]
    rfl
  · split at h <;> first | (cases h; done) | skip
    rename_i n e sz hap
    split at h <;> first | (cases h; done) | skip
    rename_i cs hcs
    simp only [Option.some.injEq] at h
    subst h
    obtain ⟨i, h1, h2, rfl⟩ := arrPart_some hap
    have hf := fill_sound (φ := φ) hcs
    unfold Instr.build
    simp only [bind, run_bind, hzr, run_underlying h1, run_sizeOf h2, cells_cv, hf]
    rfl

theorem aminmax_min {P : Program} {φ : Phi} (w : World) : ∀ {l : List V} {v r : V}, aminmax (fun b a => ilt b a) v l = some r → ((cvl φ l).foldlM Builtin.min2 (cv φ v)).run P w = .ok (cv φ r) w
  | [], v, r, h => by
    cases v <;> simp only [aminmax, Option.some.injEq] at h <;> subst h <;> rfl
  | u :: l, v, r, h => by
    cases v <;> cases u <;> first | (simp only [aminmax] at h; cases h; done) | skip
    rename_i k a k' b
    simp only [aminmax] at h
    obtain ⟨hk, h⟩ := cond_some h
    have ih := aminmax_min (P := P) (φ := φ) w h
    simp only [cvl, List.foldlM_cons, bind, run_bind]
    have : (Builtin.min2 (cv φ (.int k a)) (cv φ (.int k' b))).run P w = .ok (cv φ (.int k (bif ilt b a then b else a))) w := by
      simp only [cv, Builtin.min2, ilt_eq]
      by_cases hh : b < a <;> simp [hh, pure, Sem.run]
    rw [this]
    exact ih

theorem aminmax_max {P : Program} {φ : Phi} (w : World) : ∀ {l : List V} {v r : V}, aminmax (fun b a => ilt a b) v l = some r → ((cvl φ l).foldlM Builtin.max2 (cv φ v)).run P w = .ok (cv φ r) w
  | [], v, r, h => by
    cases v <;> simp only [aminmax, Option.some.injEq] at h <;> subst h <;> rfl
  | u :: l, v, r, h => by
    cases v <;> cases u <;> first | (simp only [aminmax] at h; cases h; done) | skip
    rename_i k a k' b
    simp only [aminmax] at h
    obtain ⟨hk, h⟩ := cond_some h
    have ih := aminmax_max (P := P) (φ := φ) w h
    simp only [cvl, List.foldlM_cons, bind, run_bind]
    have : (Builtin.max2 (cv φ (.int k a)) (cv φ (.int k' b))).run P w = .ok (cv φ (.int k (bif ilt a b then b else a))) w := by
      simp only [cv, Builtin.max2, ilt_eq]
      by_cases hh : a < b <;> simp [hh, pure, Sem.run]
    rw [this]
    exact ih

theorem alen_sound {P : Program} {φ : Phi} {t rt : TypeId} {ts : Array TypeId} {v r : V} (ht : ts[0]? = some t) (h : alen P t v = some r) (w : World) :
    (Builtin.len_ ts rt #[cv φ v]).run P w = .ok (cv φ r) w := by
  unfold alen at h
  split at h
  · obtain ⟨hs, h⟩ := cond_some h
    simp only [Option.some.injEq] at h
    subst h
    simp only [Builtin.len_, ht, List.getElem?_toArray, List.getElem?_cons_zero, bind, run_bind, run_underlying (isStrT_some hs), cv]
    simp only [pure, Sem.run, goInt, bs_size]
    rfl
  · rename_i a n c
    obtain ⟨hs, h⟩ := cond_some h
    simp only [Option.some.injEq] at h
    subst h
    obtain ⟨e, he⟩ := isSlT_some hs
    rcases a with _ | ⟨b, o⟩ <;>
    · simp only [Builtin.len_, ht, List.getElem?_toArray, List.getElem?_cons_zero, bind, run_bind, run_underlying he, cv]
      rfl
  · cases h

theorem exec_builtin {ρ : Env} {o : Oper} {c : Call} {b : Builtin} (ho : o.op = .call c) (hc : c.callee = .builtin b) :
    execOp (ev ρ) o = builtin b c.argTypes o.type (c.args.map fun | .const _ => true | _ => false) (c.args.map (ev ρ)) := by
  have hexec : execOp (ev ρ) o = (resolve (ev ρ) c o.type).bind fun d => invoke d.target d.args := by
    simp only [execOp, ho]; rfl
  rw [hexec]; unfold resolve; rw [hc]; rfl

theorem aq_sound {P : Program} {φ : Phi} {ρA : Tr V} {ρ : Env} {o : Oper} {v : V} (h : aq P o ρA = some v) (E : ER φ ρA ρ) : Free P (execOp (ev ρ) o) (cv φ v) := by
  cases ho : o.op
  case move x =>
    simp only [aq, ho] at h
    simp only [execOp, ho, oget_sound E h]
    exact fun w => rfl
  case assign x =>
    simp only [aq, ho] at h
    simp only [execOp, ho, oget_sound E h]
    exact fun w => rfl
  case pick c a b =>
    simp only [aq, ho] at h
    split at h <;> first | (cases h; done) | skip
    rename_i t hc
    simp only [execOp, ho, oget_sound E hc, cv]
    cases t
    · simp only [cond_false] at h
      rw [oget_sound E h]
      exact fun w => rfl
    · simp only [cond_true] at h
      rw [oget_sound E h]
      exact fun w => rfl
  case nilCheck x =>
    simp only [aq, ho] at h
    split at h <;> first | (cases h; done) | skip
    rename_i a hx
    simp only [Option.some.injEq] at h
    subst h
    obtain ⟨b, o'⟩ := a
    simp only [execOp, ho, oget_sound E hx, cv]
    exact fun w => rfl
  case fieldAddr s x f =>
    simp only [aq, ho] at h
    split at h <;> first | (cases h; done) | skip
    rename_i b o' hx
    split at h <;> first | (cases h; done) | skip
    rename_i off hf
    simp only [Option.some.injEq] at h
    subst h
    obtain ⟨fs, fd, i, h1, h2, h3, h4, rfl⟩ := fieldOff_some hf
    simp only [execOp, ho, oget_sound E hx, cv]
    refine run_value fun w => ?_
    simp only [Instr.fieldAt, Instr.sureAddr, fieldPlace, bind, pure, run_bind, Sem.bind, Sem.run, run_underlying h1, h2, run_sizeOf h3, if_neg h4, add_mk]
  case indexAddr t x i =>
    simp only [aq, ho] at h
    split at h <;> first | (cases h; done) | skip
    rename_i k i' hi
    split at h <;> first | (cases h; done) | skip
    · rename_i b o' n c hx
      split at h <;> first | (cases h; done) | skip
      rename_i sz hsz
      split at h <;> first | (cases h; done) | skip
      rename_i j hj
      simp only [Option.some.injEq] at h
      subst h
      obtain ⟨rfl, hlt⟩ := idxOk_some hj
      simp only [execOp, ho, oget_sound E hx, oget_sound E hi, cv]
      refine run_value fun w => ?_
      rw [run_indexAt_slice hsz ⟨by omega, by omega⟩]
      have : cvs φ b o' n c = ⟨(φ b).1, o', none⟩ := by
        cases c with
        | k c => rfl
        | r l o0 =>
          have : Nat.beq n 0 = false := by
            cases hb : Nat.beq n 0 with
            | false => rfl
            | true => have := Nat.eq_of_beq_eq_true hb; omega
          simp only [cvs, this, Bool.false_and, cond_false]
      rw [this, add_mk]
      simp
    · rename_i b o' hx
      split at h <;> first | (cases h; done) | skip
      rename_i n sz hsz
      split at h <;> first | (cases h; done) | skip
      rename_i j hj
      simp only [Option.some.injEq] at h
      subst h
      obtain ⟨rfl, hlt⟩ := idxOk_some hj
      simp only [execOp, ho, oget_sound E hx, oget_sound E hi, cv]
      refine run_value fun w => ?_
      rw [run_indexAt_array hsz ⟨by omega, by omega⟩, add_mk]
      simp
  case index t x i =>
    simp only [aq, ho] at h
    split at h <;> first | (cases h; done) | skip
    rename_i k i' hi
    split at h <;> first | (cases h; done) | skip
    · rename_i l hx
      obtain ⟨hs, h⟩ := cond_some h
      split at h <;> first | (cases h; done) | skip
      rename_i j hj
      split at h <;> first | (cases h; done) | skip
      rename_i b hb
      simp only [Option.some.injEq] at h
      subst h
      obtain ⟨rfl, hlt⟩ := idxOk_some hj
      simp only [execOp, ho, oget_sound E hx, oget_sound E hi, cv]
      refine run_value fun w => ?_
      have hg : (bs l)[j]? = some b.toUInt8 := by
        unfold bs
        show (⟨_⟩ : ByteArray)[j]? = _
        have hj : j < (l.map Nat.toUInt8).toArray.size := by simpa using hlt
        rw [getElem?_pos (h := by simpa [ByteArray.size] using hlt)]
        have : l[j]? = some b := hb
        rw [List.getElem?_eq_getElem hlt] at this
        simp only [Option.some.injEq] at this
        congr 1
        show (l.map Nat.toUInt8).toArray[j] = _
        simp [this]
      simp only [Instr.index, asIntOf, bind, pure, run_bind, Sem.bind, Sem.run, run_underlying (isStrT_some hs)]
      have : ((if (0 : Int) ≤ (j : Int) then (bs l)[((j : Int)).toNat]? else none) : Option UInt8) = some b.toUInt8 := by
        rw [if_pos (by omega)]
        exact hg
      rw [this]
      simp only [Sem.run]
      congr 2
    · rename_i cs hx
      split at h <;> first | (cases h; done) | skip
      rename_i n e sz hap
      split at h <;> first | (cases h; done) | skip
      rename_i j hj
      obtain ⟨rfl, hlt⟩ := idxOk_some hj
      obtain ⟨inf, h1, h2, rfl⟩ := arrPart_some hap
      simp only [execOp, ho, oget_sound E hx, oget_sound E hi, cv]
      refine run_value fun w => ?_
      have hb : (0 : Int) ≤ (j : Int) ∧ (j : Int) < n := ⟨by omega, by omega⟩
      simp only [Instr.index, asIntOf, bind, pure, run_bind, Sem.bind, Sem.run, run_underlying h1, if_pos hb, run_sizeOf h2]
      exact apart_sound h w
  case binOp op t x y u =>
    simp only [aq, ho] at h
    split at h <;> first | (cases h; done) | skip
    rename_i a ha
    split at h <;> first | (cases h; done) | skip
    rename_i b hb
    simp only [execOp, ho, oget_sound E ha, oget_sound E hb]
    exact run_value fun w => abin_sound h w
  case unOp op t x =>
    simp only [aq, ho] at h
    split at h <;> first | (cases h; done) | skip
    · rename_i b hb
      split at h <;> first | (cases h; done) | skip
      simp only [Option.some.injEq] at h
      subst h
      simp only [execOp, ho, oget_sound E hb]
      exact run_value fun w => rfl
    · rename_i k n hn
      split at h <;> first | (cases h; done) | skip
      · simp only [Option.some.injEq] at h
        subst h
        simp only [execOp, ho, oget_sound E hn]
        refine run_value fun w => ?_
        simp only [cv, wr_eq]
        rfl
      · simp only [Option.some.injEq] at h
        subst h
        simp only [execOp, ho, oget_sound E hn]
        exact run_value fun w => rfl
  case convert s d x =>
    simp only [aq, ho] at h
    split at h <;> first | (cases h; done) | skip
    rename_i k' n hn
    split at h <;> first | (cases h; done) | skip
    rename_i ks hs
    split at h <;> first | (cases h; done) | skip
    rename_i k hd
    simp only [Option.some.injEq] at h
    subst h
    simp only [execOp, ho, oget_sound E hn]
    refine run_value fun w => ?_
    simp only [cv, wr_eq, convert, bind, run_bind, run_underlying (intT_some hs), run_underlying (intT_some hd)]
    rfl
  case build t ps =>
    simp only [aq, ho] at h
    split at h <;> first | (cases h; done) | skip
    rename_i l hl
    simp only [execOp, ho]
    refine run_value fun w => ?_
    have : (ps.map fun (i, x) => (i, ev ρ x)) = (l.map fun p => (p.1, cv φ p.2)).toArray := by
      apply Array.ext'
      simpa using oparts_sound E hl
    rw [this]
    exact abuild_sound h w
  case extract x i =>
    simp only [aq, ho] at h
    split at h <;> first | (cases h; done) | skip
    rename_i l hl
    simp only [execOp, ho, oget_sound E hl, cv]
    refine run_value fun w => ?_
    have : (cvl φ l).toArray[i]? = some (cv φ v) := by simp [cvl_get, h]
    simp only [Instr.extract, this]
    rfl
  case field t x f =>
    simp only [aq, ho] at h
    split at h <;> first | (cases h; done) | skip
    rename_i cs hx
    split at h <;> first | (cases h; done) | skip
    rename_i ft off hf
    obtain ⟨fs, fd, h1, h2, rfl, rfl⟩ := fieldPart_some hf
    simp only [execOp, ho, oget_sound E hx, cv]
    refine run_value fun w => ?_
    simp only [Instr.field, asAgg, bind, pure, run_bind, Sem.bind, Sem.run, run_underlying h1, h2]
    exact apart_sound h w
  case makeFunc fn a b =>
    cases fn <;> simp only [aq, ho] at h <;> first | (cases h; done) | skip
    rename_i f
    split at h <;> first | (cases h; done) | skip
    rename_i la hla
    split at h <;> first | (cases h; done) | skip
    rename_i lb hlb
    simp only [Option.some.injEq] at h
    subst h
    simp only [execOp, ho, args_sound E hla, args_sound E hlb]
    exact run_value fun w => rfl
  case call c =>
    simp only [aq, ho] at h
    split at h <;> first | (cases h; done) | skip
    · rename_i hc
      split at h <;> first | (cases h; done) | skip
      rename_i t ht
      split at h <;> first | (cases h; done) | skip
      rename_i u hu
      rw [exec_builtin ho hc, args_sound E hu]
      exact run_value fun w => alen_sound ht h w
    · rename_i hc
      split at h <;> first | (cases h; done) | skip
      rename_i u l hu
      rw [exec_builtin ho hc, args_sound E hu]
      exact run_value fun w => aminmax_min w h
    · rename_i hc
      split at h <;> first | (cases h; done) | skip
      rename_i u l hu
      rw [exec_builtin ho hc, args_sound E hu]
      exact run_value fun w => aminmax_max w h
  all_goals (simp only [aq, ho] at h; cases h)

end Cv
