/- The machine of one's own, sixth part: operations that look at memory. No condition. -/
import Derived.Test.YtlgpgmafmgmfdaaCvP
import Derived.MapKept
import Derived.Laws.StructEq
set_option linter.unusedSimpArgs false
set_option linter.unusedVariables false
namespace Cv
open Go Go.RowKit

theorem coT_cells {φ : Phi} {b : Nat} {xs : List V} {t : TypeId} {opn : Option Nat} {O : Obj} (h : coT φ b (.cells xs t opn) O) : ∃ r, O = .cells (cvl φ xs ++ r).toArray t ∧ (∀ sz, opn = some sz → xs.length + r.length = (φ b).2 * sz) ∧ (opn = none → r = []) := by
  cases opn with
  | none =>
    have h' : O = .cells (cvl φ xs).toArray t := h
    exact ⟨[], by rw [h', List.append_nil], by simp, fun _ => rfl⟩
  | some sz =>
    obtain ⟨r, h1, h2⟩ := h
    exact ⟨r, h1, fun s hs => (by cases hs; exact h2), by simp⟩

theorem Rel.cells {φ : Phi} {s : St} {w : World} (R : Rel φ s w) {b : Nat} {xs : List V} {t : TypeId} {opn : Option Nat} (h : s.get b = some (.cells xs t opn)) :
    ∃ r, w.heap[(φ b).1]? = some (.cells (cvl φ xs ++ r).toArray t) ∧ (∀ sz, opn = some sz → xs.length + r.length = (φ b).2 * sz) ∧ (opn = none → r = []) := by
  obtain ⟨O, h1, h2⟩ := R.obj b _ h
  obtain ⟨r, rfl, h3, h4⟩ := coT_cells h2
  exact ⟨r, h1, h3, h4⟩

theorem part_app {φ : Phi} {xs : List V} {r : List Value} {o n : Nat} (h : o + n ≤ xs.length) : ((cvl φ xs ++ r).drop o).take n = cvl φ ((xs.drop o).take n) := by
  rw [List.drop_append_of_le_length (by rw [cvl_length]; omega), List.take_append_of_le_length (by rw [List.length_drop, cvl_length]; omega), cvl_take, cvl_drop]

theorem aload_sound {P : Program} {φ : Phi} {s : St} {w : World} (R : Rel φ s w) {t : TypeId} {b o : Nat} {v : V} (h : aload P t s b o = some v) : Holds P t ⟨(φ b).1, o, none⟩ w (cv φ v) := by
  unfold aload at h
  split at h <;> first | (cases h; done) | skip
  rename_i xs T opn hg
  obtain ⟨r, hb, _, _⟩ := R.cells hg
  split at h
  · rename_i sz hs
    obtain ⟨hl, h⟩ := cond_some h
    simp only [Option.some.injEq] at h
    subst h
    have hl := Nat.le_of_ble_eq_true hl
    refine holds_agg hs hb (part_app hl) ?_
    rw [cvl_length, List.length_take, List.length_drop]
    omega
  · obtain ⟨hs, h⟩ := cond_some h
    refine holds_cell hs hb ?_
    have hlt : o < xs.length := by
      rcases Nat.lt_or_ge o xs.length with h' | h'
      · exact h'
      · rw [List.getElem?_eq_none h'] at h; cases h
    rw [List.getElem?_append_left (by rw [cvl_length]; exact hlt), cvl_get, h]
    rfl

theorem obnd_sound {φ : Phi} {ρA : Tr V} {ρ : Env} (E : ER φ ρA ρ) {x : Option Operand} {r : Option Nat} (h : obnd ρA x = some r) : bnd ρ x = some (r.map Int.ofNat) := by
  unfold obnd at h
  unfold bnd
  split at h
  · simp only [Option.some.injEq] at h; subst h; rfl
  · rename_i y
    split at h <;> first | (cases h; done) | skip
    rename_i k n hy
    simp only [Option.some.injEq] at h
    subst h
    simp only [oget_sound E hy, cv]
    rfl

theorem slN_in {p : Option Addr} {n c sz : Nat} {lo hi : Option Nat} {K : Option Addr → Nat → Nat → Prop} (h1 : lo.getD 0 ≤ hi.getD n) (h2 : hi.getD n ≤ c) (h3 : hi = none → n ≤ c)
    (hk : K (if c = lo.getD 0 then p else p.map (·.add (lo.getD 0 * sz))) (hi.getD n - lo.getD 0) (c - lo.getD 0)) : slN p n c (lo.map Int.ofNat) (hi.map Int.ofNat) sz K := by
  cases lo <;> cases hi <;> simp only [Option.map_none, Option.map_some, Option.getD_none, Option.getD_some, slN] at *
  · refine ⟨h2, ?_⟩
    simpa [map_add_zero] using hk
  · rename_i h
    refine ⟨⟨by simp, by simpa using h2⟩, ?_⟩
    simpa [map_add_zero] using hk
  · rename_i l
    refine ⟨⟨by simp, by simpa using h1, h3 trivial⟩, ?_⟩
    simpa using hk
  · rename_i l h
    refine ⟨⟨by simp, by simpa using h1, by simpa using h2⟩, ?_⟩
    simpa using hk

theorem strSl_in {t : ByteArray} {lo hi : Option Nat} {K : ByteArray → Prop} (h1 : lo.getD 0 ≤ hi.getD t.size) (h2 : hi.getD t.size ≤ t.size) (hk : K (t.extract (lo.getD 0) (hi.getD t.size))) : strSl t (lo.map Int.ofNat) (hi.map Int.ofNat) K := by
  cases lo <;> cases hi <;> simp only [Option.map_none, Option.map_some, Option.getD_none, Option.getD_some, strSl] at *
  · have : t.extract 0 t.size = t := by simp
    rw [this] at hk; exact hk
  · exact ⟨⟨by simp, by simpa using h2⟩, by simpa using hk⟩
  · exact ⟨⟨by simp, by simpa using h1⟩, by simpa using hk⟩
  · exact ⟨⟨by simp, by simpa using h1, by simpa using h2⟩, by simpa using hk⟩

theorem bs_extract (l : List Nat) (a b : Nat) (h : b ≤ l.length) : (bs l).extract a b = bs ((l.drop a).take (b - a)) := by
  apply ByteArray.ext
  simp [bs, List.extract_eq_take_drop]

/-- What is known of a slice that is in order. -/
theorem slOk_some {φ : Phi} {s : St} {w : World} (R : Rel φ s w) {sz : Nat} {a : Option (Nat × Nat)} {n l o0 : Nat} (h : slOk s sz a n (.r l o0) = true) :
    ∃ b o, a = some (b, o) ∧ 0 < sz ∧ l + n ≤ (φ b).2 := by
  simp only [slOk] at h
  split at h <;> first | (cases h; done) | skip
  rename_i b o
  split at h <;> first | (cases h; done) | skip
  rename_i xs T sz' hg
  simp only [Bool.and_eq_true] at h
  obtain ⟨⟨h1, h2⟩, h3⟩ := h
  have h1 := Nat.eq_of_beq_eq_true h1
  subst h1
  have h2 : 0 < sz := by simpa [Nat.blt_eq] using h2
  have h3 := Nat.le_of_ble_eq_true h3
  obtain ⟨r, _, h4, _⟩ := R.cells hg
  have h4 := h4 _ rfl
  refine ⟨b, o, rfl, h2, ?_⟩
  have : (l + n) * sz ≤ (φ b).2 * sz := by omega
  exact Nat.le_of_mul_le_mul_right this h2

theorem asl_sound {φ : Phi} {s : St} {w : World} (R : Rel φ s w) {sz : Nat} {a : Option (Nat × Nat)} {n lo hi : Nat} {c : Cap} (hok : slOk s sz a n c = true) (h1 : lo ≤ hi) (h2 : hi ≤ capHi n c) :
    ∃ A C, cv φ (.sl a n c) = .slice A n C ∧ hi ≤ C ∧ n ≤ C ∧ cv φ (asl sz a c lo hi) = .slice (if C = lo then A else A.map (·.add (lo * sz))) (hi - lo) (C - lo) := by
  cases c with
  | k c =>
    have hn : n ≤ c := Nat.le_of_ble_eq_true hok
    rcases a with _ | ⟨b, o⟩
    · refine ⟨none, c, rfl, h2, hn, ?_⟩
      simp only [asl, cv, Option.map_none]
      split <;> rfl
    · refine ⟨some ⟨(φ b).1, o, none⟩, c, rfl, h2, hn, ?_⟩
      simp only [asl, cv, cvs, cvc, Option.map_some, add_mk]
      by_cases hc : c = lo
      · subst hc
        simp
      · have : Nat.beq c lo = false := by
          cases hb : Nat.beq c lo with
          | false => rfl
          | true => exact absurd (Nat.eq_of_beq_eq_true hb) hc
        rw [this, if_neg hc]
        rfl
  | r l o0 =>
    obtain ⟨b, o, rfl, hsz, hM⟩ := slOk_some R hok
    simp only [capHi] at h2
    refine ⟨some (cvs φ b o n (.r l o0)), (φ b).2 - l, rfl, by omega, by omega, ?_⟩
    simp only [asl]
    by_cases hlo : lo = 0
    · subst hlo
      have hb0 : Nat.beq 0 0 = true := rfl
      simp only [hb0, cond_true, cv, cvc, Nat.sub_zero, Nat.zero_mul, Option.map_some, Addr.add_zero, ite_self]
      congr 2
      simp only [cvs]
      by_cases hn : n = 0
      · have : hi = 0 := by omega
        rw [hn, this]
      · have e : Nat.beq (φ b).2 l = false := by
          cases hb : Nat.beq (φ b).2 l with
          | false => rfl
          | true => have := Nat.eq_of_beq_eq_true hb; omega
        simp only [e, Bool.and_false, cond_false]
    · have hb0 : Nat.beq lo 0 = false := by
        cases hb : Nat.beq lo 0 with
        | false => rfl
        | true => exact absurd (Nat.eq_of_beq_eq_true hb) hlo
      have e : Nat.beq n 0 = false := by
        cases hb : Nat.beq n 0 with
        | false => rfl
        | true => have := Nat.eq_of_beq_eq_true hb; omega
      simp only [hb0, cond_false, cv, cvs, cvc, e, Bool.false_and, Option.map_some, add_mk]
      have hcap : (φ b).2 - (l + lo) = (φ b).2 - l - lo := by omega
      rw [hcap]
      by_cases hC : (φ b).2 - l = lo
      · have e1 : hi - lo = 0 := by omega
        have e2 : (φ b).2 = l + lo := by omega
        rw [if_pos hC, e1, e2]
        simp
      · rw [if_neg hC]
        have e2 : Nat.beq (φ b).2 (l + lo) = false := by
          cases hb : Nat.beq (φ b).2 (l + lo) with
          | false => rfl
          | true => have := Nat.eq_of_beq_eq_true hb; omega
        simp only [e2, Bool.and_false, cond_false]

theorem aslice_pval {P : Program} {φ : Phi} {s : St} {w : World} (R : Rel φ s w) {ρA : Tr V} {ρ : Env} (E : ER φ ρA ρ) {o : Oper} {t : TypeId} {x : Operand} {lo hi : Option Operand} {l h : Option Nat} {u v : V}
    (ho : o.op = .slice t x lo hi none) (hx : oget ρA x = some u) (hlo : obnd ρA lo = some l) (hhi : obnd ρA hi = some h) (hh : aslice P t s u l h = some v) : pval P o ρ fun v' => v' = cv φ v := by
  simp only [pval, ho]
  unfold aslice at hh
  split at hh <;> first | (cases hh; done) | skip
  · rename_i st
    obtain ⟨hb, hh⟩ := cond_some hh
    simp only [Option.some.injEq] at hh
    subst hh
    simp only [Bool.and_eq_true] at hb
    obtain ⟨⟨h1, h2⟩, h3⟩ := hb
    have h2 := Nat.le_of_ble_eq_true h2
    have h3 := Nat.le_of_ble_eq_true h3
    simp only [oget_sound E hx, cv, isStrT_some h1, obnd_sound E hlo, obnd_sound E hhi, bndN]
    refine strSl_in (by rw [bs_size]; exact h2) (by rw [bs_size]; exact h3) ?_
    rw [bs_size, bs_extract _ _ _ h3]
  · rename_i a n c
    split at hh <;> first | (cases hh; done) | skip
    rename_i sz hsz
    obtain ⟨hb, hh⟩ := cond_some hh
    simp only [Option.some.injEq] at hh
    subst hh
    simp only [Bool.and_eq_true] at hb
    obtain ⟨⟨h1, h2⟩, h3⟩ := hb
    have h2 := Nat.le_of_ble_eq_true h2
    have h3 := Nat.le_of_ble_eq_true h3
    obtain ⟨A, C, e1, e2, e3, e4⟩ := asl_sound R h1 h2 h3
    simp only [oget_sound E hx, e1, hsz, obnd_sound E hlo, obnd_sound E hhi, bndN]
    exact slN_in h2 e2 (fun _ => e3) e4.symm
  · rename_i b o'
    split at hh <;> first | (cases hh; done) | skip
    rename_i n sz hsz
    obtain ⟨hb, hh⟩ := cond_some hh
    simp only [Option.some.injEq] at hh
    subst hh
    simp only [Bool.and_eq_true] at hb
    have h2 := Nat.le_of_ble_eq_true hb.1
    have h3 := Nat.le_of_ble_eq_true hb.2
    obtain ⟨A, C, e1, e2, e3, e4⟩ := asl_sound (sz := sz) (a := some (b, o')) (n := n) (c := .k n) R (by simp [slOk]) h2 h3
    simp only [cv, cvs, cvc, Value.slice.injEq] at e1
    obtain ⟨rfl, _, rfl⟩ := e1
    simp only [oget_sound E hx, cv, hsz, nilN, obnd_sound E hlo, obnd_sound E hhi, bndN]
    exact slN_in h2 e2 (fun _ => e3) e4.symm

/-! ### Maps -/

theorem keyT_sound {P : Program} {φ : Phi} {t : TypeId} {k : V} (h : keyT P t k = true) : ∃ d, P.underlying t = some d ∧ (∀ em w, (Instr.checkKey em 10000 t (cv φ k)).run P w = .ok () w) ∧
    ∀ x r, akey k x = some r → Instr.sameNow d (cv φ k) (cv φ x) = some r := by
  unfold keyT at h
  split at h <;> first | (cases h; done) | skip
  · rename_i kk k1 a hd
    refine ⟨_, hd, ?_, ?_⟩
    · intro em w
      show (Instr.checkKey em (9999 + 1) t _).run P w = _
      generalize 9999 = d
      unfold Instr.checkKey
      simp only [bind, run_bind, run_underlying hd]
      rfl
    · intro x r hr
      cases x <;> simp only [akey] at hr <;> first | (cases hr; done) | skip
      rename_i k2 b
      obtain ⟨hk, hr2⟩ := cond_some hr
      have := keq_sound hk
      simp only [Option.some.injEq] at hr2
      rw [← hr2, ← this]
      simp only [cv, Instr.sameNow, if_true, ieq_eq]
      rw [Option.some.injEq, Bool.eq_iff_iff, beq_iff_eq, decide_eq_true_eq]
  · rename_i a hd
    refine ⟨_, hd, ?_, ?_⟩
    · intro em w
      show (Instr.checkKey em (9999 + 1) t _).run P w = _
      generalize 9999 = d
      unfold Instr.checkKey
      simp only [bind, run_bind, run_underlying hd]
      rfl
    · intro x r hr
      cases x <;> simp only [akey] at hr <;> first | (cases hr; done) | skip
      rename_i b
      simp only [Option.some.injEq] at hr
      subst hr
      simp only [cv, Instr.sameNow, beqs_eq, beq_toListBytes, bs_toList]
  · rename_i a hd
    refine ⟨_, hd, ?_, ?_⟩
    · intro em w
      show (Instr.checkKey em (9999 + 1) t _).run P w = _
      generalize 9999 = d
      unfold Instr.checkKey
      simp only [bind, run_bind, run_underlying hd]
      rfl
    · intro x r hr
      cases x <;> simp only [akey] at hr <;> first | (cases hr; done) | skip
      rename_i b
      simp only [Option.some.injEq] at hr
      subst hr
      simp only [cv, Instr.sameNow]
      cases a <;> cases b <;> rfl

theorem findNow_sound {φ : Phi} {d : TypeDesc} {k : V} (hs : ∀ x r, akey k x = some r → Instr.sameNow d (cv φ k) (cv φ x) = some r) : ∀ {es : List (V × V × Nat)} {i : Nat} {r}, afind k es i = some r →
    Instr.findNow d (cv φ k) (es.map (cme φ)) i = some (r.map fun p => (p.1, cv φ p.2.2.1))
  | [], i, r, h => by
    simp only [afind, Option.some.injEq] at h
    subst h; rfl
  | e :: es, i, r, h => by
    simp only [afind] at h
    simp only [List.map_cons, Instr.findNow]
    split at h <;> first | (cases h; done) | skip
    · rename_i hk
      simp only [Option.some.injEq] at h
      subst h
      have : Instr.sameNow d (cv φ k) (cme φ e).key = some true := hs _ _ hk
      rw [this]
      rfl
    · rename_i hk
      have : Instr.sameNow d (cv φ k) (cme φ e).key = some false := hs _ _ hk
      rw [this]
      exact findNow_sound hs h

theorem mapT_some {P : Program} {t k e : TypeId} (h : mapT P t = some (k, e)) : P.underlying t = some (.map k e) := by
  unfold mapT at h
  split at h
  · simp only [Option.some.injEq, Prod.mk.injEq] at h
    obtain ⟨rfl, rfl⟩ := h
    assumption
  · cases h

theorem Rel.map {φ : Phi} {s : St} {w : World} (R : Rel φ s w) {b ck : Nat} {es : List (V × V × Nat)} (h : s.get b = some (.map es ck)) : w.heap[(φ b).1]? = some (.map (es.map (cme φ)).toArray ck) := by
  obtain ⟨O, h1, h2⟩ := R.obj b _ h
  rw [h1]; congr 1

theorem run_getObj {P : Program} {w : World} {r : Nat} {O : Obj} (h : w.heap[r]? = some O) (hO : match O with | .cells _ _ _ => False | _ => True) : (getObj r).run P w = .ok O w := by
  simp only [getObj, Sem.run, h]
  cases O <;> first | exact hO.elim | rfl

theorem run_findKey {P : Program} {φ : Phi} {t : TypeId} {k : V} (hk : keyT P t k = true) {es : List (V × V × Nat)} {r} (h : afind k es 0 = some r) (w : World) :
    (Instr.findKey t (cv φ k) (es.map (cme φ))).run P w = .ok (r.map fun p => (p.1, cv φ p.2.2.1)) w := by
  obtain ⟨d, hd, _, hs⟩ := keyT_sound (φ := φ) hk
  unfold Instr.findKey
  simp only [bind, run_bind, run_underlying hd, findNow_sound hs h]
  rfl

theorem alookup_sound {P : Program} {φ : Phi} {s : St} {w : World} (R : Rel φ s w) {t : TypeId} {m k v : V} {ok : Bool} (h : alookup P t s m k ok = some v) :
    (Instr.lookup t (cv φ m) (cv φ k) ok).run P w = .ok (cv φ v) w := by
  unfold alookup at h
  split at h <;> first | (cases h; done) | skip
  rename_i kt e ht
  obtain ⟨hk, h⟩ := cond_some h
  split at h <;> first | (cases h; done) | skip
  rename_i es hes
  have hc := fun em => (keyT_sound (φ := φ) hk).choose_spec.2.1 em w
  have hm : (m = .map none ∧ es = []) ∨ ∃ r ck, m = .map (some r) ∧ w.heap[(φ r).1]? = some (.map (es.map (cme φ)).toArray ck) := by
    unfold amap at hes
    split at hes <;> first | (cases hes; done) | skip
    · simp only [Option.some.injEq] at hes
      exact .inl ⟨rfl, hes.symm⟩
    · rename_i r
      split at hes <;> first | (cases hes; done) | skip
      rename_i es' ck hg
      simp only [Option.some.injEq] at hes
      subst hes
      exact .inr ⟨r, ck, rfl, R.map hg⟩
  clear hes
  split at h <;> first | (cases h; done) | skip
  · rename_i i k0 v0 b0 hf
    simp only [Option.some.injEq] at h
    subst h
    have h1 := run_findKey (φ := φ) hk hf w
    rcases hm with ⟨rfl, rfl⟩ | ⟨rr, ck, rfl, hg⟩
    · simp [afind] at hf
    · unfold Instr.lookup
      simp only [cv, bind, pure, run_bind, Sem.bind, Sem.run, run_underlying (mapT_some ht), hc, run_getObj hg trivial, List.toList_toArray, h1, Option.map_some]
      cases ok <;> rfl
  · rename_i hf
    split at h <;> first | (cases h; done) | skip
    rename_i z hz
    simp only [Option.some.injEq] at h
    subst h
    have h1 := run_findKey (φ := φ) hk hf w
    rcases hm with ⟨rfl, rfl⟩ | ⟨rr, ck, rfl, hg⟩
    · unfold Instr.lookup
      simp only [List.map_nil] at h1
      simp only [cv, bind, pure, run_bind, Sem.bind, Sem.run, run_underlying (mapT_some ht), hc, h1, Option.map_none, zero_run (zeroA_some (φ := φ) hz)]
      cases ok <;> rfl
    · unfold Instr.lookup
      simp only [cv, bind, pure, run_bind, Sem.bind, Sem.run, run_underlying (mapT_some ht), hc, run_getObj hg trivial, List.toList_toArray, h1, Option.map_none, zero_run (zeroA_some (φ := φ) hz)]
      cases ok <;> rfl

/-! ### All that looks -/

theorem byteL_sound {φ : Phi} : ∀ {l : List V} {r : List Nat}, byteL l = some r → cvl φ l = r.map fun (n : Nat) => Value.int .u8 (n : Int)
  | [], r, h => by simp only [byteL, Option.some.injEq] at h; subst h; rfl
  | v :: l, r, h => by
    unfold byteL at h
    split at h <;> first | (cases h; done) | skip
    · rename_i hh; cases hh
    · rename_i n l' hh
      cases hh
      split at h <;> first | (cases h; done) | skip
      rename_i r' hr
      simp only [Option.some.injEq] at h
      subst h
      simp only [cvl, cv, byteL_sound hr, List.map_cons]
      rfl

theorem cvs_pos (φ : Phi) (b o : Nat) {n : Nat} (h : 0 < n) (c : Cap) : cvs φ b o n c = ⟨(φ b).1, o, none⟩ := by
  cases c with
  | k c => rfl
  | r l o0 =>
    have : Nat.beq n 0 = false := by
      cases hb : Nat.beq n 0 with
      | false => rfl
      | true => have := Nat.eq_of_beq_eq_true hb; omega
    simp only [cvs, this, Bool.false_and, cond_false]

theorem run_afirst {P : Program} {φ : Phi} {s : St} {w : World} (R : Rel φ s w) {sz n : Nat} {x : V} {l : List V} (h : afirst s sz n x = some l) :
    (Builtin.firstCells sz n (cv φ x)).run P w = .ok (cvl φ l).toArray w := by
  unfold afirst at h
  split at h
  · simp only [Option.some.injEq] at h
    subst h; rfl
  · rename_i b o m c
    cases hb : Nat.beq (n * sz) 0
    · rw [hb] at h
      simp only [cond_false] at h
      split at h <;> first | (cases h; done) | skip
      rename_i xs T opn hg
      obtain ⟨hl, h⟩ := cond_some h
      simp only [Option.some.injEq] at h
      subst h
      simp only [Bool.and_eq_true] at hl
      have hm : 0 < m := by simpa [Nat.blt_eq] using hl.2
      have hl := Nat.le_of_ble_eq_true hl.1
      obtain ⟨r, hw, _, _⟩ := R.cells hg
      simp only [cv, Builtin.firstCells, cvs_pos φ b o hm c]
      rw [run_loadCells hw (by rw [List.length_append, cvl_length]; omega), part_app hl]
    · rw [hb] at h
      simp only [cond_true, Option.some.injEq] at h
      subst h
      simp only [cv, Builtin.firstCells, Nat.eq_of_beq_eq_true hb]
      rfl
  · rename_i st
    obtain ⟨hb, h⟩ := cond_some h
    simp only [Option.some.injEq] at h
    subst h
    simp only [Bool.and_eq_true] at hb
    have hl := Nat.le_of_ble_eq_true hb.2
    simp only [cv, Builtin.firstCells, bs_extract _ _ _ hl]
    simp only [pure, Sem.run]
    congr 1
    apply Array.ext'
    simp only [bs, List.drop_zero, Nat.sub_zero, cvl_eq, Array.toList_map, List.map_map]
    refine List.map_congr_left fun b _ => ?_
    simp [Nat.toUInt8, cv]
  · cases h

theorem u8Sl_some {P : Program} {t : TypeId} (h : u8Sl P t = true) : ∃ e, P.underlying t = some (.slice e) ∧ P.underlying e = some (.int .u8) := by
  unfold u8Sl at h
  split at h <;> first | (cases h; done) | skip
  rename_i e he
  split at h <;> first | (cases h; done) | skip
  exact ⟨e, he, by assumption⟩

theorem run_bytesFor {P : Program} (w : World) {F : Value → ByteArray → Sem (ForInStep ByteArray)} (hF : ∀ (n : Nat) (s : ByteArray), F (.int .u8 (n : Int)) s = .pure (.yield (s.push (UInt8.ofNat n)))) : ∀ (l : List Nat) (acc : ByteArray),
    ((forIn (l.map fun (n : Nat) => Value.int .u8 (n : Int)) acc F) : Sem ByteArray).run P w = .ok (acc ++ bs l) w
  | [], acc => by
    have : acc ++ bs [] = acc := by apply ByteArray.ext; simp [bs]
    rw [this]
    rfl
  | n :: l, acc => by
    have ih := run_bytesFor (P := P) w hF l (acc.push (UInt8.ofNat n))
    simp only [List.map_cons, List.forIn_cons, bind, hF, Sem.bind]
    rw [ih]
    congr 1
    apply ByteArray.ext
    simp [bs, Nat.toUInt8]

theorem ar_sound {P : Program} {φ : Phi} {s : St} {w : World} (R : Rel φ s w) {ρA : Tr V} {ρ : Env} (E : ER φ ρA ρ) {o : Oper} {v : V} (h : ar P o ρA s = some v) :
    (execOp (ev ρ) o).run P w = .ok (.value (cv φ v)) w := by
  cases ho : o.op
  case load t x =>
    simp only [ar, ho] at h
    split at h <;> first | (cases h; done) | skip
    rename_i b off hx
    simp only [execOp, ho, oget_sound E hx, cv]
    exact run_value1 (aload_sound R h)
  case slice t x lo hi mx =>
    cases mx with
    | some m => simp only [ar, ho] at h; cases h
    | none =>
      simp only [ar, ho] at h
      split at h <;> first | (cases h; done) | skip
      rename_i u hx
      split at h <;> first | (cases h; done) | skip
      rename_i l hlo
      split at h <;> first | (cases h; done) | skip
      rename_i hh hhi
      obtain ⟨v', hv', hf⟩ := pval_sound (aslice_pval R E ho hx hlo hhi h)
      rw [← hv']
      exact hf w
  case lookup t m k ok =>
    simp only [ar, ho] at h
    split at h <;> first | (cases h; done) | skip
    rename_i m' hm
    split at h <;> first | (cases h; done) | skip
    rename_i k' hk
    simp only [execOp, ho, oget_sound E hm, oget_sound E hk]
    exact run_value1 (alookup_sound R h)
  case convert st d x =>
    simp only [ar, ho] at h
    obtain ⟨hb, h⟩ := cond_some h
    simp only [Bool.and_eq_true] at hb
    split at h <;> first | (cases h; done) | skip
    rename_i a n c hx
    split at h <;> first | (cases h; done) | skip
    rename_i l hl
    split at h <;> first | (cases h; done) | skip
    rename_i r hr
    simp only [Option.some.injEq] at h
    subst h
    obtain ⟨e, he, hu⟩ := u8Sl_some hb.1
    simp only [execOp, ho, oget_sound E hx]
    refine run_value1 ?_
    have hfc := run_afirst (P := P) R hl
    rw [byteL_sound hr] at hfc
    rcases a with _ | ⟨b, off⟩
    · simp only [cv, Builtin.firstCells, pure, Sem.run, Result.ok.injEq, and_true] at hfc
      have : r = [] := by
        cases r with
        | nil => rfl
        | cons a l => simp at hfc
      subst this
      simp only [convert, cv, bind, run_bind, run_underlying he, run_underlying (isStrT_some hb.2), run_underlying hu]
      rfl
    · simp only [cv, Builtin.firstCells, Nat.mul_one] at hfc
      simp only [convert, cv, bind, run_bind, run_underlying he, run_underlying (isStrT_some hb.2), run_underlying hu, Conv.bytesToString, hfc]
      rw [← Array.forIn_toList]
      simp only [bind, pure]
      rw [run_bytesFor (P := P) w (fun _ _ => rfl) r .empty]
      simp [Sem.run]
  case call c =>
    simp only [ar, ho] at h
    split at h <;> first | (cases h; done) | skip
    rename_i hc
    split at h <;> first | (cases h; done) | skip
    rename_i t ht
    obtain ⟨hmt, h⟩ := cond_some h
    split at h <;> first | (cases h; done) | skip
    rename_i m hm
    split at h <;> first | (cases h; done) | skip
    rename_i es hes
    simp only [Option.some.injEq] at h
    subst h
    obtain ⟨k, e, hke⟩ := isMapT_some hmt
    rw [exec_builtin ho hc, args_sound E hm]
    refine run_value1 ?_
    unfold amap at hes
    split at hes <;> first | (cases hes; done) | skip
    · simp only [Option.some.injEq] at hes
      subst hes
      simp only [Builtin.len_, ht, cvl, cv, List.getElem?_toArray, List.getElem?_cons_zero, bind, run_bind, run_underlying hke]
      rfl
    · rename_i r
      split at hes <;> first | (cases hes; done) | skip
      rename_i es' ck hg
      simp only [Option.some.injEq] at hes
      subst hes
      simp only [Builtin.len_, ht, cvl, cv, List.getElem?_toArray, List.getElem?_cons_zero, bind, run_bind, run_underlying hke, run_getObj (R.map hg) trivial]
      simp [pure, Sem.run, goInt]
  all_goals (simp only [ar, ho] at h; cases h)

end Cv
