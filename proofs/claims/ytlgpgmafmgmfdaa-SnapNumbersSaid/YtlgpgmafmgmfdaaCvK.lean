/- Slices: those that are one's own, those that are read; append, copy, make. No condition. -/
import Derived.Test.YtlgpgmafmgmfdaaCvJ
set_option linter.unusedSimpArgs false
set_option linter.unusedVariables false
namespace Cv
open Go Go.RowKit

/-- A slice that is one's own: nil, or the head of a row. -/
def slO (e sz : Nat) (a : Option Addr) (n k : Nat) (xs : List Value) : HP := fun h =>
  (a = none ∧ n = 0 ∧ k = 0 ∧ xs = [] ∧ h = pe) ∨
  ∃ b r, a = some ⟨b, 0, none⟩ ∧ h = one b (.cells (xs ++ r).toArray e) ∧ xs.length = n * sz ∧ (xs ++ r).length = k * sz ∧ n ≤ k

/-- A slice that is looked at. -/
def slR (sz : Nat) (a : Option Addr) (n k : Nat) (xs : List Value) : HP := fun h =>
  (n = 0 ∧ xs = [] ∧ h = pe) ∨
  ∃ (b o : Nat) (l : List Value) (T : TypeId) (fr : Nat × Nat), a = some ⟨b, o, none⟩ ∧ h = one b (.cells l.toArray T fr) ∧ (l.drop o).take (n * sz) = xs ∧ xs.length = n * sz ∧ n ≤ k

theorem slR_of_slO {e sz : Nat} {a : Option Addr} {n k : Nat} {xs : List Value} {h : PH} (H : slO e sz a n k xs h) : slR sz a n k xs h := by
  rcases H with ⟨rfl, rfl, rfl, rfl, rfl⟩ | ⟨b, r, rfl, rfl, h1, h2, h3⟩
  · exact .inl ⟨rfl, rfl, rfl⟩
  · right
    exact ⟨b, 0, _, e, _, rfl, rfl, by rw [List.drop_zero, ← h1]; simp, h1, h3⟩

theorem Hp.satR {k : Ko} {w : World} {e sz : Nat} {a : Option Addr} {n c : Nat} {xs : List Value} {L : List HP} (H : Hp k w (slO e sz a n c xs :: L)) : Sat w (slR sz a n c xs) := by
  obtain ⟨h, hh, s⟩ := H.sat
  exact ⟨h, slR_of_slO hh, s⟩

theorem Hp.slcases {k : Ko} {w : World} {e sz : Nat} {a : Option Addr} {n c : Nat} {xs : List Value} {L : List HP} (H : Hp k w (slO e sz a n c xs :: L)) :
    (a = none ∧ n = 0 ∧ c = 0 ∧ xs = [] ∧ Hp k w L) ∨
    ∃ b r, a = some ⟨b, 0, none⟩ ∧ xs.length = n * sz ∧ (xs ++ r).length = c * sz ∧ n ≤ c ∧ Hp k w (pt b (.cells (xs ++ r).toArray e) :: L) := by
  obtain ⟨hk, hs, hh⟩ := H
  cases hh with
  | cons ha hsub hd hr =>
    rcases ha with ⟨h1, h2, h3, h4, h5⟩ | ⟨b, r, h1, h2, h3, h4, h5⟩
    · exact .inl ⟨h1, h2, h3, h4, hk, _, hr⟩
    · subst h2
      exact .inr ⟨b, r, h1, h3, h4, h5, hk, _, .cons rfl hsub hd hr⟩

theorem Hp.slmk {k : Ko} {w : World} {e sz b n c : Nat} {xs r : List Value} {L : List HP} (H : Hp k w (pt b (.cells (xs ++ r).toArray e) :: L)) (h1 : xs.length = n * sz) (h2 : (xs ++ r).length = c * sz) (h3 : n ≤ c) :
    Hp k w (slO e sz (some ⟨b, 0, none⟩) n c xs :: L) := H.imp fun x hx => .inr ⟨b, r, rfl, hx, h1, h2, h3⟩

theorem slO_nil (e sz : Nat) : slO e sz none 0 0 [] pe := .inl ⟨rfl, rfl, rfl, rfl, rfl⟩

theorem Hp.nil {k : Ko} {w : World} {L : List HP} (e sz : Nat) (H : Hp k w L) : Hp k w (slO e sz none 0 0 [] :: L) :=
  ((@hp_pure k w True L).2 ⟨trivial, H⟩).imp fun x hx => by rw [hx.2]; exact slO_nil e sz

/-- A new row, as a slice. -/
theorem Hp.lit {k : Ko} {w : World} {b e sz n : Nat} {l : List Value} {L : List HP} (H : Hp k w (pt b (.cells l.toArray e) :: L)) (hl : l.length = n * sz) : Hp k w (slO e sz (some ⟨b, 0, none⟩) n n l :: L) :=
  H.imp fun x hx => .inr ⟨b, [], rfl, by rw [hx, List.append_nil], hl, by simpa using hl, Nat.le_refl _⟩

theorem slO_len {e sz : Nat} {a : Option Addr} {n k : Nat} {xs : List Value} {h : PH} (H : slO e sz a n k xs h) : xs.length = n * sz ∧ n ≤ k := by
  rcases H with ⟨rfl, rfl, rfl, rfl, rfl⟩ | ⟨b, r, rfl, rfl, h1, h2, h3⟩
  · simp
  · exact ⟨h1, h3⟩

theorem Hp.len {k : Ko} {w : World} {e sz : Nat} {a : Option Addr} {n c : Nat} {xs : List Value} {L : List HP} (H : Hp k w (slO e sz a n c xs :: L)) : xs.length = n * sz ∧ n ≤ c := by
  obtain ⟨h, hh, s⟩ := H.sat
  exact slO_len hh

theorem slR_len {w : World} {sz : Nat} {a : Option Addr} {n k : Nat} {xs : List Value} (H : Sat w (slR sz a n k xs)) : xs.length = n * sz := by
  obtain ⟨h, hh, s⟩ := H
  rcases hh with ⟨rfl, rfl, _⟩ | ⟨b, o, l, T, fr, rfl, rfl, h1, h2, _⟩
  · simp
  · exact h2

/-- Where the elements of a slice lie. -/
theorem slR_at {w : World} {sz : Nat} {a : Option Addr} {n k : Nat} {xs : List Value} (H : Sat w (slR sz a n k xs)) (hn : 0 < n) :
    ∃ (b o : Nat) (l : List Value) (T : TypeId) (fr : Nat × Nat), a = some ⟨b, o, none⟩ ∧ w.heap[b]? = some (.cells l.toArray T fr) ∧ (l.drop o).take (n * sz) = xs := by
  obtain ⟨h, hh, s⟩ := H
  rcases hh with ⟨rfl, rfl, _⟩ | ⟨b, o, l, T, fr, rfl, rfl, h1, h2, _⟩
  · omega
  · exact ⟨b, o, l, T, fr, rfl, s b _ (by simp [one]), h1⟩

/-! ### Looking at an element -/

theorem idxN.mk {p : Option Addr} {n : Nat} {i : Int} {K : Addr → Prop} {a : Addr} (hp : p = some a) (h : 0 ≤ i ∧ i < n) (hk : K a) : idxN p n i K := by subst hp; exact ⟨h, hk⟩

theorem nilN.mk {a : Addr} {K : Addr → Prop} (hk : K a) : nilN (some a) K := hk

theorem take_drop_part {l xs : List Value} {o n sz i : Nat} (h : (l.drop o).take (n * sz) = xs) (hi : i < n) : (l.drop (o + i * sz)).take sz = (xs.drop (i * sz)).take sz := by
  subst h
  rw [List.drop_take, List.drop_drop, List.take_take]
  congr 1
  have : i * sz + sz ≤ n * sz := by
    have := Nat.mul_le_mul_right sz (show i + 1 ≤ n by omega)
    rw [Nat.succ_mul] at this
    exact this
  omega

/-- An element of one cell. -/
theorem idx_cell {P : Program} {t : TypeId} {w : World} {a : Option Addr} {n k : Nat} {xs : List Value} (H : Sat w (slR 1 a n k xs)) (hs : scal P t = true) {i : Int} (h : 0 ≤ i ∧ i < n) {K : Addr → Prop}
    (hk : ∀ q, (∀ w' , Sat w' (slR 1 a n k xs) → ∀ v, xs[i.toNat]? = some v → Holds P t (q.add (i.toNat * 1)) w' v) → K q) : idxN a n i K := by
  have hn : 0 < n := by omega
  obtain ⟨b, o, l, T, fr, rfl, hb, hx⟩ := slR_at H hn
  refine ⟨h, hk _ fun w' H' v hv => ?_⟩
  obtain ⟨b', o', l', T', fr', hbo, hb', hx'⟩ := slR_at H' hn
  cases hbo
  rw [add_mk]
  refine holds_cell hs hb' ?_
  rw [← hx'] at hv
  rw [List.getElem?_take, List.getElem?_drop] at hv
  split at hv
  · simpa using hv
  · cases hv

/-- A part of an element: field number f. -/
theorem idx_field {P : Program} {t : TypeId} {w : World} {sz f : Nat} {a : Option Addr} {n k : Nat} {xs : List Value} (H : Sat w (slR sz a n k xs)) (hs : scal P t = true) {i : Nat} (h : i < n) (hf : f < sz) {v : Value} (hv : xs[i * sz + f]? = some v) :
    ∃ q, a = some q ∧ Holds P t ((q.add (i * sz)).add f) w v := by
  have hn : 0 < n := by omega
  obtain ⟨b, o, l, T, fr, rfl, hb, hx⟩ := slR_at H hn
  refine ⟨_, rfl, ?_⟩
  rw [add_mk, add_mk]
  refine holds_cell hs hb ?_
  rw [← hx, List.getElem?_take, List.getElem?_drop] at hv
  split at hv
  · rw [Nat.add_assoc]; exact hv
  · cases hv

/-- A whole element that is a struct. -/
theorem idx_agg {P : Program} {t : TypeId} {w : World} {sz : Nat} {a : Option Addr} {n k : Nat} {xs vs : List Value} (H : Sat w (slR sz a n k xs)) (hs : aggS P t = some sz) {i : Nat} (h : i < n) (hv : (xs.drop (i * sz)).take sz = vs) :
    ∃ q, a = some q ∧ Holds P t (q.add (i * sz)) w (.agg vs.toArray) := by
  have hn : 0 < n := by omega
  have hlen := slR_len H
  obtain ⟨b, o, l, T, fr, rfl, hb, hx⟩ := slR_at H hn
  refine ⟨_, rfl, ?_⟩
  rw [add_mk]
  refine holds_agg hs hb ((take_drop_part hx h).trans hv) ?_
  rw [← hv, List.length_take, List.length_drop, hlen]
  have : i * sz + sz ≤ n * sz := by
    have := Nat.mul_le_mul_right sz (show i + 1 ≤ n by omega)
    rw [Nat.succ_mul] at this
    exact this
  omega

/-! ### append -/

theorem growBy_le (m : Nat) (hm : 256 ≤ m) : ∀ (r c : Nat), c ≤ 2 * m → Builtin.growBy m r c ≤ 2 * m
  | 0, c, h => h
  | r + 1, c, h => by
    unfold Builtin.growBy
    split
    · exact h
    · exact growBy_le m hm r _ (by omega)

theorem nextcap_le {need cap : Nat} (h : cap < need) : Builtin.nextslicecap need cap ≤ 2 * need := by
  unfold Builtin.nextslicecap
  split
  · omega
  · split
    · omega
    · exact growBy_le need (by omega) 4 cap (by omega)

/-- What is appended: a slice that is looked at, or a string. -/
def Src (sz : Nat) (w : World) (x : Value) (m : Nat) (ys : List Value) : Prop :=
  (∃ a k, x = .slice a m k ∧ Sat w (slR sz a m k ys)) ∨ (∃ s : ByteArray, x = .string s ∧ sz = 1 ∧ m = s.size ∧ ys = s.data.toList.map fun b => .int .u8 b.toNat)

theorem src_run {P : Program} {sz : Nat} {w : World} {x : Value} {m : Nat} {ys : List Value} (h : Src sz w x m ys) :
    (Builtin.lenOf x).run P w = .ok m w ∧ (Builtin.firstCells sz m x).run P w = .ok ys.toArray w ∧ ys.length = m * sz := by
  rcases h with ⟨a, k, rfl, H⟩ | ⟨s, rfl, rfl, rfl, rfl⟩
  · refine ⟨rfl, ?_, slR_len H⟩
    have hl := slR_len H
    obtain ⟨h, hh, s⟩ := H
    rcases hh with ⟨rfl, rfl, _⟩ | ⟨b, o, l, T, fr, rfl, rfl, h1, h2, _⟩
    · cases a with
      | none => rfl
      | some a => simp [Builtin.firstCells, loadCells, loadCellsFrom, pure, Sem.run]
    · have hb := s b _ (show one b _ b = _ by simp [one]; rfl)
      unfold Builtin.firstCells
      by_cases h0 : m * sz = 0
      · rw [h0] at h1 hl ⊢
        have : ys = [] := List.eq_nil_of_length_eq_zero hl
        subst this
        rfl
      · have : o + m * sz ≤ l.length := by
          rw [← h1, List.length_take, List.length_drop] at h2
          omega
        rw [run_loadCells hb this, h1]
  · refine ⟨rfl, ?_, by simp⟩
    simp only [Builtin.firstCells]
    have : s.extract 0 s.size = s := by simp
    rw [this]
    simp only [pure, Sem.run]
    congr 1
    apply Array.ext'
    simp

def srcT (P : Program) (t : TypeId) : Bool :=
  match P.underlying t with
  | some (.slice _) => true
  | some .string => true
  | _ => false

theorem srcT_out {P : Program} {t : TypeId} (h : srcT P t = true) : (∃ e, P.underlying t = some (.slice e)) ∨ P.underlying t = some .string := by
  unfold srcT at h
  cases hd : P.underlying t with
  | none => rw [hd] at h; cases h
  | some d =>
    rw [hd] at h
    cases d <;> first | exact .inl ⟨_, rfl⟩ | exact .inr rfl | (cases h)

theorem Hp.append {P : Program} {k : Ko} {w : World} {L : List HP} {t1 t2 rt e sz by_ : Nat} {z : Array Value} (hi : slInfo P t1 = some (e, sz, by_, z)) (h2 : srcT P t2 = true) {a : Option Addr} {n c : Nat} {xs : List Value}
    (H : Hp k w (slO e sz a n c xs :: L)) {x : Value} {m : Nat} {ys : List Value} (hx : Src sz w x m ys) (hv : ∀ v ∈ ys, v.oneC = true) (hz : z.size = sz) (hby : 0 < by_) (hb : (n + m) * by_ ≤ 70368744177664) :
    ∃ a' c' w', Runs P (Builtin.append_ #[t1, t2] rt #[.slice a n c, x]) w (.slice a' (n + m) c') w' ∧ Hp k w' (slO e sz a' (n + m) c' (xs ++ ys) :: L) := by
  obtain ⟨i, zv, q1, q2, rfl, rfl, q5, rfl⟩ := slInfo_some hi
  obtain ⟨r1, r2, hylen⟩ := src_run (P := P) hx
  obtain ⟨hxlen, hnc⟩ := H.len
  have hnm : n + m ≤ 70368744177664 := Nat.le_trans (Nat.le_mul_of_pos_right _ hby) hb
  have hrow : (n + m) * i.size = n * i.size + m * i.size := Nat.add_mul _ _ _
  by_cases hfit : n + m ≤ c
  · -- within the capacity
    rcases H.slcases with ⟨rfl, rfl, rfl, rfl, H0⟩ | ⟨b, r, rfl, h3, h4, h5, H0⟩
    · have hm : m = 0 := by omega
      subst hm
      have hys : ys = [] := List.eq_nil_of_length_eq_zero (by simpa using hylen)
      subst hys
      refine ⟨none, 0, w, ?_, by simpa using H⟩
      unfold Runs Builtin.append_
      rcases srcT_out h2 with ⟨e2, hd⟩ | hd <;>
      simp only [List.getElem?_toArray, List.getElem?_cons_zero, List.getElem?_cons_succ, bind, pure, run_bind, Sem.bind, Sem.run, run_underlying q1, run_sizeOf q2, run_underlying hd, Bool.false_eq_true, if_false, r1, r2, Nat.add_zero, Nat.le_refl, if_true, Bool.not_false]
    · have hroom : n * i.size + ys.length ≤ (xs ++ r).length := by
        rw [h4, hylen, ← hrow]; exact Nat.mul_le_mul_right _ hfit
      have hst := run_storeCells (P := P) ys 0 (n * i.size) (xs ++ r) w H0.get (by omega) hv
      simp only [Nat.add_zero] at hst
      have hspl : spl (xs ++ r) (n * i.size) ys = (xs ++ ys) ++ r.drop ys.length := by
        simp only [spl]
        rw [← h3, List.take_left, List.drop_append]
        simp
      rw [hspl] at hst
      refine ⟨some ⟨b, 0, none⟩, c, _, ?_, (H0.upd _).slmk (r := r.drop ys.length) (by rw [List.length_append, h3, hylen, hrow]) ?_ hfit⟩
      · unfold Runs Builtin.append_
        rcases srcT_out h2 with ⟨e2, hd⟩ | hd <;>
        simp only [List.getElem?_toArray, List.getElem?_cons_zero, List.getElem?_cons_succ, bind, pure, run_bind, Sem.bind, Sem.run, run_underlying q1, run_sizeOf q2, run_underlying hd, Bool.false_eq_true, if_false, r1, r2, hfit, if_true, add_mk, Nat.zero_add, hst, Bool.not_false]
      · rw [← h4]
        simp only [List.length_append, List.length_drop] at hroom ⊢
        omega
  · have hc1 : ¬ (((n + m : Nat) : Int) > IntKind.i64.max ∧ (False ∨ i.bytes = 0)) := by
      rintro ⟨_, h | h⟩
      · exact h
      · omega
    have hc2 : ¬ (Builtin.nextslicecap (n + m) c * i.bytes > 2 ^ 48) := by
      have := nextcap_le (need := n + m) (cap := c) (by omega)
      have := Nat.mul_le_mul_right i.bytes this
      have e : 2 * (n + m) * i.bytes = 2 * ((n + m) * i.bytes) := by rw [Nat.mul_assoc]
      omega
    have hold : (Builtin.firstCells i.size n (.slice a n c)).run P w = .ok xs.toArray w := (src_run (P := P) (.inl ⟨a, c, rfl, H.satR⟩)).2.1
    have hzr : ∀ w, (zeroValue e).run P w = .ok zv w := fun w => zero_run (by unfold zero?; rw [q2]; exact q5) w
    have hti : ∀ w, (typeInfo e).run P w = .ok i w := fun w => run_typeInfo q2 w
    generalize hcap : (Question.appendCap (n + m) c e).cut (w.tape w.drawn (.appendCap (n + m) c e)) = nc
    have hge : n + m ≤ nc := by
      rw [← hcap]; simp only [Question.cut]; omega
    have r2' : (Builtin.firstCells i.size m x).run P w.drew = .ok ys.toArray w.drew := by
      have hx' : Src i.size w.drew x m ys := by
        rcases hx with ⟨a, kk, rfl, H⟩ | h
        · exact .inl ⟨a, kk, rfl, H.below ((Below.refl _ _).drew)⟩
        · exact .inr h
      exact (src_run (P := P) hx').2.1
    have hold' : (Builtin.firstCells i.size n (.slice a n c)).run P w.drew = .ok xs.toArray w.drew := (src_run (P := P) (.inl ⟨a, c, rfl, H.satR.below ((Below.refl _ _).drew)⟩)).2.1
    have hch : (choose (.appendCap (n + m) c e)).run P w = .ok nc w.drew := by
      simp only [choose, Sem.run, Question.forced, Bool.false_eq_true, if_false, hcap]
      rfl
    have hnew := (H.drop.drew).new (.cells (xs ++ (ys ++ (Builtin.zeroCells zv.cells (nc - (n + m))).toList)).toArray e)
    have hlen : (ys ++ (Builtin.zeroCells zv.cells (nc - (n + m))).toList).length = m * i.size + (nc - (n + m)) * i.size := by
      rw [List.length_append, hylen, Array.length_toList, size_zeroCells, hz]
    have harr : xs.toArray ++ ys.toArray ++ Builtin.zeroCells zv.cells (nc - (n + m)) = (xs ++ (ys ++ (Builtin.zeroCells zv.cells (nc - (n + m))).toList)).toArray := by
      apply Array.ext'
      simp
    refine ⟨some ⟨w.drew.heap.size, 0, none⟩, nc, w.drew.alloc (.cells (xs ++ (ys ++ (Builtin.zeroCells zv.cells (nc - (n + m))).toList)).toArray e), ?_, ?_⟩
    · unfold Runs Builtin.append_
      rcases srcT_out h2 with ⟨e2, hd⟩ | hd <;>
      simp only [List.getElem?_toArray, List.getElem?_cons_zero, List.getElem?_cons_succ, bind, pure, run_bind, Sem.bind, Sem.run, run_underlying q1, run_sizeOf q2, run_underlying hd, Bool.false_eq_true, if_false, r1, hfit, hti, hc1, hc2, hch, run_askRoom, hold', r2', hzr, Bool.not_false, if_true, harr, newRow, newObj]
      all_goals rfl
    · have := Hp.slmk (c := nc) (n := n + m) (sz := i.size) (xs := xs ++ ys) (r := (Builtin.zeroCells zv.cells (nc - (n + m))).toList) (by rw [List.append_assoc]; exact hnew) (by rw [List.length_append, hxlen, hylen, hrow]) ?_ hge
      · exact this
      · rw [List.append_assoc, List.length_append, hlen, hxlen, ← Nat.add_mul, ← Nat.add_mul]
        congr 1
        omega

end Cv
